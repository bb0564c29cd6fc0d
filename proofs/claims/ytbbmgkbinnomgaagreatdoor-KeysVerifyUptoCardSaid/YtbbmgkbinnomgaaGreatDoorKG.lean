/- Errors, and errors.As at a number of the program's own. -/
import Derived.Test.YtbbmgkbinnomgaaGreatDoorSL
import Derived.Stop.Asserts
import Derived.LaidEql
import Derived.Test.YtbbmgkbinnomgaaGreatDoorCards
import Derived.Test.YtbbmgkbinnomgaaGreatDoorTie
import Derived.WalkKit
import Derived.ProofKit
import Derived.OpenShut
import Derived.OpenVars
import Derived.Deep.DeepHandedRow
import Derived.LaidLaws
import Derived.LaidHandle
import Derived.Lib.LaidTab
import Derived.Test.YtbbmgkbinnomgaaGreatDoorKT
import Derived.Test.YtbbmgkbinnomgaaGreatDoorRows
set_option linter.unusedVariables false
set_option linter.unusedSimpArgs false
set_option linter.unusedSectionVars false
namespace Go.Isk
open Go Go.RowKit Go.Extern
section
variable {P : Program}
theorem oN_ext {f : Nat} {e : Array Value → Sem Value} {args : Array Value} {w w' : World} {v : Value} {k : Value → World → Prop}
    (hf : ((P.funcs[f]?).map fun fn => (fn.name == "runtime.NumGoroutine", fn.body.isNone, (Extern.findNext fn).isNone, Extern.find fn)) = some (false, true, true, some e))
    (hr : (e args).run P w = .ok v w') (hk : k v w') : oN P (callFunc f args) w k := by
  refine ⟨?_⟩
  obtain ⟨fn, h1, h2⟩ := Option.map_eq_some_iff.1 hf
  simp only [Prod.mk.injEq] at h2
  rw [run_callFunc_extern h1 h2.1 h2.2.1 (by simpa using h2.2.2.1) h2.2.2.2, hr]
  exact hk
theorem iv_ext {f t : Nat} {x r : Value} {name : String} {e : Array Value → Sem Value} {args : Array Value} {w w' : World} {v : Value} {k : Value → World → Prop}
    (hm : (Go.method (P.types.size + Made.depth) t x name).run P w = .ok (f, r) w)
    (hf : ((P.funcs[f]?).map fun fn => (fn.name == "runtime.NumGoroutine", fn.body.isNone, (Extern.findNext fn).isNone, Extern.find fn)) = some (false, true, true, some e))
    (hr : (e (#[r] ++ args)).run P w = .ok v w') (hk : k v w') : iv P (.iface t x) name args w k := by
  refine ⟨?_⟩
  have h := (oN_ext hf hr hk).out
  have e1 : (invoke (.fn (.method name) #[]) (#[Value.iface t x] ++ args)).run P w = (callFunc f (#[r] ++ args)).run P w := by
    simp only [invoke, callMethod]
    simp only [Array.getElem?_append, List.size_toArray, List.length_cons, List.length_nil]
    simp only [Nat.zero_add, Nat.lt_one_iff, if_true, List.getElem?_toArray, List.getElem?_cons_zero]
    have ex : (#[Value.iface t x] ++ args).extract 1 (#[Value.iface t x] ++ args).size = args := by
      apply Array.ext' ; simp
    rw [ex]
    have hp : Sem.run P program w = .ok P w := rfl
    simp only [Sem.run_bind, hp, Result.andThen_ok, hm]
  rw [e1]; exact h
theorem iv_fn {f t : Nat} {x r : Value} {name : String} {args : Array Value} {w : World} {k : Value → World → Prop}
    (hm : (Go.method (P.types.size + Made.depth) t x name).run P w = .ok (f, r) w) (hb : bodied P f = true) (hk : C P f (#[r] ++ args) w k) : iv P (.iface t x) name args w k := by
  refine ⟨?_⟩
  have e1 : (invoke (.fn (.method name) #[]) (#[Value.iface t x] ++ args)).run P w = (callFunc f (#[r] ++ args)).run P w := by
    simp only [invoke, callMethod]
    simp only [Array.getElem?_append, List.size_toArray, List.length_cons, List.length_nil]
    simp only [Nat.zero_add, Nat.lt_one_iff, if_true, List.getElem?_toArray, List.getElem?_cons_zero]
    have ex : (#[Value.iface t x] ++ args).extract 1 (#[Value.iface t x] ++ args).size = args := by
      apply Array.ext' ; simp
    rw [ex]
    have hp : Sem.run P program w = .ok P w := rfl
    simp only [Sem.run_bind, hp, Result.andThen_ok, hm]
  rw [e1, run_bodied hb]; exact hk
def assT (P : Program) (t a : Nat) (has : Bool) : Bool := match P.underlying a, P.info? t, P.info? a with
  | some (.interface want), some i, some j => (lacking want i.methods).isEmpty == has && (match j.zero with | some .nilIface => true | _ => false)
  | _, _, _ => false
theorem ass_lacks {t a xT : Nat} {v : Value} {w : World} (h : assT P t a false = true) : (Instr.typeAssert (.iface t v) xT a true).run P w = .ok (.tuple #[.nilIface, .bool false]) w := by
  unfold assT at h
  split at h
  · rename_i want i j hu hi hj
    simp only [Bool.and_eq_true] at h
    obtain ⟨h1, h2⟩ := h
    split at h2
    · rename_i hz
      exact run_typeAssert_lacks hu hi hj hz (fun e => by rw [e] at h1; cases h1)
    · cases h2
  · cases h
theorem ass_has {t a xT : Nat} {v : Value} {w : World} (h : assT P t a true = true) : (Instr.typeAssert (.iface t v) xT a true).run P w = .ok (.tuple #[.iface t v, .bool true]) w := by
  unfold assT at h
  split at h
  · rename_i want i j hu hi hj
    simp only [Bool.and_eq_true] at h
    obtain ⟨h1, h2⟩ := h
    exact run_typeAssert_has hu hi (List.isEmpty_iff.1 (by simpa using h1))
  · cases h
end
end Go.Isk
namespace Go.Proofs.YtbbmgkbinnomgaaGreatDoor
open Go Go.Isk Go.RowKit Go.Extern
/-- the handle of a type -/
abbrev hdl (t : Nat) : Value := .pointer (some ⟨NG, t, none⟩)
abbrev rty (t : Nat) : Value := .iface T.reflectlite_rtype (.agg #[hdl t])
abbrev EP : Nat := T.p_api_Errno
abbrev EN : Nat := T.api_Errno
theorem e_valueOf (t : Addr) (w : World) : (ReflectliteValue.unpack (.iface EP (.pointer (some t)))).run Tryz.prog w
    = .ok (.agg #[hdl EP, .pointer (some ⟨w.heap.size, 0, none⟩), .int .u64 150]) (w.alloc (.cells #[.pointer (some t)] EP)) := by kernel_rfl
theorem e_type (a : Addr) (w : World) : (ReflectliteValue.methodAny (ReflectliteValue.valueError "reflectlite.Value.Type" 0) (fun t _ _ _ => ReflectliteType.toType t) #[.agg #[hdl EP, .pointer (some a), .int .u64 150]]).run Tryz.prog w
    = .ok (rty EP) w := by kernel_rfl
theorem e_kindP (w : World) : ((ReflectliteType.abiMethod fun t => (fun a : Nat => Value.int IntKind.u8 (a : Int)) <$> Rtype.kind t) #[hdl EP]).run Tryz.prog w = .ok (.int .u8 22) w := by kernel_rfl
theorem e_kindN (w : World) : ((ReflectliteType.abiMethod fun t => (fun a : Nat => Value.int IntKind.u8 (a : Int)) <$> Rtype.kind t) #[hdl EN]).run Tryz.prog w = .ok (.int .u8 2) w := by kernel_rfl
theorem e_parts (a : Addr) (w : World) : (ReflectliteValue.parts (.agg #[hdl EP, .pointer (some a), .int .u64 150])).run Tryz.prog w = .ok (some (EP, a, 150)) w := by kernel_rfl
theorem e_undP : Tryz.prog.underlying EP = some (.pointer EN) := by kernel_rfl
theorem e_undN : Tryz.prog.underlying EN = some (.int .i64) := by kernel_rfl
theorem e_isNil (a p : Addr) (W : World) (ha : W.cell? a = some (.pointer (some p))) :
    (ReflectliteValue.method (ReflectliteValue.valueError "reflectlite.Value.IsNil" 0) ReflectliteValue.isNil #[.agg #[hdl EP, .pointer (some a), .int .u64 150]]).run Tryz.prog W = .ok (.bool false) W := by
  change (ReflectliteValue.parts (.agg #[hdl EP, .pointer (some a), .int .u64 150]) >>= _).run Tryz.prog W = _
  simp only [Sem.run_bind, e_parts, Result.andThen]
  simp [ReflectliteValue.isNil, loadVar, isAgg, underlying, e_undP, ha, Result.andThen]
theorem e_elemT (w : World) : (ReflectliteType.method ReflectliteType.elem #[.agg #[hdl EP]]).run Tryz.prog w = .ok (rty EN) w := by kernel_rfl
theorem e_implements (w : World) : (ReflectliteType.relation "Implements" ReflectliteType.implements_ #[.agg #[hdl EN], rty T.error]).run Tryz.prog w = .ok (.bool true) w := by kernel_rfl
theorem e_typeOfN (v : Value) (w : World) : (ReflectliteType.typeOf #[.iface EN v]).run Tryz.prog w = .ok (rty EN) w := by kernel_rfl
theorem e_typeOfF (v : Value) (w : World) : (ReflectliteType.typeOf #[.iface T.p_api_Fault v]).run Tryz.prog w = .ok (rty T.p_api_Fault) w := by kernel_rfl
theorem e_assignN (w : World) : (ReflectliteType.relation "AssignableTo" ReflectliteType.assignableTo #[.agg #[hdl EN], rty EN]).run Tryz.prog w = .ok (.bool true) w := by kernel_rfl
theorem e_assignF (w : World) : (ReflectliteType.relation "AssignableTo" ReflectliteType.assignableTo #[.agg #[hdl T.p_api_Fault], rty EN]).run Tryz.prog w = .ok (.bool false) w := by kernel_rfl
theorem e_valueOfN (n : Int) (w : World) : (ReflectliteValue.unpack (.iface EN (.int .i64 n))).run Tryz.prog w
    = .ok (.agg #[hdl EN, .pointer (some ⟨w.heap.size, 0, none⟩), .int .u64 130]) (w.alloc (.cells #[.int .i64 n] EN)) := by kernel_rfl
theorem e_elemOf (w : World) : (Rtype.elem? EP).run Tryz.prog w = .ok (some EN) w := by kernel_rfl
theorem e_mk (p : Addr) (w : World) : (ReflectliteValue.mk EN p ReflectliteValue.flagAddr).run Tryz.prog w = .ok (.agg #[hdl EN, .pointer (some p), .int .u64 386]) w := by kernel_rfl
theorem e_elemV (a p : Addr) (W : World) (ha : W.cell? a = some (.pointer (some p))) :
    (ReflectliteValue.method (ReflectliteValue.valueError "reflectlite.Value.Elem" 0) ReflectliteValue.elem #[.agg #[hdl EP, .pointer (some a), .int .u64 150]]).run Tryz.prog W
      = .ok (.agg #[hdl EN, .pointer (some p), .int .u64 386]) W := by
  change (ReflectliteValue.parts (.agg #[hdl EP, .pointer (some a), .int .u64 150]) >>= _).run Tryz.prog W = _
  simp only [Sem.run_bind, e_parts, Result.andThen]
  simp [ReflectliteValue.elem, loadVar, isAgg, underlying, e_undP, ha, Result.andThen, e_elemOf, e_mk]
theorem e_partsA (a : Addr) (w : World) : (ReflectliteValue.parts (.agg #[hdl EN, .pointer (some a), .int .u64 386])).run Tryz.prog w = .ok (some (EN, a, 386)) w := by kernel_rfl
theorem e_partsN (a : Addr) (w : World) : (ReflectliteValue.parts (.agg #[hdl EN, .pointer (some a), .int .u64 130])).run Tryz.prog w = .ok (some (EN, a, 130)) w := by kernel_rfl
theorem e_direct (w : World) : (Rtype.directlyAssignable EN EN).run Tryz.prog w = .ok true w := by kernel_rfl
/-- (Value).Set: the number at 'ta' gets what the Value's own variable 'b' holds. -/
theorem e_set (ta b : Addr) (n : Int) (old : Value) (W : World) (hb : W.cell? b = some (.int .i64 n)) (ht : W.cell? ta = some old) (hf : W.frozen? ta = false) :
    (ReflectliteValue.set #[.agg #[hdl EN, .pointer (some ta), .int .u64 386], .agg #[hdl EN, .pointer (some b), .int .u64 130]]).run Tryz.prog W
      = .ok (.tuple #[]) (W.setCell ta (.int .i64 n)) := by
  change (ReflectliteValue.parts (.agg #[hdl EN, .pointer (some ta), .int .u64 386]) >>= fun z => ReflectliteValue.parts (.agg #[hdl EN, .pointer (some b), .int .u64 130]) >>= _).run Tryz.prog W = _
  simp only [Sem.run_bind, e_partsA, e_partsN, Result.andThen]
  simp [ReflectliteValue.flagAddr, loadVar, isAgg, underlying, e_undN, hb, Result.andThen, e_direct, storeVar, Value.cells, storeCells, Addr.add]
  rw [run_store Tryz.prog W ta _ _ (by rfl)]
  simp [ht, hf]
def errT : Fact := rngF 0 0 [rty T.error]
/-- an error, d times wrapped, of number n -/
def ErrD (S : Nat → Prop) (w : World) : Nat → Value → Int → Prop
  | 0, v, n => (v = .nilIface ∧ n = 0) ∨ (v = .iface EN (.int .i64 n) ∧ n ≠ 0 ∧ -9223372036854775808 ≤ n ∧ n ≤ 9223372036854775807)
  | d + 1, v, n => ∃ g s v', v = .iface T.p_api_Fault (.pointer (some ⟨g, 0, none⟩)) ∧ n ≠ 0 ∧ (rngF g 0 [str s, v']).holds S w ∧ ErrD S w d v' n
theorem ErrD.keep {S D : Nat → Prop} {w w' : World} : ∀ {d : Nat} {v : Value} {n : Int}, ErrD S w d v n → Upd D w w' → (∀ k, S k → ¬ D k) → ErrD S w' d v n
  | 0, _, _, h, _, _ => h
  | _ + 1, _, _, ⟨g, s, v', e, h0, h1, h2⟩, hu, hd => ⟨g, s, v', e, h0, (rngF g 0 _).keep h1 hu hd, ErrD.keep h2 hu hd⟩
theorem ErrD.mono {S S' : Nat → Prop} {w : World} : ∀ {d : Nat} {v : Value} {n : Int}, ErrD S w d v n → (∀ k, S k → k < w.heap.size → S' k) → ErrD S' w d v n
  | 0, _, _, h, _ => h
  | _ + 1, _, _, ⟨g, s, v', e, h0, h1, h2⟩, hs => ⟨g, s, v', e, h0, (rngF g 0 _).mono h1 hs, ErrD.mono h2 hs⟩
def errF (v : Value) (n : Int) : Fact := ⟨fun S w => ∃ d, ErrD S w d v n, fun ⟨d, h⟩ hu hd => ⟨d, h.keep hu hd⟩, fun ⟨d, h⟩ hs => ⟨d, h.mono hs⟩⟩
def errDF (d : Nat) (v : Value) (n : Int) : Fact := ⟨fun S w => ErrD S w d v n, fun h hu hd => h.keep hu hd, fun h hs => h.mono hs⟩
theorem ErrD.uniq {S : Nat → Prop} {w : World} : ∀ {d d' : Nat} {v : Value} {n n' : Int}, ErrD S w d v n → ErrD S w d' v n' → d = d'
  | 0, 0, _, _, _, _, _ => rfl
  | 0, d' + 1, _, _, _, h, ⟨g, s, v', e, _⟩ => by
    subst e
    rcases h with ⟨h, _⟩ | ⟨h, _⟩
    · cases h
    · cases h
  | d + 1, 0, _, _, _, ⟨g, s, v', e, _⟩, h => by
    subst e
    rcases h with ⟨h, _⟩ | ⟨h, _⟩
    · cases h
    · cases h
  | d + 1, d' + 1, _, _, _, ⟨g, s, v', e, _, h1, h2⟩, ⟨g', s', u', e', _, h1', h2'⟩ => by
    subst e
    cases e'
    have q1 := h1.1 1 v' rfl
    have q2 := h1'.1 1 u' rfl
    rw [q1] at q2
    cases q2
    rw [ErrD.uniq h2 h2']
open Classical in
noncomputable def errDepth (w : World) (v : Value) : Nat := if h : ∃ d n, ErrD (fun _ => True) w d v n then h.choose else 0
theorem errDepth_eq {w : World} {d : Nat} {v : Value} {n : Int} (h : ErrD (fun _ => True) w d v n) : errDepth w v = d := by
  unfold errDepth
  have hx : ∃ d n, ErrD (fun _ => True) w d v n := ⟨d, n, h⟩
  rw [dif_pos hx]
  obtain ⟨n', h'⟩ := hx.choose_spec
  exact h'.uniq h
section
variable {b : Base} {w : World} {L R : List It} {v : Value} {n : Int} {t : Nat}
theorem errF_nil (h : Sep b w L) : Sep b w ((errF .nilIface 0).it :: L) := h.fact ⟨0, .inl ⟨rfl, rfl⟩⟩
end
end Go.Proofs.YtbbmgkbinnomgaaGreatDoor
set_option linter.unusedVariables false
set_option linter.unusedSimpArgs false
set_option linter.unusedSectionVars false
namespace Go.Proofs.YtbbmgkbinnomgaaGreatDoor
open Go Go.Isk Go.RowKit Go.ChangeShapes Go.WideShapes Go.ChangeAt
section
variable {H : Type} {enc : TypeId × Value → H} {P : Program}
def rowsOk (P : Program) (ts : List TypeId) : Bool := ts.all fun t => P.readableRec t && decide (t < P.types.size)
theorem trodAll_stay (hl : laidOutB P = true) {W W' : World} (hb : Below W.heap.size W W') {sp : Nat → Bool} :
    ∀ {ts : List TypeId} {vs : List Value} {ds : List (DataW H)} {ps : List MemPlace}, rowsOk P ts = true → DataW.TrodAll enc P W 0 (fun _ => true) true ts vs ds ps →
      (∀ x ∈ ps, x.block < W.heap.size) → (∀ p ∈ ps, sp p.block = true) → DataW.TrodAll enc P W' 0 sp true ts vs ds ps
  | [], _, _, _, _, h, _, _ => by
    obtain ⟨rfl, rfl, rfl⟩ := trodAll_nil h
    exact trodAll_mk0
  | t :: ts, _, _, _, hr, h, hlt, hs => by
    obtain ⟨v, vs, d, ds, p, q, rfl, rfl, rfl, h1, h2⟩ := trodAll_cons h
    simp only [rowsOk, List.all_cons, Bool.and_eq_true, decide_eq_true_eq] at hr
    exact ⟨p, q, WideElems.Trod_stays hl hr.1.1 hr.1.2 h1 (fun x hx => hb.same (hlt x (by simp [hx]))) (fun x hx => hs x (by simp [hx])),
      trodAll_stay hl hb hr.2 h2 (fun x hx => hlt x (by simp [hx])) (fun x hx => hs x (by simp [hx])), rfl⟩
/-- a call that adds to memory alone and answers true -/
theorem post_true {f : Func} {s : ChangeSpec} {apart fresh handsOn again : Bool} {W W' : World} {args : Array Value} {ds gs : List (DataW H)} {before : List MemPlace} {tb : TypeId}
    (hW : DataW.Whole enc P f.params.toList s.vars apart W args.toList ds gs before) (hl : laidOutB P = true) (hv : s.vars = []) (hf : s.fn H ds = { results := [.lit (.bool true)], args := ds })
    (ht : f.resultTypes = #[tb]) (hb : P.underlying tb = some .bool) (hr : rowsOk P f.params.toList = true) (hu : Ext W W') :
    s.post enc P f apart fresh handsOn again W args (.bool true) W' := by
  have hW' := hW
  have hlt : ∀ x ∈ before, x.block < W.heap.size := fun x hx => by simpa using hW.lt x hx
  obtain ⟨p, q, hA, hV, rfl, hz, hn⟩ := hW
  rw [hv] at hV
  obtain ⟨rfl, rfl⟩ := trodVars_none hV
  simp only [List.append_nil] at hlt hz hn hW'
  have hargs : ∀ sp : Nat → Bool, (∀ x ∈ p, sp x.block = true) → DataW.TrodAll enc P W' 0 sp true f.params.toList args.toList ds p := fun sp hs => trodAll_stay hl hu.below hr hA hlt hs
  have hres : ∀ (b : Nat) (sp : Nat → Bool) (hd : Bool), DataW.TrodAll enc P W' b sp hd f.resultTypes.toList ((Value.bool true).resultList f.resultTypes.size) [.lit (.bool true)] [] := fun b sp hd => by
    rw [ht]
    exact trodAll_cons_mk (shut_bool hb _) trodAll_mk0
  have hvars : ∀ sp : Nat → Bool, DataW.TrodVars enc P W' sp s.vars [] [] := fun sp => by rw [hv]; rfl
  have hf' : s.fn H (ds ++ []) = { results := [.lit (.bool true)], args := ds } := by rw [List.append_nil]; exact hf
  refine ⟨ds, [], p, [], p, [], hW', ?_, ?_, ?_, hu.below.frame _, fun _ => ⟨ok_one ht rfl (okWide_bool_mk hb _), [.lit (.bool true)] ++ ds, [], p, ⟨p, [], ?_, ?_, by simp, ?_, hn⟩, fun x hx _ => hx⟩⟩
  · rw [hf']; exact hres _ _ _
  · rw [hf']; exact hargs _ fun x hx => by simpa using hlt x hx
  · rw [hf']; exact hvars _
  · exact trodAll_append (p := []) (hargs (fun _ => true) fun _ _ => rfl) (hres _ _ _)
  · exact hvars _
  · intro b off hp
    rw [hu.below.frozen (p := ⟨b, off, none⟩) (hlt _ hp)]
    exact hz b off hp
/-- bytes that came in -/
theorem open_by' {W : World} {T E : TypeId} {a1 : Option Addr} {len cap fuel : Nat} {x : DataW H × List MemPlace} (hT : P.underlying T = some (.slice E)) (hE : P.underlying E = some (.int .u8)) (hc : P.cellsOf E = 1)
    (hf : DataW.trod enc P W 0 (fun _ => true) true fuel T [.slice a1 len cap] = some x) :
    ∃ l : List UInt8, (byF (.slice a1 len cap) l).holds (fun k => k < W.heap.size) W ∧ ((x.1 = .nil ∧ l = []) ∨ ∃ es sp, x.1 = .slice es sp ∧ es.length = l.length) := by
  rcases open_ints hT hE hc hf with ⟨hcs, hx⟩ | ⟨a, len', cap', zs, hcs, _, hl, hm, hz, hx, hcell, hwz⟩
  · simp only [List.cons.injEq, Value.slice.injEq, and_true] at hcs
    obtain ⟨rfl, rfl, rfl⟩ := hcs
    subst hx
    exact ⟨[], ⟨Sl.nil 1, fun hn => absurd hn (by simp)⟩, .inl ⟨rfl, rfl⟩⟩
  · simp only [List.cons.injEq, Value.slice.injEq, and_true] at hcs
    obtain ⟨rfl, rfl, rfl⟩ := hcs
    subst hx
    simp only [if_true] at hz
    have hlen : ((zs.take len).map fun n => UInt8.ofNat n.toNat).length = len := by simp; omega
    have hrange : 0 < len → ∃ g o, a = ⟨g, o, none⟩ ∧ W.rangeAt g o (u8s ((zs.take len).map fun n => UInt8.ofNat n.toNat)) := fun hn => by
      obtain ⟨ab, ao, spot⟩ := a
      have hspot : spot = none := by simpa [Addr.add] using World.cell?_spot (hcell 0 (by omega))
      subst hspot
      refine ⟨ab, ao, rfl, fun j v hv => ?_⟩
      have hj : j < len := by
        have := (List.getElem?_eq_some_iff.1 hv).1
        rw [u8s, List.length_map, hlen] at this
        exact this
      have hcj := hcell j (by omega)
      rw [Addr.add_lit] at hcj
      rw [hcj, ← hv]
      have hb := range_u8 hwz j
      simp only [u8s, List.map_map, List.getElem?_map, List.getElem?_take, if_pos hj, List.getD]
      rw [List.getElem?_eq_getElem (show j < zs.length by omega)] at hb ⊢
      simp only [Option.getD_some] at hb ⊢
      simp only [Option.map_some, Function.comp, UInt8.toNat_ofNat', Option.some.injEq, Value.int.injEq, true_and]
      omega
    refine ⟨(zs.take len).map fun n => UInt8.ofNat n.toNat, ?_, .inr ⟨_, _, rfl, by simp [lits]⟩⟩
    show SlS _ _ _ _ _ _
    rw [hlen]
    refine ⟨⟨_, _, rfl, hl, by rw [u8s, List.length_map, hlen, Nat.mul_one], fun hn => ?_⟩, fun hn k hk => ?_⟩
    · obtain ⟨g, o, rfl, hr⟩ := hrange (by omega)
      exact ⟨g, o, rfl, hr⟩
    · obtain ⟨g, o, rfl, hr⟩ := hrange (by omega)
      simp only [Value.ownBlock, Option.some.injEq] at hk
      subst hk
      exact range_lt hr (by rw [u8s, List.length_map, hlen]; omega)
theorem sep_start {W : World} {fs : List Fact} (h : ∀ f ∈ fs, f.holds (fun k => k < W.heap.size) W) : Sep ⟨W, fun _ => False⟩ W (fs.map Fact.it) := by
  have hm : ∀ k, ¬ Mine (fs.map Fact.it) k := by
    rintro k ⟨I, h1, h2⟩
    obtain ⟨f, _, rfl⟩ := List.mem_map.1 h1
    cases h2
  refine ⟨Upd.refl, fun k hk => absurd hk (hm k), ?_, fun I hI => ?_⟩
  · refine List.pairwise_of_forall_mem_list fun I hI J _ k hk => ?_
    exact absurd ⟨I, hI, hk⟩ (hm k)
  · obtain ⟨f, h1, rfl⟩ := List.mem_map.1 hI
    exact f.mono (h f h1) fun k hk _ => ⟨hk, hm k⟩
end
/-! ### this program -/
theorem ownK : ownKnob Tryz.prog.godebug = none := by kernel_rfl
theorem laidK : laidOutB Tryz.prog = true := by kernel_rfl
theorem rtK : (Tryz.prog.cutTypes.find? (·.1 == "internal/reflectlite.rtype")).map (·.2) = some T.reflectlite_rtype := by kernel_rfl
theorem oneK : ((List.range Tryz.prog.types.size).filter fun t => Tryz.prog.rowNamed t [101, 114, 114, 111, 114]) = [T.error] := by kernel_rfl
theorem hhK : typeHandle Tryz.prog T.error = hdl T.error := by kernel_rfl
theorem errT_of {W : World} (h : handlesMet Tryz.prog [("errors.errorType", Rows.laid_errors_errorType)] W) : errT.holds (fun k => k < W.heap.size) W := by
  obtain ⟨name, u, ty, e1, e2, e3, e4, e5⟩ := h _ (List.mem_singleton.2 rfl)
  have en : name = [101, 114, 114, 111, 114] := (Option.some.inj e1).symm
  subst en
  obtain rfl := Option.some.inj (rtK.symm.trans e2)
  have hm : ty ∈ (List.range Tryz.prog.types.size).filter fun t => Tryz.prog.rowNamed t [101, 114, 114, 111, 114] := List.mem_filter.2 ⟨List.mem_range.2 e3, e4⟩
  rw [oneK] at hm
  obtain rfl := List.mem_singleton.1 hm
  rw [hhK] at e5
  have hc : W.cell? ⟨0, 0, none⟩ = some (rty T.error) := World.var?_cell (show Tryz.prog.globalNamed "errors.errorType" = some 0 by kernel_rfl) e5 0
  refine ⟨fun j v hv => ?_, fun _ => World.block_lt_of_cell? W _ hc⟩
  match j, hv with
  | 0, hv =>
    rw [← hv]
    exact hc
  | j + 1, hv => simp at hv
end Go.Proofs.YtbbmgkbinnomgaaGreatDoor
set_option linter.unusedVariables false
set_option linter.unusedSimpArgs false
set_option linter.unusedSectionVars false
namespace Go.Proofs.YtbbmgkbinnomgaaGreatDoor
open Go Go.Isk Go.RowKit Go.ChangeShapes Go.WideShapes Go.ChangeAt
theorem some_any {β : Type} {o : Option β} {p : β → Bool} (h : o.any p = true) : ∃ x, o = some x ∧ p x = true := by
  cases o with
  | none => cases h
  | some x => exact ⟨x, rfl, h⟩
theorem bulk_pos {H : Type} (d : DataW H) : 1 ≤ Rows.uptoBulk d := by
  cases d with
  | lit l => cases l <;> simp [Rows.uptoBulk]
  | nil => simp [Rows.uptoBulk]
  | ptr d => simp [Rows.uptoBulk]
  | slice elems spare => simp [Rows.uptoBulk]
  | agg parts => simp [Rows.uptoBulk]
  | iface t d => simp [Rows.uptoBulk]
  | map entries => simp [Rows.uptoBulk]
  | held h => simp [Rows.uptoBulk]
theorem bulk_len {H : Type} (l : List (DataW H)) : l.length ≤ Rows.uptoBulkAll l := by
  induction l with
  | nil => simp
  | cons x r ih => have := bulk_pos x; simp only [Rows.uptoBulkAll, List.length_cons]; omega
theorem bulk_mem {H : Type} {d : DataW H} {l : List (DataW H)} (h : d ∈ l) : Rows.uptoBulk d ≤ Rows.uptoBulkAll l := by
  induction l with
  | nil => cases h
  | cons x r ih =>
    simp only [Rows.uptoBulkAll]
    rcases List.mem_cons.1 h with rfl | h
    · omega
    · have := ih h; omega
section
variable {α : Type} {P : Program} {W : World} {cs : List Value}
abbrev Old (W : World) : Nat → Prop := fun k => k < W.heap.size
/-- whatever reads at type t is a thing of F, and no greater than what it reads as -/
def Opn (P : Program) (W : World) (t : TypeId) (F : Fam α) (μ : α → Nat) : Prop :=
  ∀ {H : Type} {enc : TypeId × Value → H} {fuel : Nat} {cs : List Value} {x : DataW H × List MemPlace}, DataW.trod enc P W 0 (fun _ => true) true fuel t cs = some x → ∃ a, (F cs a).holds (Old W) W ∧ μ a ≤ Rows.uptoBulk x.1
def i64F : Fam Int := fun cs n => pureF (cs = [.int .i64 n] ∧ I64 n)
def strF : Fam Bytes := fun cs l => pureF (cs = [str l] ∧ l.length ≤ maxLen)
def hashF : Fam Bytes := fun cs l => pureF (cs = u8s l ∧ l.length = 32)
theorem opn_i64 {t : TypeId} (ht : P.underlying t = some (.int .i64)) : Opn P W t i64F fun _ => 1 := by
  intro H enc fuel cs x h
  obtain ⟨n, rfl, rfl, hw⟩ := DataW.trod_int ht h
  refine ⟨n, ⟨rfl, ?_⟩, bulk_pos _⟩
  simp [Lit.wf, IntKind.min, IntKind.max, IntKind.signed, IntKind.bits] at hw
  exact hw
theorem opn_hash {t e : TypeId} (ht : P.underlying t = some (.array 32 e)) (he : P.underlying e = some (.int .u8)) (hc : P.cellsOf e = 1) (hn : P.cellsOf t = 32) : Opn P W t hashF fun _ => 1 := by
  intro H enc fuel cs x h
  obtain ⟨xs, m, _, rfl, hl, hx, hi⟩ := DataW.trod_array ht h
  rw [hn] at hl
  have each : ∀ i, i < 32 → ∃ n, cs[i]? = some (.int .u8 n) ∧ 0 ≤ n ∧ n ≤ 255 := fun i hlt => by
    have h1 := hi i hlt
    rw [List.getElem?_eq_getElem (show i < xs.length by omega), hc, Nat.mul_one] at h1
    obtain ⟨n, h2, _, hw⟩ := DataW.trod_int he h1
    refine ⟨n, ?_, bounds_u8 hw⟩
    have h3 := congrArg (fun l => l[0]?) h2
    simpa using h3
  refine ⟨cs.map fun v => match v with | .int _ n => UInt8.ofNat n.toNat | _ => 0, ⟨?_, by simp [hl]⟩, bulk_pos _⟩
  refine List.ext_getElem? fun i => ?_
  by_cases hlt : i < 32
  · obtain ⟨n, h1, h2, h3⟩ := each i hlt
    simp only [u8s, List.getElem?_map, h1, Option.map_some, UInt8.toNat_ofNat', Option.some.injEq, Value.int.injEq, true_and]
    omega
  · rw [List.getElem?_eq_none (by omega), List.getElem?_eq_none (by simp [u8s]; omega)]
theorem opn_bytes {T E : TypeId} (hT : P.underlying T = some (.slice E)) (hE : P.underlying E = some (.int .u8)) (hc : P.cellsOf E = 1) : Opn P W T bytesF fun l => l.length + 1 := by
  intro H enc fuel cs x h
  have hsh : ∃ v, cs = [v] ∧ ∃ a len cap, v = .slice a len cap := by
    rcases DataW.trod_slice hT h with ⟨rfl, _⟩ | ⟨a, len, cap, _, _, _, _, rfl, _⟩
    · exact ⟨_, rfl, _, _, _, rfl⟩
    · exact ⟨_, rfl, _, _, _, rfl⟩
  obtain ⟨v, rfl, a, len, cap, rfl⟩ := hsh
  obtain ⟨l, h1, h2⟩ := open_by' hT hE hc h
  refine ⟨l, ⟨_, rfl, h1⟩, ?_⟩
  rcases h2 with ⟨e, rfl⟩ | ⟨es, sp, e, he⟩
  · rw [e]; exact bulk_pos _
  · rw [e]
    show l.length + 1 ≤ _
    have := bulk_len es
    simp only [Rows.uptoBulk]
    omega
def slcF (F : Fam α) (sz : Nat) : Fam (List α) := fun cs ls => ⟨fun S w => ∃ sv, cs = [sv] ∧ (listF F sz sv ls).holds S w,
  fun ⟨sv, e, h⟩ hu hd => ⟨sv, e, (listF F sz sv ls).keep h hu hd⟩, fun ⟨sv, e, h⟩ hs => ⟨sv, e, (listF F sz sv ls).mono h hs⟩⟩
theorem piece {o s o' : Nat} {p q : List Value} (h : (cs.drop o).take s = p) (hq : cs.drop o' = q) (he : o + s = o') : cs.drop o = p ++ q := by
  subst he
  rw [← h, ← hq, ← List.drop_drop, List.take_append_drop]
/-- a field -/
def stF (P : Program) (t : TypeId) : Array Field := match P.underlying t with | some (.struct fs) => fs | _ => #[]
def isSt (P : Program) (t : TypeId) : Bool := match P.underlying t with | some (.struct _) => true | _ => false
theorem isSt.eq {t : TypeId} (h : isSt P t = true) : P.underlying t = some (.struct (stF P t)) := by
  unfold isSt at h
  unfold stF
  split at h
  · rename_i fs e; rw [e]
  · cases h
theorem fld {F : Fam α} {μ : α → Nat} {H : Type} {enc : TypeId × Value → H} {fs : Array Field} {xs : List (DataW H × List MemPlace)} {n i sz off ty : Nat} (hF : Opn P W ty F μ) (hi : (fs[i]?).map (fun f => (f.type, f.offset)) = some (ty, off)) (hx : xs.length = fs.size)
    (hf : ∀ (i : Nat) (f : Field), fs[i]? = some f → DataW.trod enc P W 0 (fun _ => true) true n f.type ((cs.drop f.offset).take (P.cellsOf f.type)) = xs[i]?) (hc : P.cellsOf ty = sz) :
    ∃ a, (F ((cs.drop off).take sz) a).holds (Old W) W ∧ μ a ≤ Rows.uptoBulkAll (xs.map (·.1)) := by
  obtain ⟨f, hj, e⟩ := Option.map_eq_some_iff.1 hi
  simp only [Prod.mk.injEq] at e
  obtain ⟨rfl, rfl⟩ := e
  have h1 := hf i f hj
  have hlt : i < xs.length := by rw [hx]; exact (Array.getElem?_eq_some_iff.1 hj).1
  rw [List.getElem?_eq_getElem hlt, hc] at h1
  obtain ⟨a, h2, h3⟩ := hF h1
  exact ⟨a, h2, Nat.le_trans h3 (bulk_mem (List.mem_map.2 ⟨_, List.getElem_mem hlt, rfl⟩))⟩
theorem opn_agg {H : Type} {enc : TypeId × Value → H} {t : TypeId} {F : Fam α} {μ : α → Nat} {base : Nat} {v : Value} {d : DataW H} {p : List MemPlace} (ho : Opn P W t F μ) (hst : isSt P t = true)
    (hv : Value.okWide P W .any base t v) (h : DataW.Trod enc P W 0 (fun _ => true) true t v d p) : ∃ cs a, v = .agg cs.toArray ∧ (F cs a).holds (Old W) W ∧ μ a ≤ Rows.uptoBulk d := by
  obtain ⟨cs, rfl, _⟩ := okWide_struct (isSt.eq hst) hv
  obtain ⟨fuel, hf⟩ := h
  obtain ⟨a, h1, h2⟩ := ho (x := (d, p)) (by simpa [Value.cells] using hf)
  exact ⟨cs.toList, a, by simp, h1, h2⟩
def isSlc (P : Program) (t : TypeId) : Bool := match P.underlying t with | some (.slice _) => true | _ => false
def isI64 (P : Program) (t : TypeId) : Bool := match P.underlying t with | some (.int .i64) => true | _ => false
end
set_option maxRecDepth 20000
/-! ### this program's things -/
variable {W : World}
theorem cI : Tryz.prog.cellsOf T.int = 1 := by kernel_rfl
theorem oI : Opn Tryz.prog W T.int i64F fun _ => 1 := opn_i64 (by kernel_rfl)
theorem oB : Opn Tryz.prog W T.sl_uint8 bytesF fun l => l.length + 1 := opn_bytes (E := T.uint8) (by kernel_rfl) (by kernel_rfl) (by kernel_rfl)
end Go.Proofs.YtbbmgkbinnomgaaGreatDoor
