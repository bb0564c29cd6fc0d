/- Errors, and errors.As at a number of the program's own. -/
import Derived.Test.YtbbmgkbinnomgaaGreatDoorSL
import Derived.Stop.Asserts
import Derived.LaidEql
import Derived.Test.YtbbmgkbinnomgaaGreatDoorCards
import Derived.Test.YtbbmgkbinnomgaaGreatDoorTie
import Derived.WalkKit
import Derived.ProofKit
import Derived.OpenShut
import Derived.OpenVars
import Derived.Deep.DeepHandedRow
import Derived.LaidLaws
import Derived.LaidHandle
import Derived.Lib.LaidTab
import Derived.Test.YtbbmgkbinnomgaaGreatDoorKT
import Derived.Test.YtbbmgkbinnomgaaGreatDoorRows
set_option linter.unusedVariables false
set_option linter.unusedSimpArgs false
set_option linter.unusedSectionVars false
namespace Go.Isk
open Go Go.RowKit Go.Extern
section
variable {P : Program}
theorem oN_ext {f : Nat} {e : Array Value → Sem Value} {args : Array Value} {w w' : World} {v : Value} {k : Value → World → Prop}
    (hf : ((P.funcs[f]?).map fun fn => (fn.name == "runtime.NumGoroutine", fn.body.isNone, (Extern.findNext fn).isNone, Extern.find fn)) = some (false, true, true, some e))
    (hr : (e args).run P w = .ok v w') (hk : k v w') : oN P (callFunc f args) w k := by
  refine ⟨?_⟩
  obtain ⟨fn, h1, h2⟩ := Option.map_eq_some_iff.1 hf
  simp only [Prod.mk.injEq] at h2
  rw [run_callFunc_extern h1 h2.1 h2.2.1 (by simpa using h2.2.2.1) h2.2.2.2, hr]
  exact hk
theorem iv_ext {f t : Nat} {x r : Value} {name : String} {e : Array Value → Sem Value} {args : Array Value} {w w' : World} {v : Value} {k : Value → World → Prop}
    (hm : (Go.method (P.types.size + Made.depth) t x name).run P w = .ok (f, r) w)
    (hf : ((P.funcs[f]?).map fun fn => (fn.name == "runtime.NumGoroutine", fn.body.isNone, (Extern.findNext fn).isNone, Extern.find fn)) = some (false, true, true, some e))
    (hr : (e (#[r] ++ args)).run P w = .ok v w') (hk : k v w') : iv P (.iface t x) name args w k := by
  refine ⟨?_⟩
  have h := (oN_ext hf hr hk).out
  have e1 : (invoke (.fn (.method name) #[]) (#[Value.iface t x] ++ args)).run P w = (callFunc f (#[r] ++ args)).run P w := by
    simp only [invoke, callMethod]
    simp only [Array.getElem?_append, List.size_toArray, List.length_cons, List.length_nil]
    simp only [Nat.zero_add, Nat.lt_one_iff, if_true, List.getElem?_toArray, List.getElem?_cons_zero]
    have ex : (#[Value.iface t x] ++ args).extract 1 (#[Value.iface t x] ++ args).size = args := by
      apply Array.ext' ; simp
    rw [ex]
    have hp : Sem.run P program w = .ok P w := rfl
    simp only [Sem.run_bind, hp, Result.andThen_ok, hm]
  rw [e1]; exact h
theorem iv_fn {f t : Nat} {x r : Value} {name : String} {args : Array Value} {w : World} {k : Value → World → Prop}
    (hm : (Go.method (P.types.size + Made.depth) t x name).run P w = .ok (f, r) w) (hb : bodied P f = true) (hk : C P f (#[r] ++ args) w k) : iv P (.iface t x) name args w k := by
  refine ⟨?_⟩
  have e1 : (invoke (.fn (.method name) #[]) (#[Value.iface t x] ++ args)).run P w = (callFunc f (#[r] ++ args)).run P w := by
    simp only [invoke, callMethod]
    simp only [Array.getElem?_append, List.size_toArray, List.length_cons, List.length_nil]
    simp only [Nat.zero_add, Nat.lt_one_iff, if_true, List.getElem?_toArray, List.getElem?_cons_zero]
    have ex : (#[Value.iface t x] ++ args).extract 1 (#[Value.iface t x] ++ args).size = args := by
      apply Array.ext' ; simp
    rw [ex]
    have hp : Sem.run P program w = .ok P w := rfl
    simp only [Sem.run_bind, hp, Result.andThen_ok, hm]
  rw [e1, run_bodied hb]; exact hk
def assT (P : Program) (t a : Nat) (has : Bool) : Bool := match P.underlying a, P.info? t, P.info? a with
  | some (.interface want), some i, some j => (lacking want i.methods).isEmpty == has && (match j.zero with | some .nilIface => true | _ => false)
  | _, _, _ => false
theorem ass_lacks {t a xT : Nat} {v : Value} {w : World} (h : assT P t a false = true) : (Instr.typeAssert (.iface t v) xT a true).run P w = .ok (.tuple #[.nilIface, .bool false]) w := by
  unfold assT at h
  split at h
  · rename_i want i j hu hi hj
    simp only [Bool.and_eq_true] at h
    obtain ⟨h1, h2⟩ := h
    split at h2
    · rename_i hz
      exact run_typeAssert_lacks hu hi hj hz (fun e => by rw [e] at h1; cases h1)
    · cases h2
  · cases h
theorem ass_has {t a xT : Nat} {v : Value} {w : World} (h : assT P t a true = true) : (Instr.typeAssert (.iface t v) xT a true).run P w = .ok (.tuple #[.iface t v, .bool true]) w := by
  unfold assT at h
  split at h
  · rename_i want i j hu hi hj
    simp only [Bool.and_eq_true] at h
    obtain ⟨h1, h2⟩ := h
    exact run_typeAssert_has hu hi (List.isEmpty_iff.1 (by simpa using h1))
  · cases h
end
end Go.Isk
namespace Go.Proofs.YtbbmgkbinnomgaaGreatDoor
open Go Go.Isk Go.RowKit Go.Extern
/-- the handle of a type -/
abbrev hdl (t : Nat) : Value := .pointer (some ⟨NG, t, none⟩)
abbrev rty (t : Nat) : Value := .iface T.reflectlite_rtype (.agg #[hdl t])
abbrev EP : Nat := T.p_api_Errno
abbrev EN : Nat := T.api_Errno
theorem e_valueOf (t : Addr) (w : World) : (ReflectliteValue.unpack (.iface EP (.pointer (some t)))).run Tryz.prog w
    = .ok (.agg #[hdl EP, .pointer (some ⟨w.heap.size, 0, none⟩), .int .u64 150]) (w.alloc (.cells #[.pointer (some t)] EP)) := by kernel_rfl
theorem e_type (a : Addr) (w : World) : (ReflectliteValue.methodAny (ReflectliteValue.valueError "reflectlite.Value.Type" 0) (fun t _ _ _ => ReflectliteType.toType t) #[.agg #[hdl EP, .pointer (some a), .int .u64 150]]).run Tryz.prog w
    = .ok (rty EP) w := by kernel_rfl
theorem e_kindP (w : World) : ((ReflectliteType.abiMethod fun t => (fun a : Nat => Value.int IntKind.u8 (a : Int)) <$> Rtype.kind t) #[hdl EP]).run Tryz.prog w = .ok (.int .u8 22) w := by kernel_rfl
theorem e_kindN (w : World) : ((ReflectliteType.abiMethod fun t => (fun a : Nat => Value.int IntKind.u8 (a : Int)) <$> Rtype.kind t) #[hdl EN]).run Tryz.prog w = .ok (.int .u8 2) w := by kernel_rfl
theorem e_parts (a : Addr) (w : World) : (ReflectliteValue.parts (.agg #[hdl EP, .pointer (some a), .int .u64 150])).run Tryz.prog w = .ok (some (EP, a, 150)) w := by kernel_rfl
theorem e_undP : Tryz.prog.underlying EP = some (.pointer EN) := by kernel_rfl
theorem e_undN : Tryz.prog.underlying EN = some (.int .i64) := by kernel_rfl
theorem e_isNil (a p : Addr) (W : World) (ha : W.cell? a = some (.pointer (some p))) :
    (ReflectliteValue.method (ReflectliteValue.valueError "reflectlite.Value.IsNil" 0) ReflectliteValue.isNil #[.agg #[hdl EP, .pointer (some a), .int .u64 150]]).run Tryz.prog W = .ok (.bool false) W := by
  change (ReflectliteValue.parts (.agg #[hdl EP, .pointer (some a), .int .u64 150]) >>= _).run Tryz.prog W = _
  simp only [Sem.run_bind, e_parts, Result.andThen]
  simp [ReflectliteValue.isNil, loadVar, isAgg, underlying, e_undP, ha, Result.andThen]
theorem e_elemT (w : World) : (ReflectliteType.method ReflectliteType.elem #[.agg #[hdl EP]]).run Tryz.prog w = .ok (rty EN) w := by kernel_rfl
theorem e_implements (w : World) : (ReflectliteType.relation "Implements" ReflectliteType.implements_ #[.agg #[hdl EN], rty T.error]).run Tryz.prog w = .ok (.bool true) w := by kernel_rfl
theorem e_typeOfN (v : Value) (w : World) : (ReflectliteType.typeOf #[.iface EN v]).run Tryz.prog w = .ok (rty EN) w := by kernel_rfl
theorem e_typeOfF (v : Value) (w : World) : (ReflectliteType.typeOf #[.iface T.p_api_Fault v]).run Tryz.prog w = .ok (rty T.p_api_Fault) w := by kernel_rfl
theorem e_assignN (w : World) : (ReflectliteType.relation "AssignableTo" ReflectliteType.assignableTo #[.agg #[hdl EN], rty EN]).run Tryz.prog w = .ok (.bool true) w := by kernel_rfl
theorem e_assignF (w : World) : (ReflectliteType.relation "AssignableTo" ReflectliteType.assignableTo #[.agg #[hdl T.p_api_Fault], rty EN]).run Tryz.prog w = .ok (.bool false) w := by kernel_rfl
theorem e_valueOfN (n : Int) (w : World) : (ReflectliteValue.unpack (.iface EN (.int .i64 n))).run Tryz.prog w
    = .ok (.agg #[hdl EN, .pointer (some ⟨w.heap.size, 0, none⟩), .int .u64 130]) (w.alloc (.cells #[.int .i64 n] EN)) := by kernel_rfl
theorem e_elemOf (w : World) : (Rtype.elem? EP).run Tryz.prog w = .ok (some EN) w := by kernel_rfl
theorem e_mk (p : Addr) (w : World) : (ReflectliteValue.mk EN p ReflectliteValue.flagAddr).run Tryz.prog w = .ok (.agg #[hdl EN, .pointer (some p), .int .u64 386]) w := by kernel_rfl
theorem e_elemV (a p : Addr) (W : World) (ha : W.cell? a = some (.pointer (some p))) :
    (ReflectliteValue.method (ReflectliteValue.valueError "reflectlite.Value.Elem" 0) ReflectliteValue.elem #[.agg #[hdl EP, .pointer (some a), .int .u64 150]]).run Tryz.prog W
      = .ok (.agg #[hdl EN, .pointer (some p), .int .u64 386]) W := by
  change (ReflectliteValue.parts (.agg #[hdl EP, .pointer (some a), .int .u64 150]) >>= _).run Tryz.prog W = _
  simp only [Sem.run_bind, e_parts, Result.andThen]
  simp [ReflectliteValue.elem, loadVar, isAgg, underlying, e_undP, ha, Result.andThen, e_elemOf, e_mk]
theorem e_partsA (a : Addr) (w : World) : (ReflectliteValue.parts (.agg #[hdl EN, .pointer (some a), .int .u64 386])).run Tryz.prog w = .ok (some (EN, a, 386)) w := by kernel_rfl
theorem e_partsN (a : Addr) (w : World) : (ReflectliteValue.parts (.agg #[hdl EN, .pointer (some a), .int .u64 130])).run Tryz.prog w = .ok (some (EN, a, 130)) w := by kernel_rfl
theorem e_direct (w : World) : (Rtype.directlyAssignable EN EN).run Tryz.prog w = .ok true w := by kernel_rfl
/-- (Value).Set: the number at 'ta' gets what the Value's own variable 'b' holds. -/
theorem e_set (ta b : Addr) (n : Int) (old : Value) (W : World) (hb : W.cell? b = some (.int .i64 n)) (ht : W.cell? ta = some old) (hf : W.frozen? ta = false) :
    (ReflectliteValue.set #[.agg #[hdl EN, .pointer (some ta), .int .u64 386], .agg #[hdl EN, .pointer (some b), .int .u64 130]]).run Tryz.prog W
      = .ok (.tuple #[]) (W.setCell ta (.int .i64 n)) := by
  change (ReflectliteValue.parts (.agg #[hdl EN, .pointer (some ta), .int .u64 386]) >>= fun z => ReflectliteValue.parts (.agg #[hdl EN, .pointer (some b), .int .u64 130]) >>= _).run Tryz.prog W = _
  simp only [Sem.run_bind, e_partsA, e_partsN, Result.andThen]
  simp [ReflectliteValue.flagAddr, loadVar, isAgg, underlying, e_undN, hb, Result.andThen, e_direct, storeVar, Value.cells, storeCells, Addr.add]
  rw [run_store Tryz.prog W ta _ _ (by rfl)]
  simp [ht, hf]
def errT : Fact := rngF 0 0 [rty T.error]
/-- an error, d times wrapped, of number n -/
def ErrD (S : Nat → Prop) (w : World) : Nat → Value → Int → Prop
  | 0, v, n => (v = .nilIface ∧ n = 0) ∨ (v = .iface EN (.int .i64 n) ∧ n ≠ 0 ∧ -9223372036854775808 ≤ n ∧ n ≤ 9223372036854775807)
  | d + 1, v, n => ∃ g s v', v = .iface T.p_api_Fault (.pointer (some ⟨g, 0, none⟩)) ∧ n ≠ 0 ∧ (rngF g 0 [str s, v']).holds S w ∧ ErrD S w d v' n
theorem ErrD.keep {S D : Nat → Prop} {w w' : World} : ∀ {d : Nat} {v : Value} {n : Int}, ErrD S w d v n → Upd D w w' → (∀ k, S k → ¬ D k) → ErrD S w' d v n
  | 0, _, _, h, _, _ => h
  | _ + 1, _, _, ⟨g, s, v', e, h0, h1, h2⟩, hu, hd => ⟨g, s, v', e, h0, (rngF g 0 _).keep h1 hu hd, ErrD.keep h2 hu hd⟩
theorem ErrD.mono {S S' : Nat → Prop} {w : World} : ∀ {d : Nat} {v : Value} {n : Int}, ErrD S w d v n → (∀ k, S k → k < w.heap.size → S' k) → ErrD S' w d v n
  | 0, _, _, h, _ => h
  | _ + 1, _, _, ⟨g, s, v', e, h0, h1, h2⟩, hs => ⟨g, s, v', e, h0, (rngF g 0 _).mono h1 hs, ErrD.mono h2 hs⟩
def errF (v : Value) (n : Int) : Fact := ⟨fun S w => ∃ d, ErrD S w d v n, fun ⟨d, h⟩ hu hd => ⟨d, h.keep hu hd⟩, fun ⟨d, h⟩ hs => ⟨d, h.mono hs⟩⟩
def errDF (d : Nat) (v : Value) (n : Int) : Fact := ⟨fun S w => ErrD S w d v n, fun h hu hd => h.keep hu hd, fun h hs => h.mono hs⟩
theorem ErrD.uniq {S : Nat → Prop} {w : World} : ∀ {d d' : Nat} {v : Value} {n n' : Int}, ErrD S w d v n → ErrD S w d' v n' → d = d'
  | 0, 0, _, _, _, _, _ => rfl
  | 0, d' + 1, _, _, _, h, ⟨g, s, v', e, _⟩ => by
    subst e
    rcases h with ⟨h, _⟩ | ⟨h, _⟩
    · cases h
    · cases h
  | d + 1, 0, _, _, _, ⟨g, s, v', e, _⟩, h => by
    subst e
    rcases h with ⟨h, _⟩ | ⟨h, _⟩
    · cases h
    · cases h
  | d + 1, d' + 1, _, _, _, ⟨g, s, v', e, _, h1, h2⟩, ⟨g', s', u', e', _, h1', h2'⟩ => by
    subst e
    cases e'
    have q1 := h1.1 1 v' rfl
    have q2 := h1'.1 1 u' rfl
    rw [q1] at q2
    cases q2
    rw [ErrD.uniq h2 h2']
open Classical in
noncomputable def errDepth (w : World) (v : Value) : Nat := if h : ∃ d n, ErrD (fun _ => True) w d v n then h.choose else 0
theorem errDepth_eq {w : World} {d : Nat} {v : Value} {n : Int} (h : ErrD (fun _ => True) w d v n) : errDepth w v = d := by
  unfold errDepth
  have hx : ∃ d n, ErrD (fun _ => True) w d v n := ⟨d, n, h⟩
  rw [dif_pos hx]
  obtain ⟨n', h'⟩ := hx.choose_spec
  exact h'.uniq h
section
variable {b : Base} {w : World} {L R : List It} {v : Value} {n : Int} {t : Nat}
theorem errF_nil (h : Sep b w L) : Sep b w ((errF .nilIface 0).it :: L) := h.fact ⟨0, .inl ⟨rfl, rfl⟩⟩
end
end Go.Proofs.YtbbmgkbinnomgaaGreatDoor
set_option linter.unusedVariables false
set_option linter.unusedSimpArgs false
set_option linter.unusedSectionVars false
namespace Go.Proofs.YtbbmgkbinnomgaaGreatDoor
open Go Go.Isk Go.RowKit Go.ChangeShapes Go.WideShapes Go.ChangeAt
section
variable {H : Type} {enc : TypeId × Value → H} {P : Program}
def rowsOk (P : Program) (ts : List TypeId) : Bool := ts.all fun t => P.readableRec t && decide (t < P.types.size)
theorem trodAll_stay (hl : laidOutB P = true) {W W' : World} (hb : Below W.heap.size W W') {sp : Nat → Bool} :
    ∀ {ts : List TypeId} {vs : List Value} {ds : List (DataW H)} {ps : List MemPlace}, rowsOk P ts = true → DataW.TrodAll enc P W 0 (fun _ => true) true ts vs ds ps →
      (∀ x ∈ ps, x.block < W.heap.size) → (∀ p ∈ ps, sp p.block = true) → DataW.TrodAll enc P W' 0 sp true ts vs ds ps
  | [], _, _, _, _, h, _, _ => by
    obtain ⟨rfl, rfl, rfl⟩ := trodAll_nil h
    exact trodAll_mk0
  | t :: ts, _, _, _, hr, h, hlt, hs => by
    obtain ⟨v, vs, d, ds, p, q, rfl, rfl, rfl, h1, h2⟩ := trodAll_cons h
    simp only [rowsOk, List.all_cons, Bool.and_eq_true, decide_eq_true_eq] at hr
    exact ⟨p, q, WideElems.Trod_stays hl hr.1.1 hr.1.2 h1 (fun x hx => hb.same (hlt x (by simp [hx]))) (fun x hx => hs x (by simp [hx])),
      trodAll_stay hl hb hr.2 h2 (fun x hx => hlt x (by simp [hx])) (fun x hx => hs x (by simp [hx])), rfl⟩
/-- a call that adds to memory alone and answers true -/
theorem post_true {f : Func} {s : ChangeSpec} {apart fresh handsOn again : Bool} {W W' : World} {args : Array Value} {ds gs : List (DataW H)} {before : List MemPlace} {tb : TypeId}
    (hW : DataW.Whole enc P f.params.toList s.vars apart W args.toList ds gs before) (hl : laidOutB P = true) (hv : s.vars = []) (hf : s.fn H ds = { results := [.lit (.bool true)], args := ds })
    (ht : f.resultTypes = #[tb]) (hb : P.underlying tb = some .bool) (hr : rowsOk P f.params.toList = true) (hu : Ext W W') :
    s.post enc P f apart fresh handsOn again W args (.bool true) W' := by
  have hW' := hW
  have hlt : ∀ x ∈ before, x.block < W.heap.size := fun x hx => by simpa using hW.lt x hx
  obtain ⟨p, q, hA, hV, rfl, hz, hn⟩ := hW
  rw [hv] at hV
  obtain ⟨rfl, rfl⟩ := trodVars_none hV
  simp only [List.append_nil] at hlt hz hn hW'
  have hargs : ∀ sp : Nat → Bool, (∀ x ∈ p, sp x.block = true) → DataW.TrodAll enc P W' 0 sp true f.params.toList args.toList ds p := fun sp hs => trodAll_stay hl hu.below hr hA hlt hs
  have hres : ∀ (b : Nat) (sp : Nat → Bool) (hd : Bool), DataW.TrodAll enc P W' b sp hd f.resultTypes.toList ((Value.bool true).resultList f.resultTypes.size) [.lit (.bool true)] [] := fun b sp hd => by
    rw [ht]
    exact trodAll_cons_mk (shut_bool hb _) trodAll_mk0
  have hvars : ∀ sp : Nat → Bool, DataW.TrodVars enc P W' sp s.vars [] [] := fun sp => by rw [hv]; rfl
  have hf' : s.fn H (ds ++ []) = { results := [.lit (.bool true)], args := ds } := by rw [List.append_nil]; exact hf
  refine ⟨ds, [], p, [], p, [], hW', ?_, ?_, ?_, hu.below.frame _, fun _ => ⟨ok_one ht rfl (okWide_bool_mk hb _), [.lit (.bool true)] ++ ds, [], p, ⟨p, [], ?_, ?_, by simp, ?_, hn⟩, fun x hx _ => hx⟩⟩
  · rw [hf']; exact hres _ _ _
  · rw [hf']; exact hargs _ fun x hx => by simpa using hlt x hx
  · rw [hf']; exact hvars _
  · exact trodAll_append (p := []) (hargs (fun _ => true) fun _ _ => rfl) (hres _ _ _)
  · exact hvars _
  · intro b off hp
    rw [hu.below.frozen (p := ⟨b, off, none⟩) (hlt _ hp)]
    exact hz b off hp
theorem sep_start {W : World} {fs : List Fact} (h : ∀ f ∈ fs, f.holds (fun k => k < W.heap.size) W) : Sep ⟨W, fun _ => False⟩ W (fs.map Fact.it) := by
  have hm : ∀ k, ¬ Mine (fs.map Fact.it) k := by
    rintro k ⟨I, h1, h2⟩
    obtain ⟨f, _, rfl⟩ := List.mem_map.1 h1
    cases h2
  refine ⟨Upd.refl, fun k hk => absurd hk (hm k), ?_, fun I hI => ?_⟩
  · refine List.pairwise_of_forall_mem_list fun I hI J _ k hk => ?_
    exact absurd ⟨I, hI, hk⟩ (hm k)
  · obtain ⟨f, h1, rfl⟩ := List.mem_map.1 hI
    exact f.mono (h f h1) fun k hk _ => ⟨hk, hm k⟩
end
/-! ### this program -/
theorem ownK : ownKnob Tryz.prog.godebug = none := by kernel_rfl
theorem laidK : laidOutB Tryz.prog = true := by kernel_rfl
theorem rtK : (Tryz.prog.cutTypes.find? (·.1 == "internal/reflectlite.rtype")).map (·.2) = some T.reflectlite_rtype := by kernel_rfl
theorem oneK : ((List.range Tryz.prog.types.size).filter fun t => Tryz.prog.rowNamed t [101, 114, 114, 111, 114]) = [T.error] := by kernel_rfl
theorem hhK : typeHandle Tryz.prog T.error = hdl T.error := by kernel_rfl
theorem errT_of {W : World} (h : handlesMet Tryz.prog [("errors.errorType", Rows.laid_errors_errorType)] W) : errT.holds (fun k => k < W.heap.size) W := by
  obtain ⟨name, u, ty, e1, e2, e3, e4, e5⟩ := h _ (List.mem_singleton.2 rfl)
  have en : name = [101, 114, 114, 111, 114] := (Option.some.inj e1).symm
  subst en
  obtain rfl := Option.some.inj (rtK.symm.trans e2)
  have hm : ty ∈ (List.range Tryz.prog.types.size).filter fun t => Tryz.prog.rowNamed t [101, 114, 114, 111, 114] := List.mem_filter.2 ⟨List.mem_range.2 e3, e4⟩
  rw [oneK] at hm
  obtain rfl := List.mem_singleton.1 hm
  rw [hhK] at e5
  have hc : W.cell? ⟨0, 0, none⟩ = some (rty T.error) := World.var?_cell (show Tryz.prog.globalNamed "errors.errorType" = some 0 by kernel_rfl) e5 0
  refine ⟨fun j v hv => ?_, fun _ => World.block_lt_of_cell? W _ hc⟩
  match j, hv with
  | 0, hv =>
    rw [← hv]
    exact hc
  | j + 1, hv => simp at hv
end Go.Proofs.YtbbmgkbinnomgaaGreatDoor
set_option linter.unusedVariables false
set_option linter.unusedSimpArgs false
set_option linter.unusedSectionVars false
namespace Go.Proofs.YtbbmgkbinnomgaaGreatDoor
open Go Go.Isk Go.RowKit Go.ChangeShapes Go.WideShapes Go.ChangeAt
theorem some_any {β : Type} {o : Option β} {p : β → Bool} (h : o.any p = true) : ∃ x, o = some x ∧ p x = true := by
  cases o with
  | none => cases h
  | some x => exact ⟨x, rfl, h⟩
theorem bulk_pos {H : Type} (d : DataW H) : 1 ≤ Rows.uptoBulk d := by
  cases d with
  | lit l => cases l <;> simp [Rows.uptoBulk]
  | nil => simp [Rows.uptoBulk]
  | ptr d => simp [Rows.uptoBulk]
  | slice elems spare => simp [Rows.uptoBulk]
  | agg parts => simp [Rows.uptoBulk]
  | iface t d => simp [Rows.uptoBulk]
  | map entries => simp [Rows.uptoBulk]
  | held h => simp [Rows.uptoBulk]
section
variable {α : Type} {P : Program} {W : World} {cs : List Value}
abbrev Old (W : World) : Nat → Prop := fun k => k < W.heap.size
/-- whatever reads at type t is a thing of F, and no greater than what it reads as -/
def Opn (P : Program) (W : World) (t : TypeId) (F : Fam α) (μ : α → Nat) : Prop :=
  ∀ {H : Type} {enc : TypeId × Value → H} {fuel : Nat} {cs : List Value} {x : DataW H × List MemPlace}, DataW.trod enc P W 0 (fun _ => true) true fuel t cs = some x → ∃ a, (F cs a).holds (Old W) W ∧ μ a ≤ Rows.uptoBulk x.1
def i64F : Fam Int := fun cs n => pureF (cs = [.int .i64 n] ∧ I64 n)
def strF : Fam Bytes := fun cs l => pureF (cs = [str l] ∧ l.length ≤ maxLen)
def hashF : Fam Bytes := fun cs l => pureF (cs = u8s l ∧ l.length = 32)
theorem opn_i64 {t : TypeId} (ht : P.underlying t = some (.int .i64)) : Opn P W t i64F fun _ => 1 := by
  intro H enc fuel cs x h
  obtain ⟨n, rfl, rfl, hw⟩ := DataW.trod_int ht h
  refine ⟨n, ⟨rfl, ?_⟩, bulk_pos _⟩
  simp [Lit.wf, IntKind.min, IntKind.max, IntKind.signed, IntKind.bits] at hw
  exact hw
theorem opn_str {t : TypeId} (ht : P.underlying t = some .string) : Opn P W t strF fun l => l.length + 1 := by
  intro H enc fuel cs x h
  obtain ⟨s, rfl, rfl, hw⟩ := DataW.trod_string ht h
  refine ⟨s.data.toList, ⟨rfl, by rw [Array.length_toList]; exact hw⟩, by simp [Rows.uptoBulk]⟩
def slcF (F : Fam α) (sz : Nat) : Fam (List α) := fun cs ls => ⟨fun S w => ∃ sv, cs = [sv] ∧ (listF F sz sv ls).holds S w,
  fun ⟨sv, e, h⟩ hu hd => ⟨sv, e, (listF F sz sv ls).keep h hu hd⟩, fun ⟨sv, e, h⟩ hs => ⟨sv, e, (listF F sz sv ls).mono h hs⟩⟩
/-- a field -/
def stF (P : Program) (t : TypeId) : Array Field := match P.underlying t with | some (.struct fs) => fs | _ => #[]
def isSt (P : Program) (t : TypeId) : Bool := match P.underlying t with | some (.struct _) => true | _ => false
def isSlc (P : Program) (t : TypeId) : Bool := match P.underlying t with | some (.slice _) => true | _ => false
def isI64 (P : Program) (t : TypeId) : Bool := match P.underlying t with | some (.int .i64) => true | _ => false
theorem opn_int {H : Type} {enc : TypeId × Value → H} {t : TypeId} {F : Fam α} {μ : α → Nat} {base : Nat} {v : Value} {d : DataW H} {p : List MemPlace} (ho : Opn P W t F μ) (hst : isI64 P t = true)
    (hv : Value.okWide P W .any base t v) (h : DataW.Trod enc P W 0 (fun _ => true) true t v d p) : ∃ a, (F [v] a).holds (Old W) W ∧ μ a ≤ Rows.uptoBulk d := by
  unfold isI64 at hst
  split at hst
  · rename_i he
    obtain ⟨n, rfl⟩ := okWide_int he hv
    obtain ⟨fuel, hf⟩ := h
    exact ho (x := (d, p)) (by simpa [Value.cells] using hf)
  · cases hst
end
set_option maxRecDepth 20000
/-! ### this program's things -/
variable {W : World}
theorem oI : Opn Tryz.prog W T.int i64F fun _ => 1 := opn_i64 (by kernel_rfl)
theorem oS : Opn Tryz.prog W T.string strF fun l => l.length + 1 := opn_str (by kernel_rfl)
end Go.Proofs.YtbbmgkbinnomgaaGreatDoor
