/- Errors, and errors.As at a number of the program's own. -/
import Derived.Test.YtgagekffmamldaaGreatDoorSL
import Derived.Stop.Asserts
import Derived.LaidEql
import Derived.Test.YtgagekffmamldaaGreatDoorPW
import Derived.Below
set_option linter.unusedVariables false
set_option linter.unusedSimpArgs false
set_option linter.unusedSectionVars false
namespace Go.Isk
open Go Go.RowKit Go.Extern
section
variable {P : Program}
theorem oN_ext {f : Nat} {e : Array Value → Sem Value} {args : Array Value} {w w' : World} {v : Value} {k : Value → World → Prop}
    (hf : ((P.funcs[f]?).map fun fn => (fn.name == "runtime.NumGoroutine", fn.body.isNone, (Extern.findNext fn).isNone, Extern.find fn)) = some (false, true, true, some e))
    (hr : (e args).run P w = .ok v w') (hk : k v w') : oN P (callFunc f args) w k := by
  refine ⟨?_⟩
  obtain ⟨fn, h1, h2⟩ := Option.map_eq_some_iff.1 hf
  simp only [Prod.mk.injEq] at h2
  rw [run_callFunc_extern h1 h2.1 h2.2.1 (by simpa using h2.2.2.1) h2.2.2.2, hr]
  exact hk
theorem iv_ext {f t : Nat} {x r : Value} {name : String} {e : Array Value → Sem Value} {args : Array Value} {w w' : World} {v : Value} {k : Value → World → Prop}
    (hm : (Go.method (P.types.size + Made.depth) t x name).run P w = .ok (f, r) w)
    (hf : ((P.funcs[f]?).map fun fn => (fn.name == "runtime.NumGoroutine", fn.body.isNone, (Extern.findNext fn).isNone, Extern.find fn)) = some (false, true, true, some e))
    (hr : (e (#[r] ++ args)).run P w = .ok v w') (hk : k v w') : iv P (.iface t x) name args w k := by
  refine ⟨?_⟩
  have h := (oN_ext hf hr hk).out
  have e1 : (invoke (.fn (.method name) #[]) (#[Value.iface t x] ++ args)).run P w = (callFunc f (#[r] ++ args)).run P w := by
    simp only [invoke, callMethod]
    simp only [Array.getElem?_append, List.size_toArray, List.length_cons, List.length_nil]
    simp only [Nat.zero_add, Nat.lt_one_iff, if_true, List.getElem?_toArray, List.getElem?_cons_zero]
    have ex : (#[Value.iface t x] ++ args).extract 1 (#[Value.iface t x] ++ args).size = args := by
      apply Array.ext' ; simp
    rw [ex]
    have hp : Sem.run P program w = .ok P w := rfl
    simp only [Sem.run_bind, hp, Result.andThen_ok, hm]
  rw [e1]; exact h
theorem iv_fn {f t : Nat} {x r : Value} {name : String} {args : Array Value} {w : World} {k : Value → World → Prop}
    (hm : (Go.method (P.types.size + Made.depth) t x name).run P w = .ok (f, r) w) (hb : bodied P f = true) (hk : C P f (#[r] ++ args) w k) : iv P (.iface t x) name args w k := by
  refine ⟨?_⟩
  have e1 : (invoke (.fn (.method name) #[]) (#[Value.iface t x] ++ args)).run P w = (callFunc f (#[r] ++ args)).run P w := by
    simp only [invoke, callMethod]
    simp only [Array.getElem?_append, List.size_toArray, List.length_cons, List.length_nil]
    simp only [Nat.zero_add, Nat.lt_one_iff, if_true, List.getElem?_toArray, List.getElem?_cons_zero]
    have ex : (#[Value.iface t x] ++ args).extract 1 (#[Value.iface t x] ++ args).size = args := by
      apply Array.ext' ; simp
    rw [ex]
    have hp : Sem.run P program w = .ok P w := rfl
    simp only [Sem.run_bind, hp, Result.andThen_ok, hm]
  rw [e1, run_bodied hb]; exact hk
def assT (P : Program) (t a : Nat) (has : Bool) : Bool := match P.underlying a, P.info? t, P.info? a with
  | some (.interface want), some i, some j => (lacking want i.methods).isEmpty == has && (match j.zero with | some .nilIface => true | _ => false)
  | _, _, _ => false
theorem ass_lacks {t a xT : Nat} {v : Value} {w : World} (h : assT P t a false = true) : (Instr.typeAssert (.iface t v) xT a true).run P w = .ok (.tuple #[.nilIface, .bool false]) w := by
  unfold assT at h
  split at h
  · rename_i want i j hu hi hj
    simp only [Bool.and_eq_true] at h
    obtain ⟨h1, h2⟩ := h
    split at h2
    · rename_i hz
      exact run_typeAssert_lacks hu hi hj hz (fun e => by rw [e] at h1; cases h1)
    · cases h2
  · cases h
theorem ass_has {t a xT : Nat} {v : Value} {w : World} (h : assT P t a true = true) : (Instr.typeAssert (.iface t v) xT a true).run P w = .ok (.tuple #[.iface t v, .bool true]) w := by
  unfold assT at h
  split at h
  · rename_i want i j hu hi hj
    simp only [Bool.and_eq_true] at h
    obtain ⟨h1, h2⟩ := h
    exact run_typeAssert_has hu hi (List.isEmpty_iff.1 (by simpa using h1))
  · cases h
end
end Go.Isk
namespace Go.Proofs.YtgagekffmamldaaGreatDoor
open Go Go.Isk Go.RowKit Go.Extern
/-- the handle of a type -/
abbrev hdl (t : Nat) : Value := .pointer (some ⟨NG, t, none⟩)
abbrev rty (t : Nat) : Value := .iface T.reflectlite_rtype (.agg #[hdl t])
abbrev EP : Nat := T.p_api_Errno
abbrev EN : Nat := T.api_Errno
theorem e_valueOf (t : Addr) (w : World) : (ReflectliteValue.unpack (.iface EP (.pointer (some t)))).run Tryz.prog w
    = .ok (.agg #[hdl EP, .pointer (some ⟨w.heap.size, 0, none⟩), .int .u64 150]) (w.alloc (.cells #[.pointer (some t)] EP)) := by kernel_rfl
theorem e_type (a : Addr) (w : World) : (ReflectliteValue.methodAny (ReflectliteValue.valueError "reflectlite.Value.Type" 0) (fun t _ _ _ => ReflectliteType.toType t) #[.agg #[hdl EP, .pointer (some a), .int .u64 150]]).run Tryz.prog w
    = .ok (rty EP) w := by kernel_rfl
theorem e_kindP (w : World) : ((ReflectliteType.abiMethod fun t => (fun a : Nat => Value.int IntKind.u8 (a : Int)) <$> Rtype.kind t) #[hdl EP]).run Tryz.prog w = .ok (.int .u8 22) w := by kernel_rfl
theorem e_kindN (w : World) : ((ReflectliteType.abiMethod fun t => (fun a : Nat => Value.int IntKind.u8 (a : Int)) <$> Rtype.kind t) #[hdl EN]).run Tryz.prog w = .ok (.int .u8 2) w := by kernel_rfl
theorem e_parts (a : Addr) (w : World) : (ReflectliteValue.parts (.agg #[hdl EP, .pointer (some a), .int .u64 150])).run Tryz.prog w = .ok (some (EP, a, 150)) w := by kernel_rfl
theorem e_undP : Tryz.prog.underlying EP = some (.pointer EN) := by kernel_rfl
theorem e_undN : Tryz.prog.underlying EN = some (.int .i64) := by kernel_rfl
theorem e_isNil (a p : Addr) (W : World) (ha : W.cell? a = some (.pointer (some p))) :
    (ReflectliteValue.method (ReflectliteValue.valueError "reflectlite.Value.IsNil" 0) ReflectliteValue.isNil #[.agg #[hdl EP, .pointer (some a), .int .u64 150]]).run Tryz.prog W = .ok (.bool false) W := by
  change (ReflectliteValue.parts (.agg #[hdl EP, .pointer (some a), .int .u64 150]) >>= _).run Tryz.prog W = _
  simp only [Sem.run_bind, e_parts, Result.andThen]
  simp [ReflectliteValue.isNil, loadVar, isAgg, underlying, e_undP, ha, Result.andThen]
theorem e_elemT (w : World) : (ReflectliteType.method ReflectliteType.elem #[.agg #[hdl EP]]).run Tryz.prog w = .ok (rty EN) w := by kernel_rfl
theorem e_implements (w : World) : (ReflectliteType.relation "Implements" ReflectliteType.implements_ #[.agg #[hdl EN], rty T.error]).run Tryz.prog w = .ok (.bool true) w := by kernel_rfl
theorem e_typeOfN (v : Value) (w : World) : (ReflectliteType.typeOf #[.iface EN v]).run Tryz.prog w = .ok (rty EN) w := by kernel_rfl
theorem e_typeOfF (v : Value) (w : World) : (ReflectliteType.typeOf #[.iface T.p_api_Fault v]).run Tryz.prog w = .ok (rty T.p_api_Fault) w := by kernel_rfl
theorem e_assignN (w : World) : (ReflectliteType.relation "AssignableTo" ReflectliteType.assignableTo #[.agg #[hdl EN], rty EN]).run Tryz.prog w = .ok (.bool true) w := by kernel_rfl
theorem e_assignF (w : World) : (ReflectliteType.relation "AssignableTo" ReflectliteType.assignableTo #[.agg #[hdl T.p_api_Fault], rty EN]).run Tryz.prog w = .ok (.bool false) w := by kernel_rfl
theorem e_valueOfN (n : Int) (w : World) : (ReflectliteValue.unpack (.iface EN (.int .i64 n))).run Tryz.prog w
    = .ok (.agg #[hdl EN, .pointer (some ⟨w.heap.size, 0, none⟩), .int .u64 130]) (w.alloc (.cells #[.int .i64 n] EN)) := by kernel_rfl
theorem e_elemOf (w : World) : (Rtype.elem? EP).run Tryz.prog w = .ok (some EN) w := by kernel_rfl
theorem e_mk (p : Addr) (w : World) : (ReflectliteValue.mk EN p ReflectliteValue.flagAddr).run Tryz.prog w = .ok (.agg #[hdl EN, .pointer (some p), .int .u64 386]) w := by kernel_rfl
theorem e_elemV (a p : Addr) (W : World) (ha : W.cell? a = some (.pointer (some p))) :
    (ReflectliteValue.method (ReflectliteValue.valueError "reflectlite.Value.Elem" 0) ReflectliteValue.elem #[.agg #[hdl EP, .pointer (some a), .int .u64 150]]).run Tryz.prog W
      = .ok (.agg #[hdl EN, .pointer (some p), .int .u64 386]) W := by
  change (ReflectliteValue.parts (.agg #[hdl EP, .pointer (some a), .int .u64 150]) >>= _).run Tryz.prog W = _
  simp only [Sem.run_bind, e_parts, Result.andThen]
  simp [ReflectliteValue.elem, loadVar, isAgg, underlying, e_undP, ha, Result.andThen, e_elemOf, e_mk]
theorem e_partsA (a : Addr) (w : World) : (ReflectliteValue.parts (.agg #[hdl EN, .pointer (some a), .int .u64 386])).run Tryz.prog w = .ok (some (EN, a, 386)) w := by kernel_rfl
theorem e_partsN (a : Addr) (w : World) : (ReflectliteValue.parts (.agg #[hdl EN, .pointer (some a), .int .u64 130])).run Tryz.prog w = .ok (some (EN, a, 130)) w := by kernel_rfl
theorem e_direct (w : World) : (Rtype.directlyAssignable EN EN).run Tryz.prog w = .ok true w := by kernel_rfl
/-- (Value).Set: the number at 'ta' gets what the Value's own variable 'b' holds. -/
theorem e_set (ta b : Addr) (n : Int) (old : Value) (W : World) (hb : W.cell? b = some (.int .i64 n)) (ht : W.cell? ta = some old) (hf : W.frozen? ta = false) :
    (ReflectliteValue.set #[.agg #[hdl EN, .pointer (some ta), .int .u64 386], .agg #[hdl EN, .pointer (some b), .int .u64 130]]).run Tryz.prog W
      = .ok (.tuple #[]) (W.setCell ta (.int .i64 n)) := by
  change (ReflectliteValue.parts (.agg #[hdl EN, .pointer (some ta), .int .u64 386]) >>= fun z => ReflectliteValue.parts (.agg #[hdl EN, .pointer (some b), .int .u64 130]) >>= _).run Tryz.prog W = _
  simp only [Sem.run_bind, e_partsA, e_partsN, Result.andThen]
  simp [ReflectliteValue.flagAddr, loadVar, isAgg, underlying, e_undN, hb, Result.andThen, e_direct, storeVar, Value.cells, storeCells, Addr.add]
  rw [run_store Tryz.prog W ta _ _ (by rfl)]
  simp [ht, hf]
def errT : Fact := rngF 0 0 [rty T.error]
/-- an error, d times wrapped, of number n -/
def ErrD (S : Nat → Prop) (w : World) : Nat → Value → Int → Prop
  | 0, v, n => (v = .nilIface ∧ n = 0) ∨ (v = .iface EN (.int .i64 n) ∧ n ≠ 0 ∧ -9223372036854775808 ≤ n ∧ n ≤ 9223372036854775807)
  | d + 1, v, n => ∃ g s v', v = .iface T.p_api_Fault (.pointer (some ⟨g, 0, none⟩)) ∧ n ≠ 0 ∧ (rngF g 0 [str s, v']).holds S w ∧ ErrD S w d v' n
theorem ErrD.keep {S D : Nat → Prop} {w w' : World} : ∀ {d : Nat} {v : Value} {n : Int}, ErrD S w d v n → Upd D w w' → (∀ k, S k → ¬ D k) → ErrD S w' d v n
  | 0, _, _, h, _, _ => h
  | _ + 1, _, _, ⟨g, s, v', e, h0, h1, h2⟩, hu, hd => ⟨g, s, v', e, h0, (rngF g 0 _).keep h1 hu hd, ErrD.keep h2 hu hd⟩
theorem ErrD.mono {S S' : Nat → Prop} {w : World} : ∀ {d : Nat} {v : Value} {n : Int}, ErrD S w d v n → (∀ k, S k → k < w.heap.size → S' k) → ErrD S' w d v n
  | 0, _, _, h, _ => h
  | _ + 1, _, _, ⟨g, s, v', e, h0, h1, h2⟩, hs => ⟨g, s, v', e, h0, (rngF g 0 _).mono h1 hs, ErrD.mono h2 hs⟩
def errF (v : Value) (n : Int) : Fact := ⟨fun S w => ∃ d, ErrD S w d v n, fun ⟨d, h⟩ hu hd => ⟨d, h.keep hu hd⟩, fun ⟨d, h⟩ hs => ⟨d, h.mono hs⟩⟩
def errDF (d : Nat) (v : Value) (n : Int) : Fact := ⟨fun S w => ErrD S w d v n, fun h hu hd => h.keep hu hd, fun h hs => h.mono hs⟩
theorem ErrD.uniq {S : Nat → Prop} {w : World} : ∀ {d d' : Nat} {v : Value} {n n' : Int}, ErrD S w d v n → ErrD S w d' v n' → d = d'
  | 0, 0, _, _, _, _, _ => rfl
  | 0, d' + 1, _, _, _, h, ⟨g, s, v', e, _⟩ => by
    subst e
    rcases h with ⟨h, _⟩ | ⟨h, _⟩
    · cases h
    · cases h
  | d + 1, 0, _, _, _, ⟨g, s, v', e, _⟩, h => by
    subst e
    rcases h with ⟨h, _⟩ | ⟨h, _⟩
    · cases h
    · cases h
  | d + 1, d' + 1, _, _, _, ⟨g, s, v', e, _, h1, h2⟩, ⟨g', s', u', e', _, h1', h2'⟩ => by
    subst e
    cases e'
    have q1 := h1.1 1 v' rfl
    have q2 := h1'.1 1 u' rfl
    rw [q1] at q2
    cases q2
    rw [ErrD.uniq h2 h2']
open Classical in
noncomputable def errDepth (w : World) (v : Value) : Nat := if h : ∃ d n, ErrD (fun _ => True) w d v n then h.choose else 0
theorem errDepth_eq {w : World} {d : Nat} {v : Value} {n : Int} (h : ErrD (fun _ => True) w d v n) : errDepth w v = d := by
  unfold errDepth
  have hx : ∃ d n, ErrD (fun _ => True) w d v n := ⟨d, n, h⟩
  rw [dif_pos hx]
  obtain ⟨n', h'⟩ := hx.choose_spec
  exact h'.uniq h
section
variable {b : Base} {w : World} {L R : List It} {v : Value} {n : Int} {t : Nat}
theorem errF_nil (h : Sep b w L) : Sep b w ((errF .nilIface 0).it :: L) := h.fact ⟨0, .inl ⟨rfl, rfl⟩⟩
end
end Go.Proofs.YtgagekffmamldaaGreatDoor
set_option linter.unusedVariables false
set_option linter.unusedSimpArgs false
set_option linter.unusedSectionVars false
namespace Go.Proofs.YtgagekffmamldaaGreatDoor
open Go Go.Isk Go.RowKit Go.Extern
theorem setCell_blk {w : World} {t T : Nat} {old u : Value} (h : Blk w t T [old]) : Blk (w.setCell ⟨t, 0, none⟩ u) t T [u] ∧ Upd (fun k => k = t) w (w.setCell ⟨t, 0, none⟩ u) := by
  refine ⟨?_, rfl, rfl, rfl, by simp [World.setCell], fun k _ hn => Below.heap_setCell w _ u k hn⟩
  unfold Blk at h ⊢
  simp [World.setCell, Array.getElem?_modify, h]
section
variable {b : Base} {w : World} {L R : List It} {v : Value} {n : Int} {t : Nat}
theorem api_Fault_Unwrap {g : Nat} {s : List UInt8} (hs : Sep b w L) (hm : Rng L g 0 [str s, v]) : C Tryz.prog N.api_Fault_Unwrap #[.pointer (some ⟨g, 0, none⟩)] w fun r w' => r = v ∧ w' = w := by
  refine C.api_Fault_Unwrap ?_
  unfold F.api_Fault_Unwrap
  repeat with_reducible refine mv.mk ?_
  refine nk_p ?_
  repeat with_reducible refine mv.mk ?_
  refine sp_f1 (off := 1) (cs := [str s, v]) (by kernel_rfl) (by kernel_rfl) rfl hs hm ?_
  repeat with_reducible refine mv.mk ?_
  exact ⟨rfl, rfl⟩
theorem errors_as {d : Nat} {old : Value} {a1 : Value} (hn : n ≠ 0) (hs : Sep b w L) (hm : Has L (blkI t EN [old]) R) (hv : Ins R (errDF d v n).it) {a : Nat} (ha : Rng R a 0 [.pointer (some ⟨t, 0, none⟩)]) :
    C Tryz.prog N.errors_as #[v, a1, .agg #[hdl EP, .pointer (some ⟨a, 0, none⟩), .int .u64 150], rty EN] w fun r w' => r = .bool true ∧ Sep b w' (blkI t EN [.int .i64 n] :: R) := by
  replace hs := hs.perm hm.perm
  refine C.errors_as ?_
  unfold F.errors_as
  refine sp_box hs rfl fun g6 w0 hs => mv.mk ?_
  have h0 : ErrD _ w0 d v n := hs.get (.tl (.tl hv))
  refine lp_by (fun vs w' => ∃ d' v' x1 x2 x3 x4 x5 x6 x7 x8, w' = w0 ∧ vs = [v', x1, x2, x3, x4, x5, x6, x7, x8] ∧ Sep b w0 ((errDF d' v' n).it :: blkI g6 T.reflectlite_Value [hdl EP, .pointer (some ⟨a, 0, none⟩), .int .u64 150] :: blkI t EN [old] :: R)) (fun vs _ => match vs with | v :: _ => errDepth w0 v | _ => 0)
    ⟨d, v, _, _, _, _, _, _, _, _, rfl, rfl, hs.fact h0⟩ ?_
  rintro x w ⟨d', v', x1, x2, x3, x4, x5, x6, x7, x8, rfl, hx, hs⟩
  simp only [List.cons.injEq, and_true] at hx
  rw [hx.1]
  repeat with_reducible refine mv.mk ?_
  have hd : ErrD _ w d' v' n := hs.get .hd
  have hdd := errDepth_eq (hd.mono fun _ _ _ => trivial)
  cases d' with
  | zero =>
    rcases hd with ⟨_, e⟩ | ⟨rfl, _, _, _⟩
    · exact absurd e hn
    refine oN_ext (by kernel_rfl) (e_typeOfN _ _) ?_
    repeat with_reducible refine mv.mk ?_
    refine iv_ext (f := N.internal_reflectlite_rtype_AssignableTo) (by kernel_rfl) (by kernel_rfl) (e_assignN _) (br_t ?_)
    refine sp_loadall hs (by first | ((repeat (first | with_reducible exact Has.hd | with_reducible apply Has.tl)); done) | (repeat (first | exact Has.hd | with_reducible apply Has.tl))) (by kernel_rfl) rfl ?_
    have hac := hs.rng (.tl (.tl (.tl ha))) 0 _ rfl
    refine oN_ext (by kernel_rfl) (e_elemV _ _ _ hac) ?_
    repeat with_reducible refine mv.mk ?_
    have hb := hs.blk (g := t) (t := EN) (by first | ((repeat (first | with_reducible exact Has.hd | with_reducible apply Has.tl)); done) | (repeat (first | exact Has.hd | with_reducible apply Has.tl)))
    have ht := hb.cell 0
    refine oN_ext (e := fun args => ReflectliteValue.unpack (args.getD 0 (.tuple #[]))) (by kernel_rfl) (e_valueOfN n w) ?_
    have hu1 : Ext w (w.alloc (.cells #[.int .i64 n] EN)) := upd_alloc _
    have hb1 : Blk (w.alloc (.cells #[.int .i64 n] EN)) w.heap.size EN [.int .i64 n] := Blk.new
    have ht1 := hb.ext hu1
    refine oN_ext (by kernel_rfl) (e_set ⟨t, 0, none⟩ ⟨w.heap.size, 0, none⟩ n old _ (hb1.cell 0) (ht1.cell 0) (ht1.frozen 0)) ?_
    have hq := setCell_blk (u := .int .i64 n) ht1
    replace hs := (hs.ext hu1).reblk (g := t) (t := EN) (by first | ((repeat (first | with_reducible exact Has.hd | with_reducible apply Has.tl)); done) | (repeat (first | exact Has.hd | with_reducible apply Has.tl))) hq.2 hq.1
    repeat with_reducible refine mv.mk ?_
    exact ⟨rfl, hs.sbl (by repeat (first | with_reducible exact Sbl.all | with_reducible exact Sbl.nil | refine Sbl.cons (by first | ((repeat (first | with_reducible exact Has.hd | with_reducible apply Has.tl)); done) | (repeat (first | exact Has.hd | with_reducible apply Has.tl))) ?_ | refine Sbl.drop ?_))⟩
  | succ d' =>
    obtain ⟨g, s, v2, rfl, _, hr, hd2⟩ := hd
    refine oN_ext (by kernel_rfl) (e_typeOfF _ _) ?_
    repeat with_reducible refine mv.mk ?_
    refine iv_ext (f := N.internal_reflectlite_rtype_AssignableTo) (by kernel_rfl) (by kernel_rfl) (e_assignF _) (br_f ?_)
    repeat with_reducible refine mv.mk ?_
    refine st_of (ass_lacks (by kernel_rfl)) ?_
    repeat with_reducible refine mv.mk ?_
    refine st1 fun k' hk => ?_; simp [go_sem, thenR_ok, bin]; refine hk _ _ ?_; clear hk k'
    refine st1 fun k' hk => ?_; simp [go_sem, thenR_ok, bin]; refine hk _ _ ?_; clear hk k'
    repeat (first | (with_reducible refine mv.mk ?_) | (with_reducible refine gd_ft ?_) | (with_reducible refine pk_f ?_) | (with_reducible refine br_f ?_))
    refine st_of (ass_has (by kernel_rfl)) ?_
    refine st1 fun k' hk => ?_; simp [go_sem, thenR_ok, bin]; refine hk _ _ ?_; clear hk k'
    refine st1 fun k' hk => ?_; simp [go_sem, thenR_ok, bin]; refine hk _ _ ?_; clear hk k'
    repeat (first | (with_reducible refine mv.mk ?_) | (with_reducible refine gd_ft ?_) | (with_reducible refine br_t ?_))
    refine iv_fn (f := N.api_Fault_Unwrap) (r := .pointer (some ⟨g, 0, none⟩)) (by kernel_rfl) (by kernel_rfl) ?_
    have hd3 := hd2
    replace hs := hs.fact (f := errDF d' v2 n) hd2
    have hr' := hs.fact (f := rngF g 0 [str s, v2]) ((rngF g 0 _).mono hr fun k hk _ => ⟨hk.1, fun hm => hk.2 (mine_fact.1 hm)⟩)
    refine cl (api_Fault_Unwrap hr' (by repeat (first | with_reducible exact Rng.blk | with_reducible exact Rng.rng | with_reducible apply Rng.tl))) ?_
    rintro r1 w1 ⟨e1, e2⟩
    subst e2; subst e1
    repeat with_reducible refine mv.mk ?_
    have hnn : ∃ ty u, r1 = .iface ty u := by
      cases d' with
      | zero =>
        rcases hd2 with ⟨_, e⟩ | ⟨rfl, _⟩
        · exact absurd e hn
        · exact ⟨_, _, rfl⟩
      | succ d' =>
        obtain ⟨g4, s4, v4, rfl, _⟩ := hd2
        exact ⟨_, _, rfl⟩
    obtain ⟨ty, u, rfl⟩ := hnn
    repeat (first
      | (refine st1 fun k' hk => ?_; simp [go_sem, thenR_ok, bin]; refine hk _ _ ?_; clear hk k')
      | (with_reducible refine mv.mk ?_) | (with_reducible refine nk_p ?_) | (with_reducible refine gd_u ?_) | (with_reducible refine gd_ft ?_) | (with_reducible refine gd_tf ?_) | (with_reducible refine gd_i ?_) | (with_reducible refine pk_t ?_) | (with_reducible refine pk_f ?_) | (with_reducible refine br_t ?_) | (with_reducible refine br_f ?_))
    have hdd2 := errDepth_eq (hd3.mono fun _ _ _ => trivial)
    exact ⟨⟨d', _, _, _, _, _, _, _, _, _, rfl, rfl, hs.sbl (by repeat (first | with_reducible exact Sbl.all | with_reducible exact Sbl.nil | refine Sbl.cons (by first | ((repeat (first | with_reducible exact Has.hd | with_reducible apply Has.tl)); done) | (repeat (first | exact Has.hd | with_reducible apply Has.tl))) ?_ | refine Sbl.drop ?_))⟩, by simp only []; rw [hdd, hdd2]; omega⟩
theorem errors_As {d : Nat} {old : Value} (hn : n ≠ 0) (hs : Sep b w L) (hm : Has L (blkI t EN [old]) R) (hv : Ins R (errDF d v n).it) (hT : Ins R errT.it) :
    C Tryz.prog N.errors_As #[v, .iface EP (.pointer (some ⟨t, 0, none⟩))] w fun r w' => r = .bool true ∧ Sep b w' (blkI t EN [.int .i64 n] :: R) := by
  replace hs := hs.perm hm.perm
  have h0 : ErrD _ w d v n := hs.get (.tl hv)
  have hnn : ∃ ty u, v = .iface ty u := by
    cases d with
    | zero =>
      rcases h0 with ⟨_, e⟩ | ⟨rfl, _⟩
      · exact absurd e hn
      · exact ⟨_, _, rfl⟩
    | succ d' =>
      obtain ⟨g4, s4, v4, rfl, _⟩ := h0
      exact ⟨_, _, rfl⟩
  obtain ⟨ty, u, rfl⟩ := hnn
  refine C.errors_As ?_
  unfold F.errors_As
  repeat (first
    | (refine st1 fun k' hk => ?_; simp [go_sem, thenR_ok, bin]; refine hk _ _ ?_; clear hk k')
    | (with_reducible refine mv.mk ?_) | (with_reducible refine nk_p ?_) | (with_reducible refine gd_u ?_) | (with_reducible refine gd_ft ?_) | (with_reducible refine gd_tf ?_) | (with_reducible refine gd_i ?_) | (with_reducible refine pk_t ?_) | (with_reducible refine pk_f ?_) | (with_reducible refine br_t ?_) | (with_reducible refine br_f ?_))
  refine jn_in ?_
  repeat (first
    | (refine st1 fun k' hk => ?_; simp [go_sem, thenR_ok, bin]; refine hk _ _ ?_; clear hk k')
    | (with_reducible refine mv.mk ?_) | (with_reducible refine nk_p ?_) | (with_reducible refine gd_u ?_) | (with_reducible refine gd_ft ?_) | (with_reducible refine gd_tf ?_) | (with_reducible refine gd_i ?_) | (with_reducible refine pk_t ?_) | (with_reducible refine pk_f ?_) | (with_reducible refine br_t ?_) | (with_reducible refine br_f ?_))
  rintro - -
  repeat with_reducible refine mv.mk ?_
  refine oN_ext (e := fun args => ReflectliteValue.unpack (args.getD 0 (.tuple #[]))) (by kernel_rfl) (e_valueOf ⟨t, 0, none⟩ w) ?_
  have hu1 : Ext w (w.alloc (.cells #[.pointer (some ⟨t, 0, none⟩)] EP)) := upd_alloc _
  have hb1 : Blk (w.alloc (.cells #[.pointer (some ⟨t, 0, none⟩)] EP)) w.heap.size EP [.pointer (some ⟨t, 0, none⟩)] := Blk.new
  replace hs := hs.add (I := blkI w.heap.size EP [.pointer (some ⟨t, 0, none⟩)]) hu1 (by simp [blkI]) hb1
  generalize hg : w.heap.size = g1 at *
  refine sp_var (ds := [hdl EP, .pointer (some ⟨g1, 0, none⟩), .int .u64 150]) hs (by kernel_rfl) (by kernel_rfl) rfl (by simp [Value.oneCell']) fun g5 w hs => ?_
  refine sp_loadall hs (by first | ((repeat (first | with_reducible exact Has.hd | with_reducible apply Has.tl)); done) | (repeat (first | exact Has.hd | with_reducible apply Has.tl))) (by kernel_rfl) rfl ?_
  refine oN_ext (by kernel_rfl) (e_type _ _) ?_
  repeat with_reducible refine mv.mk ?_
  refine iv_ext (f := N.internal_abi_Type_Kind) (by kernel_rfl) (by kernel_rfl) (e_kindP _) ?_
  repeat (first
    | (refine st1 fun k' hk => ?_; simp [go_sem, thenR_ok, bin]; refine hk _ _ ?_; clear hk k')
    | (with_reducible refine mv.mk ?_) | (with_reducible refine nk_p ?_) | (with_reducible refine gd_u ?_) | (with_reducible refine gd_ft ?_) | (with_reducible refine gd_tf ?_) | (with_reducible refine gd_i ?_) | (with_reducible refine pk_t ?_) | (with_reducible refine pk_f ?_) | (with_reducible refine br_t ?_) | (with_reducible refine br_f ?_))
  refine sp_loadall hs (by first | ((repeat (first | with_reducible exact Has.hd | with_reducible apply Has.tl)); done) | (repeat (first | exact Has.hd | with_reducible apply Has.tl))) (by kernel_rfl) rfl ?_
  refine gd_i ?_
  have hc1 := (hs.blk (g := g1) (t := EP) (by first | ((repeat (first | with_reducible exact Has.hd | with_reducible apply Has.tl)); done) | (repeat (first | exact Has.hd | with_reducible apply Has.tl)))).cell 0
  refine oN_ext (by kernel_rfl) (e_isNil _ _ _ hc1) ?_
  repeat (first
    | (refine st1 fun k' hk => ?_; simp [go_sem, thenR_ok, bin]; refine hk _ _ ?_; clear hk k')
    | (with_reducible refine mv.mk ?_) | (with_reducible refine nk_p ?_) | (with_reducible refine gd_u ?_) | (with_reducible refine gd_ft ?_) | (with_reducible refine gd_tf ?_) | (with_reducible refine gd_i ?_) | (with_reducible refine pk_t ?_) | (with_reducible refine pk_f ?_) | (with_reducible refine br_t ?_) | (with_reducible refine br_f ?_))
  refine jn_in ?_
  repeat (first
    | (refine st1 fun k' hk => ?_; simp [go_sem, thenR_ok, bin]; refine hk _ _ ?_; clear hk k')
    | (with_reducible refine mv.mk ?_) | (with_reducible refine nk_p ?_) | (with_reducible refine gd_u ?_) | (with_reducible refine gd_ft ?_) | (with_reducible refine gd_tf ?_) | (with_reducible refine gd_i ?_) | (with_reducible refine pk_t ?_) | (with_reducible refine pk_f ?_) | (with_reducible refine br_t ?_) | (with_reducible refine br_f ?_))
  rintro - -
  repeat with_reducible refine mv.mk ?_
  refine iv_ext (f := N.internal_reflectlite_rtype_Elem) (by kernel_rfl) (by kernel_rfl) (e_elemT _) ?_
  repeat with_reducible refine mv.mk ?_
  refine iv_ext (f := N.internal_abi_Type_Kind) (by kernel_rfl) (by kernel_rfl) (e_kindN _) ?_
  repeat (first
    | (refine st1 fun k' hk => ?_; simp [go_sem, thenR_ok, bin]; refine hk _ _ ?_; clear hk k')
    | (with_reducible refine mv.mk ?_) | (with_reducible refine nk_p ?_) | (with_reducible refine gd_u ?_) | (with_reducible refine gd_ft ?_) | (with_reducible refine gd_tf ?_) | (with_reducible refine gd_i ?_) | (with_reducible refine pk_t ?_) | (with_reducible refine pk_f ?_) | (with_reducible refine br_t ?_) | (with_reducible refine br_f ?_))
  have hg0 := (hs.get (I := errT.it) (.tl (.tl (.tl hT)))).1 0 _ rfl
  refine st_of (load_one (by kernel_rfl) hg0) ?_
  refine gd_i ?_
  refine iv_ext (f := N.internal_reflectlite_rtype_Implements) (by kernel_rfl) (by kernel_rfl) (e_implements _) ?_
  repeat (first
    | (refine st1 fun k' hk => ?_; simp [go_sem, thenR_ok, bin]; refine hk _ _ ?_; clear hk k')
    | (with_reducible refine mv.mk ?_) | (with_reducible refine nk_p ?_) | (with_reducible refine gd_u ?_) | (with_reducible refine gd_ft ?_) | (with_reducible refine gd_tf ?_) | (with_reducible refine gd_i ?_) | (with_reducible refine pk_t ?_) | (with_reducible refine pk_f ?_) | (with_reducible refine br_t ?_) | (with_reducible refine br_f ?_))
  refine jn_in ?_
  repeat (first
    | (refine st1 fun k' hk => ?_; simp [go_sem, thenR_ok, bin]; refine hk _ _ ?_; clear hk k')
    | (with_reducible refine mv.mk ?_) | (with_reducible refine nk_p ?_) | (with_reducible refine gd_u ?_) | (with_reducible refine gd_ft ?_) | (with_reducible refine gd_tf ?_) | (with_reducible refine gd_i ?_) | (with_reducible refine pk_t ?_) | (with_reducible refine pk_f ?_) | (with_reducible refine br_t ?_) | (with_reducible refine br_f ?_))
  rintro - -
  repeat with_reducible refine mv.mk ?_
  refine sp_loadall hs (by first | ((repeat (first | with_reducible exact Has.hd | with_reducible apply Has.tl)); done) | (repeat (first | exact Has.hd | with_reducible apply Has.tl))) (by kernel_rfl) rfl ?_
  repeat with_reducible refine mv.mk ?_
  refine cl (errors_as (d := d) (old := old) (t := t) (a := g1) hn hs (by first | ((repeat (first | with_reducible exact Has.hd | with_reducible apply Has.tl)); done) | (repeat (first | exact Has.hd | with_reducible apply Has.tl))) (.tl (.tl hv)) (by repeat (first | with_reducible exact Rng.blk | with_reducible exact Rng.rng | with_reducible apply Rng.tl))) ?_
  rintro _ w ⟨rfl, hs⟩
  repeat with_reducible refine mv.mk ?_
  exact ⟨rfl, hs.sbl (by repeat (first | with_reducible exact Sbl.all | with_reducible exact Sbl.nil | refine Sbl.cons (by first | ((repeat (first | with_reducible exact Has.hd | with_reducible apply Has.tl)); done) | (repeat (first | exact Has.hd | with_reducible apply Has.tl))) ?_ | refine Sbl.drop ?_))⟩
theorem num_call {F : (Value → World → Prop) → Value → World → Prop} {k : Value → World → Prop} (hs : Sep b w L) (hT : Ins L errT.it) (hv : Ins L (errF v n).it)
    (hF : ∀ k a0 w, F k a0 w = (mv (.int .i64 0) fun t2 =>
      o1 Tryz.prog (Instr.alloc T.api_Errno true (.tuple #[])) w fun t3 w =>
      mv a0 fun t4 =>
      o1 Tryz.prog (bin .eql T.error (.tmp 4) (.const .nilIface) t4 .nilIface) w fun t5 w =>
      br t5 (fun _ =>
      mv (.int .i64 0) fun t2_1 =>
      k t2_1 w) (fun _ =>
      mv a0 fun t6 =>
      o1 Tryz.prog (Instr.makeInterface T.p_api_Errno t3) w fun t7 w =>
      C Tryz.prog N.errors_As #[t6, t7] w fun t8 w =>
      br t8 (fun _ =>
      o1 Tryz.prog (Instr.loadAt T.api_Errno t3) w fun t9 w =>
      mv t9 fun t2_2 =>
      k t2_2 w) (fun _ =>
      mv (.int .i64 (-1)) fun t2_3 =>
      k t2_3 w))))
    (hk : ∀ w', Sep b w' L → k (.int .i64 n) w') : F k v w := by
  rw [hF]
  repeat with_reducible refine mv.mk ?_
  refine sp_alloc (cs := [.int .i64 0]) hs (zeroT_of (by kernel_rfl)) fun g w hs => ?_
  repeat with_reducible refine mv.mk ?_
  obtain ⟨d, hd⟩ := hs.get (.tl hv)
  by_cases hn : n = 0
  · have hv0 : v = .nilIface := by
      cases d with
      | zero =>
        rcases hd with ⟨e, _⟩ | ⟨_, e, _⟩
        · exact e
        · exact absurd hn e
      | succ d' =>
        obtain ⟨_, _, _, _, e, _⟩ := hd
        exact absurd hn e
    subst hv0; subst hn
    repeat (first
      | (refine st1 fun k' hk => ?_; simp [go_sem, thenR_ok, bin]; refine hk _ _ ?_; clear hk k')
      | (with_reducible refine mv.mk ?_) | (with_reducible refine nk_p ?_) | (with_reducible refine gd_u ?_) | (with_reducible refine gd_ft ?_) | (with_reducible refine gd_tf ?_) | (with_reducible refine gd_i ?_) | (with_reducible refine pk_t ?_) | (with_reducible refine pk_f ?_) | (with_reducible refine br_t ?_) | (with_reducible refine br_f ?_))
    exact hk _ (hs.sbl (by repeat (first | with_reducible exact Sbl.all | with_reducible exact Sbl.nil | refine Sbl.cons (by first | ((repeat (first | with_reducible exact Has.hd | with_reducible apply Has.tl)); done) | (repeat (first | exact Has.hd | with_reducible apply Has.tl))) ?_ | refine Sbl.drop ?_)))
  · have hnn : ∃ ty u, v = .iface ty u := by
      cases d with
      | zero =>
        rcases hd with ⟨_, e⟩ | ⟨rfl, _⟩
        · exact absurd e hn
        · exact ⟨_, _, rfl⟩
      | succ d' =>
        obtain ⟨g4, s4, v4, rfl, _⟩ := hd
        exact ⟨_, _, rfl⟩
    obtain ⟨ty, u, rfl⟩ := hnn
    repeat (first
      | (refine st1 fun k' hk => ?_; simp [go_sem, thenR_ok, bin]; refine hk _ _ ?_; clear hk k')
      | (with_reducible refine mv.mk ?_) | (with_reducible refine nk_p ?_) | (with_reducible refine gd_u ?_) | (with_reducible refine gd_ft ?_) | (with_reducible refine gd_tf ?_) | (with_reducible refine gd_i ?_) | (with_reducible refine pk_t ?_) | (with_reducible refine pk_f ?_) | (with_reducible refine br_t ?_) | (with_reducible refine br_f ?_))
    replace hs := hs.fact (f := errDF d (.iface ty u) n) hd
    refine cl (errors_As (d := d) (old := .int .i64 0) (t := g) hn hs (by first | ((repeat (first | with_reducible exact Has.hd | with_reducible apply Has.tl)); done) | (repeat (first | exact Has.hd | with_reducible apply Has.tl))) .hd (.tl hT)) ?_
    rintro _ w ⟨rfl, hs⟩
    refine br_t (sp_ldv hs (by repeat (first | with_reducible exact Rng.blk | with_reducible exact Rng.rng | with_reducible apply Rng.tl)) (by kernel_rfl) rfl ?_)
    repeat with_reducible refine mv.mk ?_
    exact hk _ (hs.sbl (by repeat (first | with_reducible exact Sbl.all | with_reducible exact Sbl.nil | refine Sbl.cons (by first | ((repeat (first | with_reducible exact Has.hd | with_reducible apply Has.tl)); done) | (repeat (first | exact Has.hd | with_reducible apply Has.tl))) ?_ | refine Sbl.drop ?_)))
end
end Go.Proofs.YtgagekffmamldaaGreatDoor
