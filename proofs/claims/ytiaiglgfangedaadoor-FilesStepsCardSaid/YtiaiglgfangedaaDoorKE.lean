/- Errors, and errors.As at a number of the program's own. -/
import Derived.Test.YtiaiglgfangedaaDoorSL
import Derived.Stop.Asserts
import Derived.LaidEql
set_option linter.unusedVariables false
set_option linter.unusedSimpArgs false
set_option linter.unusedSectionVars false
namespace Go.Isk
open Go Go.RowKit Go.Extern
section
variable {P : Program}
theorem oN_ext {f : Nat} {e : Array Value → Sem Value} {args : Array Value} {w w' : World} {v : Value} {k : Value → World → Prop}
    (hf : ((P.funcs[f]?).map fun fn => (fn.name == "runtime.NumGoroutine", fn.body.isNone, (Extern.findNext fn).isNone, Extern.find fn)) = some (false, true, true, some e))
    (hr : (e args).run P w = .ok v w') (hk : k v w') : oN P (callFunc f args) w k := by
  refine ⟨?_⟩
  obtain ⟨fn, h1, h2⟩ := Option.map_eq_some_iff.1 hf
  simp only [Prod.mk.injEq] at h2
  rw [run_callFunc_extern h1 h2.1 h2.2.1 (by simpa using h2.2.2.1) h2.2.2.2, hr]
  exact hk
theorem iv_ext {f t : Nat} {x r : Value} {name : String} {e : Array Value → Sem Value} {args : Array Value} {w w' : World} {v : Value} {k : Value → World → Prop}
    (hm : (Go.method (P.types.size + Made.depth) t x name).run P w = .ok (f, r) w)
    (hf : ((P.funcs[f]?).map fun fn => (fn.name == "runtime.NumGoroutine", fn.body.isNone, (Extern.findNext fn).isNone, Extern.find fn)) = some (false, true, true, some e))
    (hr : (e (#[r] ++ args)).run P w = .ok v w') (hk : k v w') : iv P (.iface t x) name args w k := by
  refine ⟨?_⟩
  have h := (oN_ext hf hr hk).out
  have e1 : (invoke (.fn (.method name) #[]) (#[Value.iface t x] ++ args)).run P w = (callFunc f (#[r] ++ args)).run P w := by
    simp only [invoke, callMethod]
    simp only [Array.getElem?_append, List.size_toArray, List.length_cons, List.length_nil]
    simp only [Nat.zero_add, Nat.lt_one_iff, if_true, List.getElem?_toArray, List.getElem?_cons_zero]
    have ex : (#[Value.iface t x] ++ args).extract 1 (#[Value.iface t x] ++ args).size = args := by
      apply Array.ext' ; simp
    rw [ex]
    have hp : Sem.run P program w = .ok P w := rfl
    simp only [Sem.run_bind, hp, Result.andThen_ok, hm]
  rw [e1]; exact h
theorem iv_fn {f t : Nat} {x r : Value} {name : String} {args : Array Value} {w : World} {k : Value → World → Prop}
    (hm : (Go.method (P.types.size + Made.depth) t x name).run P w = .ok (f, r) w) (hb : bodied P f = true) (hk : C P f (#[r] ++ args) w k) : iv P (.iface t x) name args w k := by
  refine ⟨?_⟩
  have e1 : (invoke (.fn (.method name) #[]) (#[Value.iface t x] ++ args)).run P w = (callFunc f (#[r] ++ args)).run P w := by
    simp only [invoke, callMethod]
    simp only [Array.getElem?_append, List.size_toArray, List.length_cons, List.length_nil]
    simp only [Nat.zero_add, Nat.lt_one_iff, if_true, List.getElem?_toArray, List.getElem?_cons_zero]
    have ex : (#[Value.iface t x] ++ args).extract 1 (#[Value.iface t x] ++ args).size = args := by
      apply Array.ext' ; simp
    rw [ex]
    have hp : Sem.run P program w = .ok P w := rfl
    simp only [Sem.run_bind, hp, Result.andThen_ok, hm]
  rw [e1, run_bodied hb]; exact hk
def assT (P : Program) (t a : Nat) (has : Bool) : Bool := match P.underlying a, P.info? t, P.info? a with
  | some (.interface want), some i, some j => (lacking want i.methods).isEmpty == has && (match j.zero with | some .nilIface => true | _ => false)
  | _, _, _ => false
theorem ass_lacks {t a xT : Nat} {v : Value} {w : World} (h : assT P t a false = true) : (Instr.typeAssert (.iface t v) xT a true).run P w = .ok (.tuple #[.nilIface, .bool false]) w := by
  unfold assT at h
  split at h
  · rename_i want i j hu hi hj
    simp only [Bool.and_eq_true] at h
    obtain ⟨h1, h2⟩ := h
    split at h2
    · rename_i hz
      exact run_typeAssert_lacks hu hi hj hz (fun e => by rw [e] at h1; cases h1)
    · cases h2
  · cases h
theorem ass_has {t a xT : Nat} {v : Value} {w : World} (h : assT P t a true = true) : (Instr.typeAssert (.iface t v) xT a true).run P w = .ok (.tuple #[.iface t v, .bool true]) w := by
  unfold assT at h
  split at h
  · rename_i want i j hu hi hj
    simp only [Bool.and_eq_true] at h
    obtain ⟨h1, h2⟩ := h
    exact run_typeAssert_has hu hi (List.isEmpty_iff.1 (by simpa using h1))
  · cases h
end
end Go.Isk
namespace Go.Proofs.YtiaiglgfangedaaDoor
open Go Go.Isk Go.RowKit Go.Extern
/-- the handle of a type -/
abbrev hdl (t : Nat) : Value := .pointer (some ⟨NG, t, none⟩)
abbrev rty (t : Nat) : Value := .iface T.reflectlite_rtype (.agg #[hdl t])
abbrev EP : Nat := T.p_api_Errno
abbrev EN : Nat := T.api_Errno
theorem e_valueOf (t : Addr) (w : World) : (ReflectliteValue.unpack (.iface EP (.pointer (some t)))).run Tryd.prog w
    = .ok (.agg #[hdl EP, .pointer (some ⟨w.heap.size, 0, none⟩), .int .u64 150]) (w.alloc (.cells #[.pointer (some t)] EP)) := by kernel_rfl
theorem e_type (a : Addr) (w : World) : (ReflectliteValue.methodAny (ReflectliteValue.valueError "reflectlite.Value.Type" 0) (fun t _ _ _ => ReflectliteType.toType t) #[.agg #[hdl EP, .pointer (some a), .int .u64 150]]).run Tryd.prog w
    = .ok (rty EP) w := by kernel_rfl
theorem e_kindP (w : World) : ((ReflectliteType.abiMethod fun t => (fun a : Nat => Value.int IntKind.u8 (a : Int)) <$> Rtype.kind t) #[hdl EP]).run Tryd.prog w = .ok (.int .u8 22) w := by kernel_rfl
theorem e_kindN (w : World) : ((ReflectliteType.abiMethod fun t => (fun a : Nat => Value.int IntKind.u8 (a : Int)) <$> Rtype.kind t) #[hdl EN]).run Tryd.prog w = .ok (.int .u8 2) w := by kernel_rfl
theorem e_parts (a : Addr) (w : World) : (ReflectliteValue.parts (.agg #[hdl EP, .pointer (some a), .int .u64 150])).run Tryd.prog w = .ok (some (EP, a, 150)) w := by kernel_rfl
theorem e_undP : Tryd.prog.underlying EP = some (.pointer EN) := by kernel_rfl
theorem e_undN : Tryd.prog.underlying EN = some (.int .i64) := by kernel_rfl
theorem e_isNil (a p : Addr) (W : World) (ha : W.cell? a = some (.pointer (some p))) :
    (ReflectliteValue.method (ReflectliteValue.valueError "reflectlite.Value.IsNil" 0) ReflectliteValue.isNil #[.agg #[hdl EP, .pointer (some a), .int .u64 150]]).run Tryd.prog W = .ok (.bool false) W := by
  change (ReflectliteValue.parts (.agg #[hdl EP, .pointer (some a), .int .u64 150]) >>= _).run Tryd.prog W = _
  simp only [Sem.run_bind, e_parts, Result.andThen]
  simp [ReflectliteValue.isNil, loadVar, isAgg, underlying, e_undP, ha, Result.andThen]
theorem e_elemT (w : World) : (ReflectliteType.method ReflectliteType.elem #[.agg #[hdl EP]]).run Tryd.prog w = .ok (rty EN) w := by kernel_rfl
theorem e_implements (w : World) : (ReflectliteType.relation "Implements" ReflectliteType.implements_ #[.agg #[hdl EN], rty T.error]).run Tryd.prog w = .ok (.bool true) w := by kernel_rfl
theorem e_typeOfN (v : Value) (w : World) : (ReflectliteType.typeOf #[.iface EN v]).run Tryd.prog w = .ok (rty EN) w := by kernel_rfl
theorem e_typeOfF (v : Value) (w : World) : (ReflectliteType.typeOf #[.iface T.p_api_Fault v]).run Tryd.prog w = .ok (rty T.p_api_Fault) w := by kernel_rfl
theorem e_assignN (w : World) : (ReflectliteType.relation "AssignableTo" ReflectliteType.assignableTo #[.agg #[hdl EN], rty EN]).run Tryd.prog w = .ok (.bool true) w := by kernel_rfl
theorem e_assignF (w : World) : (ReflectliteType.relation "AssignableTo" ReflectliteType.assignableTo #[.agg #[hdl T.p_api_Fault], rty EN]).run Tryd.prog w = .ok (.bool false) w := by kernel_rfl
theorem e_valueOfN (n : Int) (w : World) : (ReflectliteValue.unpack (.iface EN (.int .i64 n))).run Tryd.prog w
    = .ok (.agg #[hdl EN, .pointer (some ⟨w.heap.size, 0, none⟩), .int .u64 130]) (w.alloc (.cells #[.int .i64 n] EN)) := by kernel_rfl
theorem e_elemOf (w : World) : (Rtype.elem? EP).run Tryd.prog w = .ok (some EN) w := by kernel_rfl
theorem e_mk (p : Addr) (w : World) : (ReflectliteValue.mk EN p ReflectliteValue.flagAddr).run Tryd.prog w = .ok (.agg #[hdl EN, .pointer (some p), .int .u64 386]) w := by kernel_rfl
theorem e_elemV (a p : Addr) (W : World) (ha : W.cell? a = some (.pointer (some p))) :
    (ReflectliteValue.method (ReflectliteValue.valueError "reflectlite.Value.Elem" 0) ReflectliteValue.elem #[.agg #[hdl EP, .pointer (some a), .int .u64 150]]).run Tryd.prog W
      = .ok (.agg #[hdl EN, .pointer (some p), .int .u64 386]) W := by
  change (ReflectliteValue.parts (.agg #[hdl EP, .pointer (some a), .int .u64 150]) >>= _).run Tryd.prog W = _
  simp only [Sem.run_bind, e_parts, Result.andThen]
  simp [ReflectliteValue.elem, loadVar, isAgg, underlying, e_undP, ha, Result.andThen, e_elemOf, e_mk]
theorem e_partsA (a : Addr) (w : World) : (ReflectliteValue.parts (.agg #[hdl EN, .pointer (some a), .int .u64 386])).run Tryd.prog w = .ok (some (EN, a, 386)) w := by kernel_rfl
theorem e_partsN (a : Addr) (w : World) : (ReflectliteValue.parts (.agg #[hdl EN, .pointer (some a), .int .u64 130])).run Tryd.prog w = .ok (some (EN, a, 130)) w := by kernel_rfl
theorem e_direct (w : World) : (Rtype.directlyAssignable EN EN).run Tryd.prog w = .ok true w := by kernel_rfl
/-- (Value).Set: the number at 'ta' gets what the Value's own variable 'b' holds. -/
theorem e_set (ta b : Addr) (n : Int) (old : Value) (W : World) (hb : W.cell? b = some (.int .i64 n)) (ht : W.cell? ta = some old) (hf : W.frozen? ta = false) :
    (ReflectliteValue.set #[.agg #[hdl EN, .pointer (some ta), .int .u64 386], .agg #[hdl EN, .pointer (some b), .int .u64 130]]).run Tryd.prog W
      = .ok (.tuple #[]) (W.setCell ta (.int .i64 n)) := by
  change (ReflectliteValue.parts (.agg #[hdl EN, .pointer (some ta), .int .u64 386]) >>= fun z => ReflectliteValue.parts (.agg #[hdl EN, .pointer (some b), .int .u64 130]) >>= _).run Tryd.prog W = _
  simp only [Sem.run_bind, e_partsA, e_partsN, Result.andThen]
  simp [ReflectliteValue.flagAddr, loadVar, isAgg, underlying, e_undN, hb, Result.andThen, e_direct, storeVar, Value.cells, storeCells, Addr.add]
  rw [run_store Tryd.prog W ta _ _ (by rfl)]
  simp [ht, hf]
def errT : Fact := rngF 0 0 [rty T.error]
/-- an error, d times wrapped, of number n -/
def ErrD (S : Nat → Prop) (w : World) : Nat → Value → Int → Prop
  | 0, v, n => (v = .nilIface ∧ n = 0) ∨ (v = .iface EN (.int .i64 n) ∧ n ≠ 0 ∧ -9223372036854775808 ≤ n ∧ n ≤ 9223372036854775807)
  | d + 1, v, n => ∃ g s v', v = .iface T.p_api_Fault (.pointer (some ⟨g, 0, none⟩)) ∧ n ≠ 0 ∧ (rngF g 0 [str s, v']).holds S w ∧ ErrD S w d v' n
theorem ErrD.keep {S D : Nat → Prop} {w w' : World} : ∀ {d : Nat} {v : Value} {n : Int}, ErrD S w d v n → Upd D w w' → (∀ k, S k → ¬ D k) → ErrD S w' d v n
  | 0, _, _, h, _, _ => h
  | _ + 1, _, _, ⟨g, s, v', e, h0, h1, h2⟩, hu, hd => ⟨g, s, v', e, h0, (rngF g 0 _).keep h1 hu hd, ErrD.keep h2 hu hd⟩
theorem ErrD.mono {S S' : Nat → Prop} {w : World} : ∀ {d : Nat} {v : Value} {n : Int}, ErrD S w d v n → (∀ k, S k → k < w.heap.size → S' k) → ErrD S' w d v n
  | 0, _, _, h, _ => h
  | _ + 1, _, _, ⟨g, s, v', e, h0, h1, h2⟩, hs => ⟨g, s, v', e, h0, (rngF g 0 _).mono h1 hs, ErrD.mono h2 hs⟩
def errF (v : Value) (n : Int) : Fact := ⟨fun S w => ∃ d, ErrD S w d v n, fun ⟨d, h⟩ hu hd => ⟨d, h.keep hu hd⟩, fun ⟨d, h⟩ hs => ⟨d, h.mono hs⟩⟩
def errDF (d : Nat) (v : Value) (n : Int) : Fact := ⟨fun S w => ErrD S w d v n, fun h hu hd => h.keep hu hd, fun h hs => h.mono hs⟩
theorem ErrD.uniq {S : Nat → Prop} {w : World} : ∀ {d d' : Nat} {v : Value} {n n' : Int}, ErrD S w d v n → ErrD S w d' v n' → d = d'
  | 0, 0, _, _, _, _, _ => rfl
  | 0, d' + 1, _, _, _, h, ⟨g, s, v', e, _⟩ => by
    subst e
    rcases h with ⟨h, _⟩ | ⟨h, _⟩
    · cases h
    · cases h
  | d + 1, 0, _, _, _, ⟨g, s, v', e, _⟩, h => by
    subst e
    rcases h with ⟨h, _⟩ | ⟨h, _⟩
    · cases h
    · cases h
  | d + 1, d' + 1, _, _, _, ⟨g, s, v', e, _, h1, h2⟩, ⟨g', s', u', e', _, h1', h2'⟩ => by
    subst e
    cases e'
    have q1 := h1.1 1 v' rfl
    have q2 := h1'.1 1 u' rfl
    rw [q1] at q2
    cases q2
    rw [ErrD.uniq h2 h2']
open Classical in
noncomputable def errDepth (w : World) (v : Value) : Nat := if h : ∃ d n, ErrD (fun _ => True) w d v n then h.choose else 0
theorem errDepth_eq {w : World} {d : Nat} {v : Value} {n : Int} (h : ErrD (fun _ => True) w d v n) : errDepth w v = d := by
  unfold errDepth
  have hx : ∃ d n, ErrD (fun _ => True) w d v n := ⟨d, n, h⟩
  rw [dif_pos hx]
  obtain ⟨n', h'⟩ := hx.choose_spec
  exact h'.uniq h
section
variable {b : Base} {w : World} {L R : List It} {v : Value} {n : Int} {t : Nat}
theorem errF_nil (h : Sep b w L) : Sep b w ((errF .nilIface 0).it :: L) := h.fact ⟨0, .inl ⟨rfl, rfl⟩⟩
end
end Go.Proofs.YtiaiglgfangedaaDoor
