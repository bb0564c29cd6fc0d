/- Go's generic functions on slices. -/
import Derived.Test.YtgagekffmamldaaGreatDoorKT
set_option linter.unusedVariables false
set_option linter.unusedSimpArgs false
set_option linter.unusedSectionVars false
namespace Go.Isk
open Go Go.RowKit
section
variable {P : Program} {b : Base} {w : World} {L R : List It} {k : Value → World → Prop} {v f sv : Value} {n sz : Nat} {α : Type} {F : Fam α} {ls : List α} {p : α → Bool}
def idxOf (p : α → Bool) (ls : List α) : Int := match ls.findIdx? p with
  | some i => i
  | none => -1
theorem idxOf_at {i : Nat} (hi : i < ls.length) (h : ∀ j (h : j < i), p (ls[j]'(by omega)) = false) (hp : p ls[i] = true) : idxOf p ls = i := by
  unfold idxOf
  have : ls.findIdx? p = some i := by
    rw [List.findIdx?_eq_some_iff_getElem]
    exact ⟨hi, hp, fun j hj => by simp [h j hj]⟩
  rw [this]
theorem idxOf_no (h : ∀ j (h : j < ls.length), p ls[j] = false) : idxOf p ls = -1 := by
  unfold idxOf
  have : ls.findIdx? p = none := by
    rw [List.findIdx?_eq_none_iff]
    intro x hx
    obtain ⟨j, hj, rfl⟩ := List.mem_iff_getElem.1 hx
    simp [h j hj]
  rw [this]
theorem idxOf_any : decide (0 ≤ idxOf p ls) = ls.any p := by
  by_cases h : ∃ x ∈ ls, p x = true
  · rw [List.any_eq_true.2 h]
    unfold idxOf
    cases hx : ls.findIdx? p with
    | some i => simp
    | none =>
      rw [List.findIdx?_eq_none_iff] at hx
      obtain ⟨x, h1, h2⟩ := h
      have := hx x h1
      simp_all
  · have : ls.any p = false := by
      rw [Bool.eq_false_iff]
      intro hc
      exact h (List.any_eq_true.1 hc)
    rw [this]
    have : ls.findIdx? p = none := by
      rw [List.findIdx?_eq_none_iff]
      intro x hx
      simp only [Bool.not_eq_true', Bool.eq_false_iff]
      intro hc
      exact h ⟨x, hx, hc⟩
    unfold idxOf
    rw [this]
    decide
/-- slices.IndexFunc, by its body -/
theorem len_run {TS E : Nat} {A : Option Addr} {n c : Nat} {w : World} {t : TypeId} (h : P.underlying TS = some (.slice E)) : (Builtin.len_ #[TS] t #[.slice A n c]).run P w = .ok (.int .i64 n) w := by
  simp [Builtin.len_, run_underlying h, goInt]
def lssT (P : Program) (TI : Nat) : Prop := ∀ (x y : Operand) (a c : Int) (w : World), (bin .lss TI x y (.int .i64 a) (.int .i64 c)).run P w = .ok (.bool (decide (a < c))) w
def addT (P : Program) (TI : Nat) : Prop := ∀ (x y : Operand) (a c : Int) (w : World), (bin .add TI x y (.int .i64 a) (.int .i64 c)).run P w = .ok (.int .i64 (IntKind.i64.wrap (a + c))) w
def IdxBody (P : Program) (TI TS TE : Nat) (k : Value → World → Prop) (a0 a1 : Value) (w : World) : Prop :=
  mv (.int .i64 0) fun t4 =>
  mv a0 fun t6 =>
  o1 P (Builtin.len_ #[TS] TI #[t6]) w fun t7 w =>
  mv (.int .i64 0) fun t8 =>
  lp [t4, undef, t8] w fun I1 μ1 => ∀ (x1 : Env) (w1 : World), I1 [x1 4, x1 5, x1 8] w1 →
  o1 P (bin .lss TI (.tmp 8) (.tmp 7) (x1 8) t7) w1 fun t9 w =>
  br t9 (fun _ =>
  mv (x1 8) fun t10 =>
  mv t10 fun t5 =>
  mv a1 fun t11 =>
  mv a0 fun t12 =>
  mv t5 fun t13 =>
  o1 P (Instr.indexAt TS t12 t13) w fun t14 w =>
  o1 P (Instr.loadAt TE t14) w fun t15 w =>
  cv P t11 #[t15] w fun t16 w =>
  br t16 (fun _ =>
  mv t5 fun t17 =>
  mv t17 fun t4_1 =>
  k t4_1 w) (fun _ =>
  o1 P (bin .add TI (.tmp 8) (.const (.int .i64 1)) (x1 8) (.int .i64 1)) w fun t18 w =>
  mv t18 fun t8_1 =>
  I1 [(x1 4), t5, t8_1] w ∧ μ1 [(x1 4), t5, t8_1] w < μ1 [x1 4, x1 5, x1 8] w1)) (fun _ =>
  mv (.int .i64 (-1)) fun t4_2 =>
  k t4_2 w)
theorem idx_body {TI TS TE by_ : Nat} (hlt : lssT P TI) (had : addT P TI) (hTS : P.underlying TS = some (.slice TE)) (hs : Sep b w L) (hl : Lst F sz L sv ls) (hn : ls.length ≤ 4611686018427387904)
    (hld : ∀ (w : World) (i : Nat) (hi : i < ls.length) (K : Value → World → Prop), Sep b w L → (∀ x w, Sep b w L → (∀ K, (∀ w, Sep b w L → K (.bool (p ls[i])) w) → cv P f #[x] w K) → K x w) → o1 P (Instr.indexAt TS sv (.int .i64 i)) w fun a w => o1 P (Instr.loadAt TE a) w K)
    (hk : ∀ w, Sep b w L → k (.int .i64 (idxOf p ls)) w) : IdxBody P TI TS TE k sv f w := by
  unfold IdxBody
  obtain ⟨A, c, rfl⟩ := hs.lst_len hl
  repeat with_reducible refine mv.mk ?_
  refine st_of (len_run hTS) ?_
  repeat with_reducible refine mv.mk ?_
  refine lp_by (fun vs w' => ∃ (i : Nat) (x y : Value), vs = [x, y, .int .i64 i] ∧ i ≤ ls.length ∧ (∀ j (h : j < i) (h2 : j < ls.length), p ls[j] = false) ∧ Sep b w' L) (fun vs _ => match vs with | [_, _, .int _ m] => ls.length - m.toNat | _ => 0) ⟨0, _, _, rfl, Nat.zero_le _, fun j h => by omega, hs⟩ ?_
  rintro x w ⟨i, y, z, hx, hi, hno, hs⟩
  simp only [List.cons.injEq, and_true] at hx
  rw [hx.2.2]
  refine st_of (hlt _ _ _ _ _) ?_
  refine br_split (fun hb => ?_) (fun hb => ?_)
  · have hi' : i < ls.length := by have := of_decide_eq_true hb; omega
    repeat with_reducible refine mv.mk ?_
    refine hld w i hi' _ hs fun x w hs hcv => ?_
    refine hcv _ fun w hs => ?_
    refine br_split (fun hp => ?_) (fun hp => ?_)
    · repeat with_reducible refine mv.mk ?_
      have := hk w hs
      rw [idxOf_at hi' (fun j hj => hno j hj (by omega)) hp] at this
      exact this
    · refine st_of (had _ _ _ _ _) ?_
      rw [i64_succ (by omega)]
      refine mv.mk ⟨⟨i + 1, _, _, rfl, hi', fun j hj h2 => ?_, hs⟩, by simp; omega⟩
      rcases Nat.lt_or_ge j i with h | h
      · exact hno j h h2
      · have : j = i := by omega
        subst this; exact hp
  · have hi' : ¬ i < ls.length := by have := of_decide_eq_false hb; omega
    repeat with_reducible refine mv.mk ?_
    have := hk w hs
    rw [idxOf_no fun j hj => hno j (by omega) hj] at this
    exact this
theorem idx_agg {TI TS TE by_ : Nat} (hlt : lssT P TI) (had : addT P TI) (hT : slT P TS TE sz by_ = true) (ht : aggT P TE sz = true) (hs : Sep b w L) (hl : Lst F sz L sv ls) (hn : ls.length ≤ 4611686018427387904)
    (hp : ∀ (w : World) (i : Nat) (hi : i < ls.length) (xs : List Value) (K : Value → World → Prop), xs.length = sz → Sep b w ((F xs ls[i]).it :: L) → (∀ w, Sep b w L → K (.bool (p ls[i])) w) → cv P f #[.agg xs.toArray] w K)
    (hk : ∀ w, Sep b w L → k (.int .i64 (idxOf p ls)) w) : IdxBody P TI TS TE k sv f w :=
  idx_body (by_ := by_) hlt had (slT.spec hT).1 hs hl hn (fun w i hi K hs hK => sp_eln hs hl hT ht i rfl hi fun x hx hs' => hK _ _ hs fun K hK => hp w i hi x K hx hs' hK) hk
end
end Go.Isk
