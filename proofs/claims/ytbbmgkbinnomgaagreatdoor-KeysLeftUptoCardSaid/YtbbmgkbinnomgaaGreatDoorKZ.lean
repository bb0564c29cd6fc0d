/- Regions of open order: S is asked behind each operation while one is left. -/
import Derived.Test.YtbbmgkbinnomgaaGreatDoorK1
set_option linter.unusedVariables false
set_option linter.unusedSimpArgs false
set_option linter.unusedSectionVars false
namespace Go.Isk
open Go
section
variable {P : Program} {ops : Array Oper} {Q : Exit → Act → World → Prop} {S : World → Prop}
/-- all is done but what comes late -/
def allUp (T : List Nat) (l : Array Bool) : Prop := ∀ k, memN k T = false → l.getD k true = true
def wpZ (P : Program) (ops : Array Oper) (Q : Exit → Act → World → Prop) (S : World → Prop) (b : Bool) (T : List Nat) : Nat → Array Bool → Act → World → Prop
  | 0, l, a, w => Region.ready .any ops l = [] ∧ Q .normal a w
  | f + 1, l, a, w => (Region.ready .any ops l = [] → Q .normal a w) ∧
    ∀ i ∈ Region.ready .any ops l, wpOp P ops Q i (fun a' w' => ((b = true ∧ allUp T (l.setIfInBounds i true)) ∨ S w') ∧ wpZ P ops Q S b T f (l.setIfInBounds i true) a' w') a w
theorem wpZ_any {b : Bool} {T : List Nat} : ∀ (f : Nat) (l : Array Bool) (a : Act) (w : World), wpZ P ops Q S b T f l a w → wpAny P .any ops Q f l a w
  | 0, _, _, _, h => h
  | f + 1, _, _, _, h => ⟨h.1, fun i hi => wpOp_mono (fun a' w' h' => wpZ_any f _ a' w' h'.2) (h.2 i hi)⟩
def waitsB (ops : Array Oper) (m k : Nat) : Bool := match ops[m]? with | some o => o.after.any fun e => Region.binds .any e && Nat.beq e.on k | none => false
/-- each operation but z and T is waited for by another of these -/
def chainB (ops : Array Oper) (z : Nat) (T : List Nat) : Bool :=
  (List.range ops.size).all fun k => Nat.beq k z || memN k T || (List.range ops.size).any fun m => !(Nat.beq m k) && !(memN m T) && waitsB ops m k
def Closed (ops : Array Oper) (l : Array Bool) : Prop := ∀ m o, ops[m]? = some o → l.getD m false = true → ∀ e ∈ o.after, Region.binds .any e = true → l.getD e.on false = true
theorem waits_spec {m k : Nat} (h : waitsB ops m k = true) : ∃ o e, ops[m]? = some o ∧ e ∈ o.after ∧ Region.binds .any e = true ∧ e.on = k := by
  unfold waitsB at h
  split at h
  · rename_i o ho
    have hm' : ∃ (i : Nat) (h : i < o.after.size), Region.binds .any o.after[i] = true ∧ o.after[i].on = k := by simpa using h
    obtain ⟨i, hi, hb, hk⟩ := hm'
    exact ⟨o, o.after[i], ho, Array.getElem_mem _, hb, hk⟩
  · cases h
theorem chain_spec {z : Nat} {T : List Nat} (h : chainB ops z T = true) {k : Nat} (hk : k < ops.size) (hz : k ≠ z) (hT : memN k T = false) : ∃ m o e, ops[m]? = some o ∧ m ≠ k ∧ memN m T = false ∧ e ∈ o.after ∧ Region.binds .any e = true ∧ e.on = k := by
  unfold chainB at h
  have h1 := List.all_eq_true.1 h k (List.mem_range.2 hk)
  simp only [Bool.or_eq_true] at h1
  rcases h1 with (h1 | h1) | h1
  · exact absurd (Nat.eq_of_beq_eq_true h1) hz
  · rw [hT] at h1; cases h1
  · obtain ⟨m, _, hm⟩ := List.any_eq_true.1 h1
    simp only [Bool.and_eq_true, Bool.not_eq_true'] at hm
    obtain ⟨⟨hne, hmT⟩, hm⟩ := hm
    obtain ⟨o, e, h1, h2, h3, h4⟩ := waits_spec hm
    exact ⟨m, o, e, h1, (by rintro rfl; rw [Nat.beq_refl] at hne; cases hne), hmT, h2, h3, h4⟩
theorem getD_false {l : Array Bool} {i : Nat} (h : i < l.size) (b : Bool) : l.getD i b = l.getD i (!b) := by simp [h]
/-- where all but i and j are up, and both may come up, and something waits for i: they are one -/
theorem chain_two {z i j : Nat} {T : List Nat} {l : Array Bool} (hz : chainB ops z T = true) (hs : l.size = ops.size) (hc : Closed ops l) (hi : i ∈ Region.ready .any ops l) (hj : j ∈ Region.ready .any ops l) (hij : j ≠ i) (hiz : i ≠ z) (hiT : memN i T = false)
    (hall : allUp T ((l.setIfInBounds i true).setIfInBounds j true)) : False := by
  obtain ⟨x0, ox, hox, xall⟩ := mem_ready.1 hi
  obtain ⟨y0, oy, hoy, yall⟩ := mem_ready.1 hj
  have hlt : i < ops.size := (Array.getElem?_eq_some_iff.1 hox).1
  obtain ⟨m, o, e, hm, hne, hmT, he, hb, hk⟩ := chain_spec hz hlt hiz hiT
  have hx1 : l.getD i false = false := by rw [getD_false (by omega)]; exact x0
  have hmlt : m < ops.size := (Array.getElem?_eq_some_iff.1 hm).1
  by_cases hmy : m = j
  · subst hmy
    rw [hoy] at hm
    cases hm
    have := yall e he hb
    rw [hk, hx1] at this
    cases this
  · have hmu := hall m hmT
    rw [getD_set_ne true (Ne.symm hmy), getD_set_ne true (Ne.symm hne)] at hmu
    have := hc m o hm (by rw [getD_false (by omega)]; exact hmu) e he hb
    rw [hk, hx1] at this
    cases this
theorem Closed.set {l : Array Bool} {i : Nat} (hc : Closed ops l) (hi : i ∈ Region.ready .any ops l) : Closed ops (l.setIfInBounds i true) := by
  intro m o hm hl e he hb
  refine getD_set_true ?_
  by_cases h : m = i
  · subst h
    obtain ⟨_, o', ho', hall⟩ := mem_ready.1 hi
    rw [hm] at ho'
    cases ho'
    exact hall e he hb
  · rw [getD_set_ne false (Ne.symm h)] at hl
    exact hc m o hm hl e he hb
theorem wpZ_take {b : Bool} {T : List Nat} {z i : Nat} {oi : Oper} {v : Value} (hz : b = true → chainB ops z T = true ∧ i ≠ z ∧ memN i T = false) (hi : ops[i]? = some oi) (hs : Region.noSelect ops = true)
    (hQ : ∀ c a w, Q (.panic c) (a.put oi.dst v) w → Q (.panic c) a w) :
    ∀ (f : Nat) (l : Array Bool) (a : Act) (w : World), l.size = ops.size → Closed ops l →
      (∀ j oj, ops[j]? = some oj → j ≠ i → l.getD j true = false → (∀ e ∈ oj.after, Region.binds .any e = true → e.on ≠ i) → oi.apart ops oj = true) →
      i ∈ Region.ready .any ops l → YieldsIf P ops S oi v a → S w → wpZ P ops Q S b T f (l.setIfInBounds i true) (a.put oi.dst v) w → wpZ P ops Q S b T (f + 1) l a w := by
  intro f
  induction f with
  | zero =>
    intro l a w _ _ _ hr hy hS H
    refine ⟨fun h => (by rw [h] at hr; cases hr), fun j hj => ?_⟩
    by_cases hji : j = i
    · subst hji; exact hy.wpOp hi hS ⟨.inr hS, H⟩
    · have := ready_mono hj hji
      rw [H.1] at this
      cases this
  | succ f ih =>
    intro l a w hsz hcl hfree hr hy hS H
    refine ⟨fun h => (by rw [h] at hr; cases hr), fun j hj => ?_⟩
    by_cases hji : j = i
    · subst hji; exact hy.wpOp hi hS ⟨.inr hS, H⟩
    · have hjr := ready_mono hj hji
      have h1 := H.2 j hjr
      obtain ⟨hjun, oj, hoj, hall⟩ := mem_ready.1 hj
      have hi0 := (mem_ready.1 hr).1
      have hilt : i < ops.size := (Array.getElem?_eq_some_iff.1 hi).1
      have hnot : ∀ e ∈ oj.after, Region.binds .any e = true → e.on ≠ i := fun e he hb heq => by
        have h2 := hall e he hb
        rw [heq, getD_false (by omega)] at h2
        rw [show (!false) = true from rfl, hi0] at h2
        cases h2
      have h2 := wpOp_putIf hoj (hfree j oj hoj hji hjun hnot) (fun cs b => Region.noSelect_spec hs i oi cs b hi) (fun cs b => Region.noSelect_spec hs j oj cs b hoj) hQ hy h1
      have hfree' : ∀ k ok, ops[k]? = some ok → k ≠ i → (l.setIfInBounds j true).getD k true = false → (∀ e ∈ ok.after, Region.binds .any e = true → e.on ≠ i) → oi.apart ops ok = true := fun k ok hk hki hun hno => by
        refine hfree k ok hk hki ?_ hno
        by_cases hjk : j = k
        · subst hjk; exact hjun
        · rw [getD_set_ne true hjk] at hun; exact hun
      refine wpOp_mono (fun a' w' h3 => ?_) h2
      obtain ⟨hy3, hS3, H3⟩ := h3
      have hS' : S w' := by
        rcases hS3 with ⟨hb, hup⟩ | hS3
        · exact (chain_two (hz hb).1 hsz hcl hr hj hji (hz hb).2.1 (hz hb).2.2 hup).elim
        · exact hS3
      refine ⟨.inr hS', ih (l.setIfInBounds j true) a' w' (by simp [hsz]) (hcl.set hj) hfree' (ready_mono hr (Ne.symm hji)) hy3 hS' ?_⟩
      rw [Array.setIfInBounds_comm _ _ hji]
      exact H3
theorem getD_set_true' {l : Array Bool} {i k : Nat} (h : l.getD k true = true) : (l.setIfInBounds i true).getD k true = true := by
  by_cases hk : i = k
  · subst hk
    by_cases hlt : i < l.size <;> simp [Array.getD_eq_getD_getElem?, hlt]
  · rw [getD_set_ne true hk]; exact h
theorem allUp.set {T : List Nat} {l : Array Bool} (h : allUp T l) (i : Nat) : allUp T (l.setIfInBounds i true) := fun k hk => getD_set_true' (h k hk)
theorem allUp.unset {T : List Nat} {l : Array Bool} {i j : Nat} (hi : memN i T = true) (h : allUp T ((l.setIfInBounds i true).setIfInBounds j true)) (hij : j ≠ i) : allUp T (l.setIfInBounds j true) := by
  intro k hk
  have hki : i ≠ k := by rintro rfl; rw [hi] at hk; cases hk
  have := h k hk
  rw [← Array.setIfInBounds_comm _ _ hij, getD_set_ne true hki] at this
  exact this
/-- what reads nothing: S is not asked for -/
theorem wpZ_pure {b : Bool} {T : List Nat} {i : Nat} {oi : Oper} {v : Value} (hiT : b = true → memN i T = true) (hi : ops[i]? = some oi) (hs : Region.noSelect ops = true)
    (hQ : ∀ c a w, Q (.panic c) (a.put oi.dst v) w → Q (.panic c) a w) :
    ∀ (f : Nat) (l : Array Bool) (a : Act) (w : World), l.size = ops.size →
      (∀ j oj, ops[j]? = some oj → j ≠ i → l.getD j true = false → (∀ e ∈ oj.after, Region.binds .any e = true → e.on ≠ i) → oi.apart ops oj = true) →
      i ∈ Region.ready .any ops l → YieldsIf P ops (fun _ => True) oi v a → ((b = true ∧ allUp T l) ∨ S w) → wpZ P ops Q S b T f (l.setIfInBounds i true) (a.put oi.dst v) w → wpZ P ops Q S b T (f + 1) l a w := by
  intro f
  induction f with
  | zero =>
    intro l a w _ _ hr hy hS H
    refine ⟨fun h => (by rw [h] at hr; cases hr), fun j hj => ?_⟩
    by_cases hji : j = i
    · subst hji; exact hy.wpOp hi trivial ⟨hS.imp (fun h => ⟨h.1, h.2.set _⟩) id, H⟩
    · have := ready_mono hj hji
      rw [H.1] at this
      cases this
  | succ f ih =>
    intro l a w hsz hfree hr hy hS H
    refine ⟨fun h => (by rw [h] at hr; cases hr), fun j hj => ?_⟩
    by_cases hji : j = i
    · subst hji; exact hy.wpOp hi trivial ⟨hS.imp (fun h => ⟨h.1, h.2.set _⟩) id, H⟩
    · have hjr := ready_mono hj hji
      have h1 := H.2 j hjr
      obtain ⟨hjun, oj, hoj, hall⟩ := mem_ready.1 hj
      have hi0 := (mem_ready.1 hr).1
      have hilt : i < ops.size := (Array.getElem?_eq_some_iff.1 hi).1
      have hnot : ∀ e ∈ oj.after, Region.binds .any e = true → e.on ≠ i := fun e he hb heq => by
        have h2 := hall e he hb
        rw [heq, getD_false (by omega)] at h2
        rw [show (!false) = true from rfl, hi0] at h2
        cases h2
      have h2 := wpOp_putIf hoj (hfree j oj hoj hji hjun hnot) (fun cs b => Region.noSelect_spec hs i oi cs b hi) (fun cs b => Region.noSelect_spec hs j oj cs b hoj) hQ hy h1
      have hfree' : ∀ k ok, ops[k]? = some ok → k ≠ i → (l.setIfInBounds j true).getD k true = false → (∀ e ∈ ok.after, Region.binds .any e = true → e.on ≠ i) → oi.apart ops ok = true := fun k ok hk hki hun hno => by
        refine hfree k ok hk hki ?_ hno
        by_cases hjk : j = k
        · subst hjk; exact hjun
        · rw [getD_set_ne true hjk] at hun; exact hun
      refine wpOp_mono (fun a' w' h3 => ?_) h2
      obtain ⟨hy3, hS3, H3⟩ := h3
      have hS' : (b = true ∧ allUp T (l.setIfInBounds j true)) ∨ S w' := hS3.imp (fun h => ⟨h.1, h.2.unset (hiT h.1) hji⟩) id
      refine ⟨hS', ih (l.setIfInBounds j true) a' w' (by simp [hsz]) hfree' (ready_mono hr (Ne.symm hji)) hy3 hS' ?_⟩
      rw [Array.setIfInBounds_comm _ _ hji]
      exact H3
theorem wpZ_all {b : Bool} {T : List Nat} {rs : List Nat} {f : Nat} {l : Array Bool} {a : Act} {w : World} (hr : Region.ready .any ops l = rs) (hne : rs ≠ [])
    (h : ∀ i ∈ rs, wpOp P ops Q i (fun a' w' => ((b = true ∧ allUp T (l.setIfInBounds i true)) ∨ S w') ∧ wpZ P ops Q S b T f (l.setIfInBounds i true) a' w') a w) : wpZ P ops Q S b T (f + 1) l a w :=
  ⟨fun h0 => absurd (hr ▸ h0) hne, hr ▸ h⟩
theorem wpZ_done {b : Bool} {T : List Nat} {l : Array Bool} {a : Act} {w : World} (hr : Region.ready .any ops l = []) (h : Q .normal a w) : ∀ f, wpZ P ops Q S b T f l a w
  | 0 => ⟨hr, h⟩
  | _ + 1 => ⟨fun _ => h, by rw [hr]; simp⟩
theorem wpZ_mono {S' : World → Prop} {b : Bool} {T : List Nat} (hs : ∀ w, S' w → S w) : ∀ (f : Nat) (l : Array Bool) (a : Act) (w : World), wpZ P ops Q S' b T f l a w → wpZ P ops Q S b T f l a w
  | 0, _, _, _, h => h
  | f + 1, _, _, _, h => ⟨h.1, fun i hi => wpOp_mono (fun a' w' h' => ⟨h'.1.imp id (hs w'), wpZ_mono hs f _ a' w' h'.2⟩) (h.2 i hi)⟩
theorem wp_region_z {b : Bool} {T : List Nat} {id : Nat} {a : Act} {w : World} (hm : P.follows .mixedOrders = true)
    (h : wpZ P ops Q S b T ops.size (Array.replicate ops.size false) a { w with drawn := w.drawn + 1 }) : (Code.region id ops true).wp P Q a w :=
  wp_region_any hm (wpZ_any _ _ _ _ h)
end
end Go.Isk
