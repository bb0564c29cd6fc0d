/- files: plain laws. -/
import Derived.Test.YtiaiglgfangedaaFQ
set_option linter.unusedVariables false
set_option linter.unusedSimpArgs false
set_option linter.unusedSectionVars false
namespace Go.Proofs.Ytiaiglgfangedaa
open Go Go.Isk Go.RowKit
set_option maxRecDepth 20000
structure OkS (z : FsD) : Prop where
  m : okM z.m
  n : z.m.length ≤ 64
theorem okS_new : OkS newF := ⟨fun _ h => (by cases h), by decide⟩
theorem named_len {n : Bytes} (h : namedF n = true) : n.length ≤ 64 := by
  simp only [namedF, Bool.and_eq_true, decide_eq_true_eq] at h
  exact h.2.1
theorem ready_named {z : FsD} {ns : List Bytes} (h : readyE z ns = 0) : ∀ n ∈ ns, namedF n = true := by
  unfold readyE at h
  split at h
  · cases h
  · rename_i h1
    intro n hn
    cases hq : namedF n with
    | true => rfl
    | false => exact absurd (List.any_eq_true.2 ⟨n, hn, by simp [hq]⟩) h1
theorem stepF_ok {z : FsD} (h : OkS z) : OkS (stepF z).1 := ⟨by rw [stepF_m]; exact h.m, by rw [stepF_m]; exact h.n⟩
theorem putM_le {α : Type} {k : Bytes} {v : α} {m : AMap α} (h : ¬ (lookM k m = none ∧ 64 ≤ m.length)) (hn : m.length ≤ 64) : (putM k v m).length ≤ 64 := by
  rw [putM_len]
  split
  · exact hn
  · rename_i h1
    have : lookM k m = none := by simpa using h1
    have h2 : ¬ 64 ≤ m.length := fun h2 => h ⟨this, h2⟩
    omega
theorem appendF_ok {z : FsD} (h : OkS z) (name bts : Bytes) : OkS (appendF z name bts).1 := by
  unfold appendF
  split
  · exact h
  · rename_i h1
    split
    · exact h
    · rename_i h2
      split
      · exact h
      · rename_i h3
        have hn := named_len (ready_named (z := z) (by simpa using h1) name (by simp))
        obtain ⟨o1, o2, o3⟩ := h.m.get name
        exact stepF_ok ⟨h.m.put hn ⟨o1, by simp; omega, by simp; omega⟩, putM_le h2 h.n⟩
theorem find_look {z : FsD} {name : Bytes} (h : findE z name = 0) : ∃ x, lookM name z.m = some x ∧ findF z name = x ∧ namedF name = true := by
  unfold findF
  rw [if_neg (by simpa using h)]
  unfold findE at h
  split at h
  · rename_i h1; exact absurd h h1
  · rename_i h1
    split at h
    · cases h
    · rename_i h2
      cases hq : lookM name z.m with
      | none => simp [hq] at h2
      | some x => exact ⟨x, rfl, rfl, ready_named (z := z) (by simpa using h1) name (by simp)⟩
theorem findF_ok {z : FsD} (h : OkS z) (name : Bytes) : okF (findF z name) := by
  unfold findF
  split
  · exact ⟨by simp, by simp, by simp⟩
  · exact h.m.get name
theorem changeF_ok {z : FsD} (h : OkS z) (name : Bytes) (dof : FsD → FileD → FsD) (hd : ∀ z x, OkS z → lookM name z.m = some x → namedF name = true → okF x → OkS (dof z x)) : OkS (changeF z name dof).1 := by
  unfold changeF
  split
  · exact h
  · rename_i h1
    split
    · exact stepF_ok h
    · obtain ⟨x, e1, e2, e3⟩ := find_look (by simpa using h1)
      refine hd _ _ (stepF_ok h) (by rw [stepF_m, e1, e2]) e3 (findF_ok h name)
theorem syncF_ok {z : FsD} (h : OkS z) (name : Bytes) : OkS (syncF z name).1 :=
  changeF_ok h name _ fun z x hz hx hn ho => ⟨hz.m.put (named_len hn) ⟨by simp, by simp, ho.2.2⟩, by
    refine putM_le (fun h => ?_) hz.n
    rw [hx] at h; cases h.1⟩
theorem appendF_look {z : FsD} {name bts n' : Bytes} {x : FileD} (hx : lookM n' z.m = some x) : lookM n' (appendF z name bts).1.m = some x ∨ (n' = name ∧ lookM n' (appendF z name bts).1.m = some (x.1 ++ bts, x.2)) := by
  unfold appendF
  split
  · exact .inl hx
  · split
    · exact .inl hx
    · split
      · exact .inl hx
      · rw [stepF_m, lookM_putM]
        split
        · rename_i e
          subst e
          right
          rw [hx]
          exact ⟨rfl, rfl⟩
        · exact .inl hx
/-- what is left of a file behind a start -/
theorem startL_look {n0 : Bytes} : ∀ {ns : List Bytes} {m : AMap FileD} {keep : List Int} {x : FileD}, lookM n0 m = some x → okF x → (n0 ∈ ns ∨ (x.1.length : Int) - x.2 = 0) →
    ∃ n : Nat, n ≤ x.1.length ∧ x.2 ≤ n ∧ lookM n0 (startL ns m keep) = some (x.1.take n, (n : Int))
  | [], m, keep, x, hx, ho, h => by
    have h0 := h.resolve_left (by simp)
    refine ⟨x.1.length, Nat.le_refl _, by omega, ?_⟩
    rw [startL, hx, List.take_length, show (x.1.length : Int) = x.2 by omega]
  | n :: ns, m, keep, x, hx, ho, h => by
    unfold startL
    split
    · rename_i h1
      refine startL_look hx ho ?_
      rcases h with h | h
      · rcases List.mem_cons.1 h with rfl | h
        · rw [hx] at h1; exact .inr h1
        · exact .inl h
      · exact .inr h
    · rename_i h1
      by_cases e : n = n0
      · subst e
        rw [hx] at h1 ⊢
        simp only [Option.getD_some] at h1 ⊢
        obtain ⟨k, hc, hk, hk2⟩ := cutF_nat ho keep
        obtain ⟨n, h2, h3, h4⟩ := startL_look (ns := ns) (keep := (cutF x keep).2) (m := putM n (cutF x keep).1 m) (x := (cutF x keep).1) (by rw [lookM_putM, if_pos rfl]) (cutF_ok ho keep) (.inr (by rw [hc]; simp; omega))
        rw [hc] at h2 h3
        simp only [List.length_take] at h2 h3
        obtain rfl : n = k := by omega
        refine ⟨n, by omega, by omega, ?_⟩
        rw [h4, hc, List.take_take, Nat.min_self]
      · refine startL_look (by rw [lookM_putM, if_neg e]; exact hx) ho ?_
        rcases h with h | h
        · rcases List.mem_cons.1 h with rfl | h
          · exact absurd rfl e
          · exact .inl h
        · exact .inr h
theorem startF_look {z : FsD} {n0 : Bytes} {keep : List Int} {x : FileD} (h : OkS z) (hx : lookM n0 z.m = some x) :
    ∃ n : Nat, n ≤ x.1.length ∧ x.2 ≤ n ∧ lookM n0 (startF z keep).m = some (x.1.take n, (n : Int)) :=
  startL_look hx (by have := h.m.get n0; rw [hx] at this; exact this) (.inl (by
    rw [sortM, List.mem_mergeSort]
    exact List.mem_map.2 ⟨_, lookM_mem hx, rfl⟩))
/-! ### FilesSafe -/
def logN : Bytes := [108, 111, 103]
def zN : Bytes := [122]
def fN : Bytes := [102]
def rep : Nat → Bytes → Bytes
  | 0, _ => []
  | n + 1, b => rep n b ++ b
theorem rep_len (b : Bytes) : ∀ n, (rep n b).length = n * b.length
  | 0 => by simp [rep]
  | n + 1 => by rw [rep, List.length_append, rep_len b n, Nat.add_mul]; omega
theorem rep_split (b : Bytes) : ∀ n m, n ≤ m → ∃ r, rep m b = rep n b ++ r
  | n, 0, h => ⟨[], by rw [Nat.le_zero.1 h]; rfl⟩
  | n, m + 1, h => by
    by_cases e : n = m + 1
    · exact ⟨[], by rw [e]; simp⟩
    · obtain ⟨r, hr⟩ := rep_split b n m (by omega)
      exact ⟨r ++ b, by rw [rep, hr, List.append_assoc]⟩
def s0 (a : Bytes) : FsD := ⟨[(logN, (a, 0))], 1, false, -1, false⟩
def s1 (a : Bytes) : FsD := ⟨[(logN, (a, (a.length : Int)))], 2, false, -2, false⟩
def s2 (a : Bytes) (k : Int) : FsD := ⟨[(logN, (a, (a.length : Int)))], 2, true, k, false⟩
theorem law0 {a : Bytes} (ha : a.length ≤ 1048576) : appendF newF logN a = (s0 a, 0) := by
  have h1 : readyE newF [logN] = 0 := by decide
  have h2 : lookM logN newF.m = none := by decide
  unfold appendF
  rw [if_neg (by simp [h1]), if_neg (by simp [newF]), if_neg (by rw [h2]; simp; omega), h2]
  simp [newF, putM, stepF, s0, IntKind.wrap]
  decide
theorem law1 (a : Bytes) : syncF (s0 a) logN = (s1 a, 0) := by
  have h1 : findE (s0 a) logN = 0 := rfl
  have h2 : findF (s0 a) logN = (a, 0) := rfl
  unfold syncF changeF
  rw [if_neg (by simp [h1]), h2]
  rfl
theorem law2 (a : Bytes) {k : Int} (hk : 0 ≤ k) : armF (s1 a) k = (s2 a k, 0) := by
  unfold armF
  rw [if_neg (by omega)]
  rfl
/-- in the loop -/
def LoopS (a b : Bytes) (j : Nat) (z : FsD) : Prop := OkS z ∧ ∃ i ≤ j, lookM logN z.m = some (a ++ rep i b, (a.length : Int))
theorem loop0 {a b : Bytes} {k : Int} (ha : a.length ≤ 1048576) : LoopS a b 0 (s2 a k) := by
  refine ⟨⟨fun p hp => ?_, by simp [s2]⟩, 0, Nat.le_refl _, by simp [s2, lookM, rep]⟩
  simp only [s2, List.mem_cons, List.not_mem_nil, or_false] at hp
  subst hp
  exact ⟨by show logN.length ≤ 64; decide, by simp, by simp, by show a.length ≤ _; omega⟩
theorem loop1 {a b : Bytes} {j : Nat} {z : FsD} (h : LoopS a b j z) : LoopS a b (j + 1) (appendF z logN b).1 := by
  obtain ⟨h1, i, hi, h2⟩ := h
  refine ⟨appendF_ok h1 _ _, ?_⟩
  rcases appendF_look (name := logN) (bts := b) h2 with h3 | ⟨_, h3⟩
  · exact ⟨i, by omega, h3⟩
  · exact ⟨i + 1, by omega, by rw [h3, rep, List.append_assoc]⟩
theorem loop2 {a b : Bytes} {j : Nat} {z : FsD} (h : LoopS a b j z) : LoopS a b j (appendF z zN b).1 := by
  obtain ⟨h1, i, hi, h2⟩ := h
  refine ⟨appendF_ok h1 _ _, ?_⟩
  rcases appendF_look (name := zN) (bts := b) h2 with h3 | ⟨e, _⟩
  · exact ⟨i, by omega, h3⟩
  · exact absurd e (by decide)
/-- behind the start -/
theorem law3 {a b : Bytes} {z : FsD} (h : LoopS a b 3 z) (keep : List Int) : ∃ n : Nat, a.length ≤ n ∧ n ≤ (a ++ rep 3 b).length ∧ findE (startF z keep) logN = 0 ∧ findF (startF z keep) logN = ((a ++ rep 3 b).take n, (n : Int)) := by
  obtain ⟨h1, i, hi, h2⟩ := h
  obtain ⟨n, h3, h4, h5⟩ := startF_look (keep := keep) h1 h2
  have hr : readyE (startF z keep) [logN] = 0 := by
    unfold readyE
    rw [if_neg (by decide), if_neg (by simp [startF])]
  have hE : findE (startF z keep) logN = 0 := by rw [findE, if_neg (by simp [hr]), if_neg (by simp [h5])]
  obtain ⟨r, hr3⟩ := rep_split b i 3 hi
  simp only [List.length_append] at h3 h4
  have hl : (rep 3 b).length = (rep i b).length + r.length := by rw [hr3, List.length_append]
  refine ⟨n, by simpa using h4, by simp only [List.length_append]; omega, hE, ?_⟩
  rw [findF, if_neg (by simp [hE]), h5]
  simp only [Option.getD_some, Prod.mk.injEq, and_true]
  rw [hr3, ← List.append_assoc]
  exact (List.take_append_of_le_length (by simp only [List.length_append]; omega)).symm
/-! ### what is there ahead -/
theorem sure_law : ∃ z1 z2 z3 : FsD, appendF newF fN [97, 98, 99] = (z1, 0) ∧ syncF z1 fN = (z2, 0) ∧ appendF z2 fN [100, 101, 102] = (z3, 0) ∧ OkS z1 ∧ OkS z2 ∧ OkS z3 ∧ findE (startF z3 [1]) fN = 0 ∧ findF (startF z3 [1]) fN = ([97, 98, 99, 100], 4) := by
  refine ⟨⟨[(fN, ([97, 98, 99], 0))], 1, false, -1, false⟩, ⟨[(fN, ([97, 98, 99], 3))], 2, false, -2, false⟩, ⟨[(fN, ([97, 98, 99, 100, 101, 102], 3))], 3, false, -3, false⟩, rfl, rfl, rfl, ?_, ?_, ?_, ?_, ?_⟩
  · have := appendF_ok okS_new fN [97, 98, 99]; exact this
  · have := syncF_ok (appendF_ok okS_new fN [97, 98, 99]) fN; exact this
  · have := appendF_ok (syncF_ok (appendF_ok okS_new fN [97, 98, 99]) fN) fN [100, 101, 102]; exact this
  · simp only [startF, sortM, List.map_cons, List.map_nil, List.mergeSort_singleton]; rfl
  · simp only [startF, sortM, List.map_cons, List.map_nil, List.mergeSort_singleton]; rfl
end Go.Proofs.Ytiaiglgfangedaa
