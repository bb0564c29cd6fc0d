/- files: plain laws. -/
import Derived.Test.YtiaiglgfangedaaDoorFQ
set_option linter.unusedVariables false
set_option linter.unusedSimpArgs false
set_option linter.unusedSectionVars false
namespace Go.Proofs.YtiaiglgfangedaaDoor
open Go Go.Isk Go.RowKit
set_option maxRecDepth 20000
structure OkS (z : FsD) : Prop where
  m : okM z.m
  n : z.m.length ≤ 64
theorem okS_new : OkS newF := ⟨fun _ h => (by cases h), by decide⟩
theorem named_len {n : Bytes} (h : namedF n = true) : n.length ≤ 64 := by
  simp only [namedF, Bool.and_eq_true, decide_eq_true_eq] at h
  exact h.2.1
theorem ready_named {z : FsD} {ns : List Bytes} (h : readyE z ns = 0) : ∀ n ∈ ns, namedF n = true := by
  unfold readyE at h
  split at h
  · cases h
  · rename_i h1
    intro n hn
    cases hq : namedF n with
    | true => rfl
    | false => exact absurd (List.any_eq_true.2 ⟨n, hn, by simp [hq]⟩) h1
theorem stepF_ok {z : FsD} (h : OkS z) : OkS (stepF z).1 := ⟨by rw [stepF_m]; exact h.m, by rw [stepF_m]; exact h.n⟩
theorem putM_le {α : Type} {k : Bytes} {v : α} {m : AMap α} (h : ¬ (lookM k m = none ∧ 64 ≤ m.length)) (hn : m.length ≤ 64) : (putM k v m).length ≤ 64 := by
  rw [putM_len]
  split
  · exact hn
  · rename_i h1
    have : lookM k m = none := by simpa using h1
    have h2 : ¬ 64 ≤ m.length := fun h2 => h ⟨this, h2⟩
    omega
theorem appendF_ok {z : FsD} (h : OkS z) (name bts : Bytes) : OkS (appendF z name bts).1 := by
  unfold appendF
  split
  · exact h
  · rename_i h1
    split
    · exact h
    · rename_i h2
      split
      · exact h
      · rename_i h3
        have hn := named_len (ready_named (z := z) (by simpa using h1) name (by simp))
        obtain ⟨o1, o2, o3⟩ := h.m.get name
        exact stepF_ok ⟨h.m.put hn ⟨o1, by simp; omega, by simp; omega⟩, putM_le h2 h.n⟩
theorem find_look {z : FsD} {name : Bytes} (h : findE z name = 0) : ∃ x, lookM name z.m = some x ∧ findF z name = x ∧ namedF name = true := by
  unfold findF
  rw [if_neg (by simpa using h)]
  unfold findE at h
  split at h
  · rename_i h1; exact absurd h h1
  · rename_i h1
    split at h
    · cases h
    · rename_i h2
      cases hq : lookM name z.m with
      | none => simp [hq] at h2
      | some x => exact ⟨x, rfl, rfl, ready_named (z := z) (by simpa using h1) name (by simp)⟩
theorem findF_ok {z : FsD} (h : OkS z) (name : Bytes) : okF (findF z name) := by
  unfold findF
  split
  · exact ⟨by simp, by simp, by simp⟩
  · exact h.m.get name
theorem changeF_ok {z : FsD} (h : OkS z) (name : Bytes) (dof : FsD → FileD → FsD) (hd : ∀ z x, OkS z → lookM name z.m = some x → namedF name = true → okF x → OkS (dof z x)) : OkS (changeF z name dof).1 := by
  unfold changeF
  split
  · exact h
  · rename_i h1
    split
    · exact stepF_ok h
    · obtain ⟨x, e1, e2, e3⟩ := find_look (by simpa using h1)
      refine hd _ _ (stepF_ok h) (by rw [stepF_m, e1, e2]) e3 (findF_ok h name)
theorem syncF_ok {z : FsD} (h : OkS z) (name : Bytes) : OkS (syncF z name).1 :=
  changeF_ok h name _ fun z x hz hx hn ho => ⟨hz.m.put (named_len hn) ⟨by simp, by simp, ho.2.2⟩, by
    refine putM_le (fun h => ?_) hz.n
    rw [hx] at h; cases h.1⟩
theorem startL_ok : ∀ {ns : List Bytes} {m : AMap FileD} {keep : List Int}, (∀ n ∈ ns, n.length ≤ 64) → okM m → m.length ≤ 64 → okM (startL ns m keep) ∧ (startL ns m keep).length ≤ 64
  | [], _, _, _, hm, hl => ⟨hm, hl⟩
  | n :: ns, m, keep, hn, hm, hl => by
    unfold startL
    split
    · exact startL_ok (fun x hx => hn x (by simp [hx])) hm hl
    · rename_i h1
      refine startL_ok (fun x hx => hn x (by simp [hx])) (hm.put (hn n (by simp)) (cutF_ok (hm.get n) keep)) (putM_le (fun h => h1 ?_) hl)
      rw [h.1]; rfl
theorem startF_ok {z : FsD} (h : OkS z) (keep : List Int) : OkS (startF z keep) := by
  have := startL_ok (ns := sortM z.m) (keep := keep) (fun n hn => by
    obtain ⟨p, hp, rfl⟩ := sortM_mem hn
    exact (h.m p hp).1) h.m h.n
  exact ⟨this.1, this.2⟩
/-! ### FilesSafe -/
def logN : Bytes := [108, 111, 103]
def zN : Bytes := [122]
def fN : Bytes := [102]
def rep : Nat → Bytes → Bytes
  | 0, _ => []
  | n + 1, b => rep n b ++ b
def s0 (a : Bytes) : FsD := ⟨[(logN, (a, 0))], 1, false, -1, false⟩
def s1 (a : Bytes) : FsD := ⟨[(logN, (a, (a.length : Int)))], 2, false, -2, false⟩
def s2 (a : Bytes) (k : Int) : FsD := ⟨[(logN, (a, (a.length : Int)))], 2, true, k, false⟩
/-- in the loop -/
def LoopS (a b : Bytes) (j : Nat) (z : FsD) : Prop := OkS z ∧ ∃ i ≤ j, lookM logN z.m = some (a ++ rep i b, (a.length : Int))
/-! ### what is there ahead -/
theorem sure_law : ∃ z1 z2 z3 : FsD, appendF newF fN [97, 98, 99] = (z1, 0) ∧ syncF z1 fN = (z2, 0) ∧ appendF z2 fN [100, 101, 102] = (z3, 0) ∧ OkS z1 ∧ OkS z2 ∧ OkS z3 ∧ findE (startF z3 [1]) fN = 0 ∧ findF (startF z3 [1]) fN = ([97, 98, 99, 100], 4) := by
  refine ⟨⟨[(fN, ([97, 98, 99], 0))], 1, false, -1, false⟩, ⟨[(fN, ([97, 98, 99], 3))], 2, false, -2, false⟩, ⟨[(fN, ([97, 98, 99, 100, 101, 102], 3))], 3, false, -3, false⟩, rfl, rfl, rfl, ?_, ?_, ?_, ?_, ?_⟩
  · have := appendF_ok okS_new fN [97, 98, 99]; exact this
  · have := syncF_ok (appendF_ok okS_new fN [97, 98, 99]) fN; exact this
  · have := appendF_ok (syncF_ok (appendF_ok okS_new fN [97, 98, 99]) fN) fN [100, 101, 102]; exact this
  · simp only [startF, sortM, List.map_cons, List.map_nil, List.mergeSort_singleton]; rfl
  · simp only [startF, sortM, List.map_cons, List.map_nil, List.mergeSort_singleton]; rfl
end Go.Proofs.YtiaiglgfangedaaDoor
