/- The document's files, in plain Lean; and that they answer as the program's. -/
import Derived.Test.YtiaiglgfangedaaDoorFR
set_option linter.unusedVariables false
set_option linter.unusedSimpArgs false
set_option linter.unusedSectionVars false
namespace Go.Proofs.YtiaiglgfangedaaDoor
open Go Go.Isk Go.RowKit
set_option maxRecDepth 20000
structure RFile where
  name : Bytes
  safe : Bytes
  loose : Bytes
structure RFS where
  l : List RFile
  steps : Int
  armed : Bool
  left : Int
  down : Bool
def posR (n : Bytes) : List RFile → Nat
  | [] => 0
  | y :: l => if y.name < n then posR n l + 1 else 0
def isR (n : Bytes) : List RFile → Bool
  | [] => false
  | y :: l => if y.name < n then isR n l else decide (y.name = n)
def atR (n : Bytes) : List RFile → RFile
  | [] => ⟨[], [], []⟩
  | y :: l => if y.name < n then atR n l else y
def setR (x : RFile) : List RFile → List RFile
  | [] => [x]
  | y :: l => if y.name < x.name then y :: setR x l else if y.name = x.name then x :: l else x :: y :: l
def dropR (n : Bytes) : List RFile → List RFile
  | [] => []
  | y :: l => if y.name < n then y :: dropR n l else if y.name = n then l else y :: l
theorem posR_le (n : Bytes) : ∀ l, posR n l ≤ l.length
  | [] => Nat.le_refl _
  | y :: l => by
    unfold posR
    split
    · have := posR_le n l; simp; omega
    · simp
theorem isR_lt {n : Bytes} : ∀ {l}, isR n l = true → posR n l < l.length
  | [], h => by cases h
  | y :: l, h => by
    unfold isR at h; unfold posR
    split
    · rename_i c; rw [if_pos c] at h; have := isR_lt h; simp; omega
    · simp
theorem atR_get {n : Bytes} : ∀ {l} (h : posR n l < l.length), l[posR n l] = atR n l
  | [], h => by cases h
  | y :: l, h => by
    unfold atR
    by_cases c : y.name < n
    · have e : posR n (y :: l) = posR n l + 1 := by rw [posR, if_pos c]
      simp only [e, if_pos c, List.getElem_cons_succ]
      exact atR_get _
    · have e : posR n (y :: l) = 0 := by rw [posR, if_neg c]
      simp only [e, if_neg c, List.getElem_cons_zero]
theorem posR_before {n : Bytes} : ∀ {l} (i : Nat) (h : i < l.length), i < posR n l → (l[i]).name < n
  | [], _, h, _ => by cases h
  | y :: l, i, h, hi => by
    unfold posR at hi
    split at hi
    · rename_i c
      cases i with
      | zero => exact c
      | succ i => exact posR_before (l := l) i (by simpa using h) (by omega)
    · cases hi
theorem posR_at {n : Bytes} : ∀ {l} (h : posR n l < l.length), ¬ (l[posR n l]).name < n ∧ isR n l = decide ((l[posR n l]).name = n)
  | [], h => by cases h
  | y :: l, h => by
    by_cases c : y.name < n
    · have e : posR n (y :: l) = posR n l + 1 := by rw [posR, if_pos c]
      simp only [e, List.getElem_cons_succ, isR, if_pos c]
      exact posR_at _
    · have e : posR n (y :: l) = 0 := by rw [posR, if_neg c]
      simp only [e, List.getElem_cons_zero, isR, if_neg c]
      exact ⟨c, trivial⟩
theorem posR_end {n : Bytes} : ∀ {l}, posR n l = l.length → isR n l = false
  | [], _ => rfl
  | y :: l, h => by
    unfold posR at h; unfold isR
    split at h
    · rename_i c; rw [if_pos c]; exact posR_end (by simpa using h)
    · simp at h
theorem setR_eq (x : RFile) : ∀ l, setR x l = l.take (posR x.name l) ++ [x] ++ l.drop (if isR x.name l = true then posR x.name l + 1 else posR x.name l)
  | [] => rfl
  | y :: l => by
    unfold setR posR isR
    by_cases c : y.name < x.name
    · simp only [if_pos c]
      rw [setR_eq x l]
      split <;> simp
    · simp only [if_neg c]
      by_cases e : y.name = x.name
      · simp [e]
      · simp [e]
theorem dropR_eq (n : Bytes) : ∀ l, dropR n l = if isR n l = true then l.take (posR n l) ++ l.drop (posR n l + 1) else l
  | [] => rfl
  | y :: l => by
    unfold dropR posR isR
    by_cases c : y.name < n
    · simp only [if_pos c]
      rw [dropR_eq n l]
      split <;> simp
    · simp only [if_neg c]
      by_cases e : y.name = n
      · simp [e]
      · simp [e]
def lookR (n : Bytes) : List RFile → Option RFile
  | [] => none
  | y :: l => if y.name = n then some y else lookR n l
abbrev SortR (l : List RFile) : Prop := l.Pairwise fun a b => a.name < b.name
theorem lt_ne {a b : Bytes} (h : a < b) : a ≠ b := fun e => List.lt_irrefl _ (e ▸ h)
theorem lookR_above {n : Bytes} : ∀ {l}, (∀ y ∈ l, n < y.name) → lookR n l = none
  | [], _ => rfl
  | y :: l, h => by
    rw [lookR, if_neg (fun e => lt_ne (h y (by simp)) e.symm)]
    exact lookR_above fun z hz => h z (by simp [hz])
theorem not_lt {a b : Bytes} (h : ¬ a < b) (hn : a ≠ b) : b < a := by
  have h1 : b ≤ a := List.not_lt.1 h
  rcases Classical.em (b < a) with h2 | h2
  · exact h2
  · exact absurd (List.le_antisymm (List.not_lt.1 h2) h1) hn
theorem isR_look {n : Bytes} : ∀ {l}, SortR l → (isR n l = true ↔ (lookR n l).isSome) ∧ (isR n l = true → lookR n l = some (atR n l))
  | [], _ => by simp [isR, lookR]
  | y :: l, h => by
    have h' := List.pairwise_cons.1 h
    have ih := isR_look (n := n) h'.2
    unfold isR lookR atR
    by_cases c : y.name < n
    · rw [if_pos c, if_neg (lt_ne c), if_pos c]
      exact ih
    · rw [if_neg c, if_neg c]
      by_cases e : y.name = n
      · simp [e]
      · rw [if_neg e, lookR_above fun z hz => List.lt_trans (not_lt c e) (h'.1 z hz)]
        simp [e]
theorem lookR_set {x : RFile} {n : Bytes} : ∀ {l}, lookR n (setR x l) = if x.name = n then some x else lookR n l
  | [] => by simp [setR, lookR]
  | y :: l => by
    unfold setR
    by_cases c : y.name < x.name
    · rw [if_pos c, lookR, lookR, lookR_set (l := l)]
      by_cases e : y.name = n
      · subst e
        have : ¬ x.name = y.name := fun e => lt_ne c e.symm
        simp [this]
      · simp [e]
    · rw [if_neg c]
      by_cases e : y.name = x.name
      · rw [if_pos e, lookR, lookR]
        by_cases e2 : x.name = n
        · simp [e2]
        · rw [if_neg e2, if_neg e2, if_neg (fun h => e2 (e ▸ h))]
      · rw [if_neg e, lookR]
theorem setR_mem {x z : RFile} : ∀ {l}, z ∈ setR x l → z = x ∨ z ∈ l
  | [], h => by simpa [setR] using h
  | y :: l, h => by
    unfold setR at h
    split at h
    · rcases List.mem_cons.1 h with h | h
      · exact .inr (by simp [h])
      · rcases setR_mem h with h | h
        · exact .inl h
        · exact .inr (by simp [h])
    · split at h
      · rcases List.mem_cons.1 h with h | h
        · exact .inl h
        · exact .inr (by simp [h])
      · rcases List.mem_cons.1 h with h | h
        · exact .inl h
        · exact .inr h
theorem setR_sort {x : RFile} : ∀ {l}, SortR l → SortR (setR x l)
  | [], _ => by simp [setR]
  | y :: l, h => by
    have h' := List.pairwise_cons.1 h
    unfold setR
    by_cases c : y.name < x.name
    · rw [if_pos c]
      refine List.pairwise_cons.2 ⟨fun z hz => ?_, setR_sort h'.2⟩
      rcases setR_mem hz with rfl | hz
      · exact c
      · exact h'.1 z hz
    · rw [if_neg c]
      by_cases e : y.name = x.name
      · rw [if_pos e]
        exact List.pairwise_cons.2 ⟨fun z hz => e ▸ h'.1 z hz, h'.2⟩
      · rw [if_neg e]
        refine List.pairwise_cons.2 ⟨fun z hz => ?_, h⟩
        rcases List.mem_cons.1 hz with rfl | hz
        · exact not_lt c e
        · exact List.lt_trans (not_lt c e) (h'.1 z hz)
theorem dropR_mem {n : Bytes} {z : RFile} : ∀ {l}, z ∈ dropR n l → z ∈ l
  | [], h => h
  | y :: l, h => by
    unfold dropR at h
    split at h
    · rcases List.mem_cons.1 h with h | h
      · simp [h]
      · simp [dropR_mem h]
    · split at h
      · simp [h]
      · exact h
theorem dropR_sort {n : Bytes} : ∀ {l}, SortR l → SortR (dropR n l)
  | [], _ => List.Pairwise.nil
  | y :: l, h => by
    have h' := List.pairwise_cons.1 h
    unfold dropR
    split
    · exact List.pairwise_cons.2 ⟨fun z hz => h'.1 z (dropR_mem hz), dropR_sort h'.2⟩
    · split
      · exact h'.2
      · exact h
theorem lookR_drop {n n' : Bytes} : ∀ {l}, SortR l → lookR n' (dropR n l) = if n = n' then none else lookR n' l
  | [], _ => by simp [dropR, lookR]
  | y :: l, h => by
    have h' := List.pairwise_cons.1 h
    have ih := lookR_drop (n := n) (n' := n') h'.2
    unfold dropR
    by_cases c : y.name < n
    · rw [if_pos c, lookR, lookR, ih]
      by_cases e : y.name = n'
      · subst e
        have : ¬ n = y.name := fun e => lt_ne c e.symm
        simp [this]
      · simp [e]
    · rw [if_neg c]
      by_cases e : y.name = n
      · rw [if_pos e, lookR]
        by_cases e2 : n = n'
        · rw [if_pos e2, ← e2]
          exact lookR_above fun z hz => e ▸ h'.1 z hz
        · rw [if_neg e2, if_neg (fun h => e2 (e ▸ h))]
      · rw [if_neg e]
        by_cases e2 : n = n'
        · rw [if_pos e2, ← e2, lookR, if_neg e]
          exact lookR_above fun z hz => List.lt_trans (not_lt c e) (h'.1 z hz)
        · rw [if_neg e2]
end Go.Proofs.YtiaiglgfangedaaDoor
set_option linter.unusedVariables false
set_option linter.unusedSimpArgs false
set_option linter.unusedSectionVars false
namespace Go.Proofs.YtiaiglgfangedaaDoor
open Go Go.Isk Go.RowKit
set_option maxRecDepth 20000
/-! ### the program's other changes -/
def delD (name : Bytes) (z : FsD) (_ : FileD) : FsD := { z with m := delM name z.m }
def removeF (z : FsD) (n : Bytes) : FsD × Int := changeF z n (delD n)
def renD (old now : Bytes) (z : FsD) (x : FileD) : FsD := { z with m := putM now x (delM old z.m) }
def renameF (z : FsD) (old now : Bytes) : FsD × Int := if readyE z [old, now] ≠ 0 then (z, readyE z [old, now]) else changeF z old (renD old now)
def cutD (name : Bytes) (k : Int) (z : FsD) (x : FileD) : FsD := { z with m := putM name (x.1.take k.toNat, k) z.m }
def cutZ (z : FsD) (n : Bytes) (k : Int) : FsD × Int :=
  if findE z n ≠ 0 then (z, findE z n) else if k < 0 ∨ ((findF z n).1.length : Int) < k then (z, 1) else changeF z n (cutD n k)
/-! ### the document's -/
def getR (r : RFS) (n : Bytes) : RFile × Int :=
  if namedF n = false then (⟨[], [], []⟩, 1) else if r.down = true then (⟨[], [], []⟩, 13) else if isR n r.l = true then (atR n r.l, 0) else (⟨[], [], []⟩, 8)
def stepR (r : RFS) : RFS × Bool :=
  if r.armed = true ∧ r.left = 0 then ({ r with down := true }, true) else ({ r with left := IntKind.i64.wrap (r.left - 1), steps := IntKind.i64.wrap (r.steps + 1) }, false)
def setF (r : RFS) (x : RFile) : RFS := { r with l := setR x r.l }
def dropF (r : RFS) (n : Bytes) : RFS := { r with l := dropR n r.l }
def appendR (r : RFS) (n b : Bytes) : RFS × Int :=
  if (getR r n).2 = 8 ∧ 64 ≤ r.l.length then (r, 10)
  else if (getR r n).2 ≠ 0 ∧ (getR r n).2 ≠ 8 then (r, (getR r n).2)
  else if 16777216 < (getR r n).1.safe.length + (getR r n).1.loose.length + b.length then (r, 2)
  else ((stepR (setF r ⟨n, (getR r n).1.safe, (getR r n).1.loose ++ b⟩)).1, if (stepR (setF r ⟨n, (getR r n).1.safe, (getR r n).1.loose ++ b⟩)).2 = true then 13 else 0)
def changeR (r : RFS) (kind : Int) (n now : Bytes) (k : Int) : RFS × Int :=
  if kind = 1 ∧ namedF now = false then (r, 1)
  else if (getR r n).2 ≠ 0 then (r, (getR r n).2)
  else if kind = 3 ∧ (k < 0 ∨ (((getR r n).1.safe ++ (getR r n).1.loose).length : Int) < k) then (r, 1)
  else if (stepR r).2 = true then ((stepR r).1, 13)
  else if kind = 0 then (setF (stepR r).1 ⟨n, (getR r n).1.safe ++ (getR r n).1.loose, []⟩, 0)
  else if kind = 1 then (setF (dropF (stepR r).1 n) ⟨now, (getR r n).1.safe, (getR r n).1.loose⟩, 0)
  else if kind = 2 then (dropF (stepR r).1 n, 0)
  else (setF (stepR r).1 ⟨n, ((getR r n).1.safe ++ (getR r n).1.loose).take k.toNat, []⟩, 0)
def armR (r : RFS) (n : Int) : RFS × Int := if n < 0 then (r, 1) else if r.down = true then (r, 13) else ({ r with armed := true, left := n }, 0)
def cutR (x : RFile) : List Int → RFile × List Int
  | [] => (⟨x.name, x.safe, []⟩, [])
  | k :: ks => (⟨x.name, x.safe ++ x.loose.take (max (min k x.loose.length) 0).toNat, []⟩, ks)
def startRL : List RFile → List Int → List RFile
  | [], _ => []
  | x :: l, keep => if x.loose = [] then x :: startRL l keep else (cutR x keep).1 :: startRL l (cutR x keep).2
def startR (r : RFS) (keep : List Int) : RFS := ⟨startRL r.l keep, r.steps, false, 0, false⟩
/-! ### alike -/
def mkR (n : Bytes) (x : FileD) : RFile := ⟨n, x.1.take x.2.toNat, x.1.drop x.2.toNat⟩
structure Rel (z : FsD) (r : RFS) : Prop where
  ok : OkS z
  nd : (z.m.map (·.1)).Nodup
  srt : SortR r.l
  lk : ∀ n, lookR n r.l = (lookM n z.m).map (mkR n)
  st : r.steps = z.steps
  ar : r.armed = z.armed
  dn : r.down = z.down
  lf : z.armed = true → r.left = z.left
section
variable {α : Type} {m : AMap α} {k k2 : Bytes} {v : α}
theorem lookM_keys : ∀ {m : AMap α}, (lookM k m).isSome ↔ k ∈ m.map (·.1)
  | [] => by simp [lookM]
  | (k', v') :: r => by
    unfold lookM
    split
    · rename_i h; simp [h]
    · rename_i h
      rw [lookM_keys (m := r), List.map_cons, List.mem_cons]
      exact ⟨Or.inr, fun h2 => h2.resolve_left fun e => h e.symm⟩
theorem putM_keys : ∀ {m : AMap α}, (putM k v m).map (·.1) = if (lookM k m).isSome then m.map (·.1) else m.map (·.1) ++ [k]
  | [] => rfl
  | (k', v') :: r => by
    unfold putM lookM
    split
    · rename_i h; simp [h]
    · simp only [List.map_cons, putM_keys (m := r)]
      split <;> simp
theorem putM_nd (h : (m.map (·.1)).Nodup) : ((putM k v m).map (·.1)).Nodup := by
  rw [putM_keys]
  split
  · exact h
  · rename_i h2
    rw [lookM_keys] at h2
    exact List.nodup_append.2 ⟨h, by simp, fun a ha b hb e => by
      simp only [List.mem_singleton] at hb
      subst hb; subst e
      exact h2 ha⟩
theorem delM_keys : ∀ {m : AMap α}, (delM k m).map (·.1) = (m.map (·.1)).erase k
  | [] => rfl
  | (k', v') :: r => by
    unfold delM
    split
    · rename_i h; simp [h]
    · rename_i h
      simp only [List.map_cons, delM_keys (m := r)]
      rw [List.erase_cons_tail (by simpa using h)]
theorem lookM_delM : ∀ {m : AMap α}, (m.map (·.1)).Nodup → lookM k2 (delM k m) = if k = k2 then none else lookM k2 m
  | [], _ => by simp [delM, lookM]
  | (k', v') :: r, h => by
    have h' := List.nodup_cons.1 (by simpa using h : (k' :: r.map (·.1)).Nodup)
    unfold delM
    split
    · rename_i e
      subst e
      rw [lookM]
      split
      · rename_i e2
        subst e2
        cases hq : lookM k' r with
        | none => rfl
        | some x => exact absurd (lookM_keys.1 (by rw [hq]; rfl)) h'.1
      · rfl
    · rename_i e
      rw [lookM, lookM, lookM_delM h'.2]
      by_cases e2 : k' = k2
      · subst e2
        rw [if_pos rfl, if_pos rfl, if_neg (fun h => e h.symm)]
      · rw [if_neg e2, if_neg e2]
theorem delM_mem : ∀ {m : AMap α} {p}, p ∈ delM k m → p ∈ m
  | [], _, h => h
  | (k', v') :: r, p, h => by
    unfold delM at h
    split at h
    · simp [h]
    · rcases List.mem_cons.1 h with h | h
      · simp [h]
      · simp [delM_mem h]
theorem delM_le : ∀ {m : AMap α}, (delM k m).length ≤ m.length
  | [] => Nat.le_refl _
  | (k', v') :: r => by
    unfold delM
    split
    · simp
    · have := delM_le (m := r); simp; exact this
theorem delM_lt (h : (lookM k m).isSome) : (delM k m).length + 1 = m.length := by
  have e := congrArg List.length (delM_keys (k := k) (m := m))
  rw [List.length_map] at e
  rw [e, List.length_erase_of_mem (lookM_keys.1 h), List.length_map]
  have : 0 < m.length := by
    cases m with
    | nil => simp [lookM] at h
    | cons _ _ => simp
  omega
end
section
variable {z : FsD} {r : RFS} {n now b : Bytes} {kk : Int}
theorem lookR_mem {n : Bytes} {x : RFile} : ∀ {l}, lookR n l = some x → x ∈ l ∧ x.name = n
  | y :: l, h => by
    unfold lookR at h
    split at h
    · rename_i e; cases h; exact ⟨by simp, e⟩
    · have := lookR_mem h; exact ⟨by simp [this.1], this.2⟩
theorem lookR_of_mem {x : RFile} : ∀ {l}, SortR l → x ∈ l → lookR x.name l = some x
  | y :: l, h, hm => by
    have h' := List.pairwise_cons.1 h
    rcases List.mem_cons.1 hm with rfl | hm
    · simp [lookR]
    · rw [lookR, if_neg (lt_ne (h'.1 x hm)), lookR_of_mem h'.2 hm]
theorem Rel.names (h : Rel z r) : sortM z.m = r.l.map (·.name) := by
  have hp : (z.m.map (·.1)).Perm (r.l.map (·.name)) := by
    refine (List.perm_ext_iff_of_nodup h.nd ?_).2 fun n => ?_
    · exact List.pairwise_map.2 (h.srt.imp fun h => lt_ne h)
    · rw [← lookM_keys]
      have := h.lk n
      constructor
      · intro h1
        obtain ⟨x, hx⟩ := Option.isSome_iff_exists.1 h1
        rw [hx] at this
        obtain ⟨h2, h3⟩ := lookR_mem this
        exact List.mem_map.2 ⟨_, h2, h3⟩
      · intro h1
        obtain ⟨y, hy, rfl⟩ := List.mem_map.1 h1
        rw [lookR_of_mem h.srt hy] at this
        cases hq : lookM y.name z.m with
        | none => rw [hq] at this; cases this
        | some x => rfl
  have tr : ∀ a b c : List UInt8, leB a b = true → leB b c = true → leB a c = true := fun a b c h1 h2 => by simp only [leB, decide_eq_true_eq] at *; exact List.le_trans h1 h2
  have to : ∀ a b : List UInt8, (leB a b || leB b a) = true := fun a b => by simp only [leB, Bool.or_eq_true, decide_eq_true_eq]; exact List.le_total a b
  refine List.Perm.eq_of_pairwise (le := fun a b => leB a b = true) (fun a b _ _ h1 h2 => ?_) (List.pairwise_mergeSort tr to _) ?_ ((List.mergeSort_perm _ leB).trans hp)
  · simp only [leB, decide_eq_true_eq] at h1 h2
    exact List.le_antisymm h1 h2
  · refine List.pairwise_map.2 (h.srt.imp fun h => ?_)
    simp only [leB, decide_eq_true_eq]
    exact List.le_of_lt h
theorem Rel.len (h : Rel z r) : r.l.length = z.m.length := by
  have := congrArg List.length h.names
  rw [sortM_len, List.length_map] at this
  exact this.symm
theorem Rel.find (h : Rel z r) (n : Bytes) : (getR r n).2 = findE z n ∧ (findE z n = 0 → (getR r n).1 = mkR n (findF z n)) ∧ (findE z n ≠ 0 → (getR r n).1 = ⟨[], [], []⟩) := by
  have hi := isR_look (n := n) h.srt
  have hl := h.lk n
  unfold getR findF findE readyE
  rw [h.dn]
  cases hn : namedF n with
  | false => simp [hn]
  | true =>
    cases hd : z.down with
    | true => simp [hn, hd]
    | false =>
      cases hq : lookM n z.m with
      | none =>
        rw [hq] at hl
        have : isR n r.l = false := by
          cases hc : isR n r.l with
          | false => rfl
          | true => have := hi.1.1 hc; rw [hl] at this; cases this
        simp [hn, hd, hq, this]
      | some x =>
        rw [hq] at hl
        have h1 : isR n r.l = true := hi.1.2 (by rw [hl]; rfl)
        have h2 := hi.2 h1
        have h3 : atR n r.l = mkR n x := Option.some.inj (h2.symm.trans hl)
        simp [hn, hd, hq, h1, h3]
theorem Rel.put (h : Rel z r) {x : FileD} (hx : okF x) (hn : n.length ≤ 64) (hf : ¬ (lookM n z.m = none ∧ 64 ≤ z.m.length)) : Rel { z with m := putM n x z.m } (setF r (mkR n x)) where
  ok := ⟨h.ok.m.put hn hx, putM_le hf h.ok.n⟩
  nd := putM_nd h.nd
  srt := setR_sort h.srt
  lk n' := by
    show lookR n' (setR (mkR n x) r.l) = (lookM n' (putM n x z.m)).map (mkR n')
    rw [lookR_set, lookM_putM, h.lk n']
    show (if n = n' then _ else _) = _
    split
    · rename_i e; rw [e]; rfl
    · rfl
  st := h.st
  ar := h.ar
  dn := h.dn
  lf := h.lf
theorem Rel.del (h : Rel z r) (n : Bytes) : Rel { z with m := delM n z.m } (dropF r n) where
  ok := ⟨fun p hp => h.ok.m p (delM_mem hp), Nat.le_trans delM_le h.ok.n⟩
  nd := by
    show ((delM n z.m).map (·.1)).Nodup
    rw [delM_keys]
    exact h.nd.erase n
  srt := dropR_sort h.srt
  lk n' := by
    show lookR n' (dropR n r.l) = (lookM n' (delM n z.m)).map (mkR n')
    rw [lookR_drop h.srt, lookM_delM h.nd, h.lk n']
    split <;> rfl
  st := h.st
  ar := h.ar
  dn := h.dn
  lf := h.lf
theorem Rel.step (h : Rel z r) : Rel (stepF z).1 (stepR r).1 ∧ ((stepR r).2 = true ↔ (stepF z).2 = 13) ∧ ((stepR r).2 = false ↔ (stepF z).2 = 0) := by
  unfold stepF stepR
  rw [h.ar]
  by_cases c : z.armed = true ∧ z.left = 0
  · rw [if_pos c, if_pos ⟨c.1, by rw [h.lf c.1]; exact c.2⟩]
    exact ⟨⟨⟨h.ok.m, h.ok.n⟩, h.nd, h.srt, h.lk, h.st, rfl, rfl, h.lf⟩, by simp, by simp⟩
  · rw [if_neg c, if_neg (fun h2 => c ⟨h2.1, by rw [← h.lf h2.1]; exact h2.2⟩)]
    refine ⟨⟨⟨h.ok.m, h.ok.n⟩, h.nd, h.srt, h.lk, ?_, rfl, h.dn, fun ha => ?_⟩, by simp, by simp⟩
    · show IntKind.i64.wrap (r.steps + 1) = _
      rw [h.st]
    · show IntKind.i64.wrap (r.left - 1) = _
      rw [h.lf ha]
end
end Go.Proofs.YtiaiglgfangedaaDoor
set_option linter.unusedVariables false
set_option linter.unusedSimpArgs false
set_option linter.unusedSectionVars false
namespace Go.Proofs.YtiaiglgfangedaaDoor
open Go Go.Isk Go.RowKit
set_option maxRecDepth 20000
section
variable {z : FsD} {r : RFS} {n now b : Bytes} {kk : Int} {keep : List Int}
theorem Rel.new : Rel newF ⟨[], 0, false, 0, false⟩ := ⟨okS_new, List.nodup_nil, List.Pairwise.nil, fun _ => rfl, rfl, rfl, rfl, fun h => by cases h⟩
theorem mkR_all {x : FileD} : (mkR n x).safe ++ (mkR n x).loose = x.1 := List.take_append_drop _ _
theorem mkR_len {x : FileD} : (mkR n x).safe.length + (mkR n x).loose.length = x.1.length := by rw [← List.length_append, mkR_all]
theorem mkR_app {x : FileD} (h : okF x) (b : Bytes) : mkR n (x.1 ++ b, x.2) = ⟨n, (mkR n x).safe, (mkR n x).loose ++ b⟩ := by
  obtain ⟨h1, h2, h3⟩ := h
  simp only [mkR, RFile.mk.injEq, true_and]
  exact ⟨List.take_append_of_le_length (by omega), List.drop_append_of_le_length (by omega)⟩
theorem mkR_sync {x : FileD} : mkR n (x.1, (x.1.length : Int)) = ⟨n, (mkR n x).safe ++ (mkR n x).loose, []⟩ := by
  rw [mkR_all]
  simp [mkR]
theorem mkR_cut {x : FileD} {k : Int} (h1 : 0 ≤ k) (h2 : k ≤ x.1.length) : mkR n (x.1.take k.toNat, k) = ⟨n, ((mkR n x).safe ++ (mkR n x).loose).take k.toNat, []⟩ := by
  rw [mkR_all]
  simp only [mkR, RFile.mk.injEq, true_and]
  exact ⟨by rw [List.take_take, Nat.min_self], List.drop_of_length_le (by simp; omega)⟩
theorem stepF_cases (z : FsD) : (stepF z).2 = 0 ∨ (stepF z).2 = 13 := by
  unfold stepF
  split
  · exact .inr rfl
  · exact .inl rfl
theorem find8 (h : findE z n = 8) : lookM n z.m = none ∧ readyE z [n] = 0 := by
  unfold findE at h
  split at h
  · rename_i h1
    exfalso
    unfold readyE at h
    split at h
    · cases h
    · split at h <;> cases h
  · rename_i h1
    split at h
    · rename_i h2
      exact ⟨by simpa using h2, by simpa using h1⟩
    · cases h
theorem Rel.append (h : Rel z r) (n b : Bytes) : Rel (appendF z n b).1 (appendR r n b).1 ∧ (appendR r n b).2 = (appendF z n b).2 := by
  obtain ⟨f1, f2, f3⟩ := h.find n
  by_cases hr : readyE z [n] = 0
  rotate_left
  · have he : findE z n = readyE z [n] := by rw [findE, if_pos hr]
    have h8 : findE z n ≠ 8 := fun h8 => hr (find8 h8).2
    have eF : appendF z n b = (z, findE z n) := by rw [appendF, if_pos hr, he]
    have eR : appendR r n b = (r, findE z n) := by rw [appendR, f1, if_neg (fun h => h8 h.1), if_pos ⟨by rw [he]; exact hr, h8⟩]
    rw [eF, eR]
    exact ⟨h, rfl⟩
  have hn := named_len (ready_named (z := z) hr n (by simp))
  have hE : (lookM n z.m = none ↔ findE z n = 8) ∧ (findE z n = 0 ∨ findE z n = 8) := by
    unfold findE
    rw [if_neg (by simpa using hr)]
    cases lookM n z.m <;> simp
  by_cases c1 : lookM n z.m = none ∧ 64 ≤ z.m.length
  · have eF : appendF z n b = (z, 10) := by rw [appendF, if_neg (by simpa using hr), if_pos c1]
    have eR : appendR r n b = (r, 10) := by rw [appendR, f1, h.len, if_pos ⟨hE.1.1 c1.1, c1.2⟩]
    rw [eF, eR]
    exact ⟨h, rfl⟩
  have hm : (getR r n).1.safe = (mkR n ((lookM n z.m).getD ([], 0))).safe ∧ (getR r n).1.loose = (mkR n ((lookM n z.m).getD ([], 0))).loose := by
    rcases hE.2 with e | e
    · rw [f2 e]
      obtain ⟨x, h1, h2, _⟩ := find_look e
      rw [h2, h1]
      exact ⟨rfl, rfl⟩
    · rw [f3 (by rw [e]; decide), hE.1.2 e]
      exact ⟨rfl, rfl⟩
  have ho := h.ok.m.get n
  have eR0 : appendR r n b = if 16777216 < (getR r n).1.safe.length + (getR r n).1.loose.length + b.length then (r, 2)
      else ((stepR (setF r ⟨n, (getR r n).1.safe, (getR r n).1.loose ++ b⟩)).1, if (stepR (setF r ⟨n, (getR r n).1.safe, (getR r n).1.loose ++ b⟩)).2 = true then 13 else 0) := by
    rw [appendR, f1, h.len, if_neg (fun h => c1 ⟨hE.1.2 h.1, h.2⟩), if_neg (fun h => by rcases hE.2 with e | e <;> simp [e] at h)]
  have eF0 : appendF z n b = if 16777216 < ((lookM n z.m).getD ([], 0)).1.length + b.length then (z, 2)
      else stepF { z with m := putM n (((lookM n z.m).getD ([], 0)).1 ++ b, ((lookM n z.m).getD ([], 0)).2) z.m } := by
    rw [appendF, if_neg (by simpa using hr), if_neg c1]
  rw [eR0, eF0, hm.1, hm.2, mkR_len]
  generalize (lookM n z.m).getD ([], 0) = x at *
  by_cases c2 : 16777216 < x.1.length + b.length
  · simp only [if_pos c2]
    exact ⟨h, trivial⟩
  simp only [if_neg c2, ← mkR_app ho]
  have hp := h.put (n := n) (x := (x.1 ++ b, x.2)) ⟨ho.1, by simp; have := ho.2.1; omega, by simp; omega⟩ hn c1
  obtain ⟨s1, s2, s3⟩ := hp.step
  refine ⟨s1, ?_⟩
  rcases stepF_cases { z with m := putM n (x.1 ++ b, x.2) z.m } with e | e
  · rw [e, s3.2 e]; rfl
  · rw [e, s2.2 e]; rfl
/-- a change of a file -/
theorem Rel.chg (h : Rel z r) {dof : FsD → FileD → FsD} {R : RFS × Int} {f : RFS → RFS × Int} (h1 : findE z n ≠ 0 → R = (r, findE z n)) (h2 : findE z n = 0 → (stepR r).2 = true → R = ((stepR r).1, 13)) (h3 : findE z n = 0 → (stepR r).2 = false → R = f (stepR r).1)
    (hE : findE z n = 0 → Rel (stepF z).1 (stepR r).1 → Rel (dof (stepF z).1 (findF z n)) (f (stepR r).1).1 ∧ (f (stepR r).1).2 = 0) :
    Rel (changeF z n dof).1 R.1 ∧ R.2 = (changeF z n dof).2 := by
  by_cases c : findE z n = 0
  rotate_left
  · have eF : changeF z n dof = (z, findE z n) := by rw [changeF, if_pos c]
    rw [eF, h1 c]
    exact ⟨h, rfl⟩
  obtain ⟨s1, s2, s3⟩ := h.step
  rcases stepF_cases z with e | e
  · have eF : changeF z n dof = (dof (stepF z).1 (findF z n), 0) := by rw [changeF, if_neg (by simpa using c), if_neg (by simp [e])]
    rw [eF, h3 c (s3.2 e)]
    exact hE c s1
  · have eF : changeF z n dof = stepF z := by rw [changeF, if_neg (by simpa using c), if_pos (by simp [e])]
    rw [eF, h2 c (s2.2 e)]
    exact ⟨s1, e.symm⟩
theorem look_stays (h : findE z n = 0) : ¬ (lookM n (stepF z).1.m = none ∧ 64 ≤ (stepF z).1.m.length) := by
  obtain ⟨x, h1, _⟩ := find_look h
  rw [stepF_m, h1]
  exact fun h => by cases h.1
theorem n3 {p : Prop} {k : Int} (hk : k ≠ 3) : ¬ (k = 3 ∧ p) := fun h => hk h.1
theorem n1 {p : Prop} {k : Int} (hk : k ≠ 1) : ¬ (k = 1 ∧ p) := fun h => hk h.1
theorem Rel.sync (h : Rel z r) (n : Bytes) : Rel (syncF z n).1 (changeR r 0 n [] 0).1 ∧ (changeR r 0 n [] 0).2 = (syncF z n).2 := by
  obtain ⟨f1, f2, f3⟩ := h.find n
  refine h.chg (f := fun r1 => (setF r1 ⟨n, (getR r n).1.safe ++ (getR r n).1.loose, []⟩, 0)) (fun c => ?_) (fun c c2 => ?_) (fun c c2 => ?_) fun e hs => ?_
  · rw [changeR, if_neg (n1 (by decide)), f1, if_pos c]
  · rw [changeR, if_neg (n1 (by decide)), f1, if_neg (by simpa using c), if_neg (n3 (by decide)), if_pos c2]
  · rw [changeR, if_neg (n1 (by decide)), f1, if_neg (by simpa using c), if_neg (n3 (by decide)), if_neg (by simp [c2]), if_pos rfl]
  · obtain ⟨x, h1, h2, h3⟩ := find_look e
    have ho := findF_ok h.ok n
    refine ⟨?_, rfl⟩
    rw [f2 e, ← mkR_sync]
    exact hs.put ⟨by simp, by simp, ho.2.2⟩ (named_len h3) (look_stays e)
theorem Rel.rename (h : Rel z r) (n now : Bytes) : Rel (renameF z n now).1 (changeR r 1 n now 0).1 ∧ (changeR r 1 n now 0).2 = (renameF z n now).2 := by
  obtain ⟨f1, f2, f3⟩ := h.find n
  cases hw : namedF now with
  | false =>
    have he : readyE z [n, now] = 1 := by rw [readyE, if_pos (by simp [hw])]
    have eF : renameF z n now = (z, 1) := by rw [renameF, he, if_pos (by decide)]
    have eR : changeR r 1 n now 0 = (r, 1) := by rw [changeR, if_pos ⟨rfl, hw⟩]
    rw [eF, eR]
    exact ⟨h, rfl⟩
  | true =>
    have hr : readyE z [n, now] = readyE z [n] := by unfold readyE; simp [hw]
    have hw' : ¬ ((1 : Int) = 1 ∧ namedF now = false) := fun h => by rw [hw] at h; cases h.2
    by_cases c : readyE z [n] = 0
    rotate_left
    · have he : findE z n = readyE z [n] := by rw [findE, if_pos c]
      have eF : renameF z n now = (z, findE z n) := by rw [renameF, hr, if_pos c, he]
      have eR : changeR r 1 n now 0 = (r, findE z n) := by rw [changeR, if_neg hw', f1, if_pos (by rw [he]; exact c)]
      rw [eF, eR]
      exact ⟨h, rfl⟩
    have eF : renameF z n now = changeF z n (renD n now) := by rw [renameF, hr, if_neg (by simpa using c)]
    rw [eF]
    refine h.chg (f := fun r1 => (setF (dropF r1 n) ⟨now, (getR r n).1.safe, (getR r n).1.loose⟩, 0)) (fun c => ?_) (fun c c2 => ?_) (fun c c2 => ?_) fun e hs => ?_
    · rw [changeR, if_neg hw', f1, if_pos c]
    · rw [changeR, if_neg hw', f1, if_neg (by simpa using c), if_neg (n3 (by decide)), if_pos c2]
    · rw [changeR, if_neg hw', f1, if_neg (by simpa using c), if_neg (n3 (by decide)), if_neg (by simp [c2]), if_neg (by decide), if_pos rfl]
    · obtain ⟨x, h1, h2, h3⟩ := find_look e
      refine ⟨?_, rfl⟩
      rw [f2 e]
      have hd := hs.del n
      refine Rel.put (n := now) (x := findF z n) hd (findF_ok h.ok n) (named_len hw) fun h => ?_
      have h4 : 64 ≤ (delM n (stepF z).1.m).length := h.2
      have h5 := delM_lt (k := n) (m := (stepF z).1.m) (by rw [stepF_m, h1]; rfl)
      have h6 := hs.ok.n
      omega
theorem Rel.remove (h : Rel z r) (n : Bytes) : Rel (removeF z n).1 (changeR r 2 n [] 0).1 ∧ (changeR r 2 n [] 0).2 = (removeF z n).2 := by
  obtain ⟨f1, f2, f3⟩ := h.find n
  refine h.chg (f := fun r1 => (dropF r1 n, 0)) (fun c => ?_) (fun c c2 => ?_) (fun c c2 => ?_) fun e hs => ⟨hs.del n, rfl⟩
  · rw [changeR, if_neg (n1 (by decide)), f1, if_pos c]
  · rw [changeR, if_neg (n1 (by decide)), f1, if_neg (by simpa using c), if_neg (n3 (by decide)), if_pos c2]
  · rw [changeR, if_neg (n1 (by decide)), f1, if_neg (by simpa using c), if_neg (n3 (by decide)), if_neg (by simp [c2]), if_neg (by decide), if_neg (by decide), if_pos rfl]
theorem Rel.cut (h : Rel z r) (n : Bytes) (k : Int) : Rel (cutZ z n k).1 (changeR r 3 n [] k).1 ∧ (changeR r 3 n [] k).2 = (cutZ z n k).2 := by
  obtain ⟨f1, f2, f3⟩ := h.find n
  by_cases e : findE z n = 0
  rotate_left
  · have eF : cutZ z n k = (z, findE z n) := by rw [cutZ, if_pos e]
    have eR : changeR r 3 n [] k = (r, findE z n) := by rw [changeR, if_neg (n1 (by decide)), f1, if_pos e]
    rw [eF, eR]
    exact ⟨h, rfl⟩
  by_cases c : k < 0 ∨ ((findF z n).1.length : Int) < k
  · have eF : cutZ z n k = (z, 1) := by rw [cutZ, if_neg (by simpa using e), if_pos c]
    have eR : changeR r 3 n [] k = (r, 1) := by rw [changeR, if_neg (n1 (by decide)), f1, if_neg (by simpa using e), f2 e, mkR_all, if_pos ⟨rfl, c⟩]
    rw [eF, eR]
    exact ⟨h, rfl⟩
  have eF : cutZ z n k = changeF z n (cutD n k) := by rw [cutZ, if_neg (by simpa using e), if_neg c]
  have hc : ¬ ((3 : Int) = 3 ∧ (k < 0 ∨ ((findF z n).1.length : Int) < k)) := fun h => c h.2
  rw [eF]
  refine h.chg (f := fun r1 => (setF r1 ⟨n, (findF z n).1.take k.toNat, []⟩, 0)) (fun c => absurd e c) (fun _ c2 => ?_) (fun _ c2 => ?_) fun e hs => ?_
  · rw [changeR, if_neg (n1 (by decide)), f1, if_neg (by simpa using e), f2 e, mkR_all, if_neg hc, if_pos c2]
  · rw [changeR, if_neg (n1 (by decide)), f1, if_neg (by simpa using e), f2 e, mkR_all, if_neg hc, if_neg (by simp [c2]), if_neg (by decide), if_neg (by decide), if_neg (by decide)]
  · obtain ⟨x, h1, h2, h3⟩ := find_look e
    have ho := findF_ok h.ok n
    have hk : 0 ≤ k ∧ k ≤ (findF z n).1.length := by omega
    refine ⟨?_, rfl⟩
    have hm := mkR_cut (n := n) (x := findF z n) hk.1 hk.2
    rw [mkR_all] at hm
    rw [← hm]
    exact hs.put ⟨hk.1, by simp; omega, by simp; have := ho.2.2; omega⟩ (named_len h3) (look_stays e)
theorem Rel.arm (h : Rel z r) (n : Int) : Rel (armF z n).1 (armR r n).1 ∧ (armR r n).2 = (armF z n).2 := by
  unfold armF armR
  have hr : readyE z [] = if z.down = true then 13 else 0 := by simp [readyE]
  rw [hr, h.dn]
  by_cases c : n < 0
  · rw [if_pos c, if_pos c]
    exact ⟨h, rfl⟩
  rw [if_neg c, if_neg c]
  cases hd : z.down with
  | true => exact ⟨h, rfl⟩
  | false => exact ⟨⟨⟨h.ok.m, h.ok.n⟩, h.nd, h.srt, h.lk, h.st, rfl, rfl, fun _ => rfl⟩, rfl⟩
theorem startRL_names : ∀ {l : List RFile} {keep : List Int}, (startRL l keep).map (·.name) = l.map (·.name)
  | [], _ => rfl
  | x :: l, keep => by
    unfold startRL
    split
    · simp [startRL_names (l := l)]
    · cases keep <;> simp [startRL_names (l := l), cutR]
theorem startRL_rel : ∀ {l : List RFile} {m : AMap FileD} {keep : List Int}, SortR l → (∀ y ∈ l, ∃ x, lookM y.name m = some x ∧ okF x ∧ y = mkR y.name x) →
    ∀ n, (n ∈ l.map (·.name) → lookR n (startRL l keep) = (lookM n (startL (l.map (·.name)) m keep)).map (mkR n)) ∧ (n ∉ l.map (·.name) → lookM n (startL (l.map (·.name)) m keep) = lookM n m)
  | [], m, keep, _, _, n => ⟨fun h => (by simp at h), fun _ => rfl⟩
  | y :: l, m, keep, hs, hy, n => by
    have hs' := List.pairwise_cons.1 hs
    obtain ⟨x, hx, ho, hyx⟩ := hy y (by simp)
    have hnot : y.name ∉ l.map (·.name) := fun h => by
      obtain ⟨u, hu, e⟩ := List.mem_map.1 h
      exact lt_ne (hs'.1 u hu) e.symm
    have hrest : ∀ v : FileD, ∀ u ∈ l, ∃ x, lookM u.name (putM y.name v m) = some x ∧ okF x ∧ u = mkR u.name x := fun v u hu => by
      obtain ⟨x', h1, h2, h3⟩ := hy u (by simp [hu])
      exact ⟨x', by rw [lookM_putM, if_neg (lt_ne (hs'.1 u hu))]; exact h1, h2, h3⟩
    have hloose : y.loose = [] ↔ (x.1.length : Int) - x.2 = 0 := by
      rw [hyx]
      show x.1.drop x.2.toNat = [] ↔ _
      rw [List.drop_eq_nil_iff]
      have := ho.1; have := ho.2.1
      omega
    simp only [List.map_cons]
    unfold startRL startL
    rw [hx]
    simp only [Option.getD_some]
    by_cases c : y.loose = []
    · rw [if_pos c, if_pos (hloose.1 c)]
      have ih := startRL_rel (keep := keep) hs'.2 (fun u hu => hy u (by simp [hu])) n
      by_cases e : y.name = n
      · subst e
        refine ⟨fun _ => ?_, fun h => absurd (by simp) h⟩
        rw [lookR, if_pos rfl, (ih.2 hnot), hx, Option.map_some, ← hyx]
      · refine ⟨fun h => ?_, fun h => ih.2 fun h2 => h (by simp [h2])⟩
        rw [lookR, if_neg e]
        exact ih.1 ((List.mem_cons.1 h).resolve_left fun h => e h.symm)
    · rw [if_neg c, if_neg (fun h => c (hloose.2 h))]
      have hcut : (cutR y keep).1 = mkR y.name (cutF x keep).1 ∧ (cutR y keep).2 = (cutF x keep).2 := by
        have hsafe : y.safe = x.1.take x.2.toNat := by rw [hyx]; rfl
        have hl : y.loose = x.1.drop x.2.toNat := by rw [hyx]; rfl
        have o1 := ho.1; have o2 := ho.2.1
        cases keep with
        | nil =>
          refine ⟨?_, rfl⟩
          simp only [cutF, cutR, mkR, RFile.mk.injEq, true_and]
          exact ⟨by rw [hsafe, List.take_take, Nat.min_self], (List.drop_of_length_le (by simp; omega)).symm⟩
        | cons k ks =>
          refine ⟨?_, rfl⟩
          simp only [cutF, cutR]
          have hll : (y.loose.length : Int) = x.1.length - x.2 := by rw [hl, List.length_drop]; omega
          rw [hll]
          have hj : ∃ j : Nat, max (min k (x.1.length - x.2)) 0 = (j : Int) ∧ j + x.2.toNat ≤ x.1.length := ⟨(max (min k (x.1.length - x.2)) 0).toNat, by omega, by omega⟩
          obtain ⟨j, hj, hj2⟩ := hj
          rw [hj]
          simp only [mkR, RFile.mk.injEq, true_and]
          rw [show (x.2 + (j : Int)).toNat = x.2.toNat + j by omega]
          refine ⟨?_, (List.drop_of_length_le (by simp; omega)).symm⟩
          rw [hsafe, hl, List.take_take, Nat.min_self, Int.toNat_natCast, ← List.take_add]
      rw [hcut.1, hcut.2]
      have ih := startRL_rel (keep := (cutF x keep).2) hs'.2 (hrest (cutF x keep).1) n
      by_cases e : y.name = n
      · subst e
        refine ⟨fun _ => ?_, fun h => absurd (by simp) h⟩
        rw [lookR, if_pos (show (mkR y.name (cutF x keep).1).name = y.name from rfl), ih.2 hnot, lookM_putM, if_pos rfl, Option.map_some]
      · refine ⟨fun h => ?_, fun h => ?_⟩
        · rw [lookR, if_neg (show ¬ (mkR y.name (cutF x keep).1).name = n from e)]
          exact ih.1 ((List.mem_cons.1 h).resolve_left fun h => e h.symm)
        · rw [ih.2 fun h2 => h (by simp [h2]), lookM_putM, if_neg e]
theorem startL_keys : ∀ {ns : List Bytes} {m : AMap FileD} {keep : List Int}, (m.map (·.1)).Nodup → ((startL ns m keep).map (·.1)).Nodup
  | [], _, _, h => h
  | n :: ns, m, keep, h => by
    unfold startL
    split
    · exact startL_keys h
    · exact startL_keys (putM_nd h)
theorem Rel.start (h : Rel z r) (keep : List Int) : Rel (startF z keep) (startR r keep) := by
  have hL := startRL_rel (l := r.l) (m := z.m) (keep := keep) h.srt fun y hy => by
    have h1 := h.lk y.name
    rw [lookR_of_mem h.srt hy] at h1
    cases hq : lookM y.name z.m with
    | none => rw [hq] at h1; cases h1
    | some x =>
      rw [hq] at h1
      exact ⟨x, rfl, (h.ok.m _ (lookM_mem hq)).2, Option.some.inj h1⟩
  refine ⟨startF_ok h.ok keep, startL_keys h.nd, ?_, fun n => ?_, h.st, rfl, rfl, fun h => by cases h⟩
  · have e : (startRL r.l keep).map (·.name) = r.l.map (·.name) := startRL_names
    have h1 : (r.l.map (·.name)).Pairwise (· < ·) := List.pairwise_map.2 h.srt
    rw [← e] at h1
    exact List.pairwise_map.1 h1
  · show lookR n (startRL r.l keep) = (lookM n (startL (sortM z.m) z.m keep)).map (mkR n)
    rw [h.names]
    by_cases c : n ∈ r.l.map (·.name)
    · exact (hL n).1 c
    · rw [(hL n).2 c]
      have h1 := h.lk n
      have h2 : lookR n r.l = none := by
        cases hq : lookR n r.l with
        | none => rfl
        | some y =>
          obtain ⟨h3, h4⟩ := lookR_mem hq
          exact absurd (List.mem_map.2 ⟨y, h3, h4⟩) c
      have h3 : lookR n (startRL r.l keep) = none := by
        cases hq : lookR n (startRL r.l keep) with
        | none => rfl
        | some y =>
          obtain ⟨h3, h4⟩ := lookR_mem hq
          have : n ∈ (startRL r.l keep).map (·.name) := List.mem_map.2 ⟨y, h3, h4⟩
          rw [startRL_names] at this
          exact absurd this c
      rw [h3, ← h1, h2]
end
end Go.Proofs.YtiaiglgfangedaaDoor
