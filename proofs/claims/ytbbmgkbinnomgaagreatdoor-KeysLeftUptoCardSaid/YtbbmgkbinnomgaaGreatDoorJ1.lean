/- Layer 11's law: votes, texts, commits held against each other. -/
import Derived.Test.YtbbmgkbinnomgaaGreatDoorL1
import Derived.Test.YtbbmgkbinnomgaaGreatDoorW9
import Derived.Test.YtbbmgkbinnomgaaGreatDoorY3
import Derived.Test.YtbbmgkbinnomgaaGreatDoorM4
set_option linter.unusedVariables false
set_option linter.unusedSimpArgs false
set_option linter.unusedSectionVars false
namespace Go.Proofs.YtbbmgkbinnomgaaGreatDoor
open Go Go.Isk Go.RowKit
section
variable {b : Base} {w w' : World} {L R : List It} {g : Nat} {v sv av bv : Value} {s l : Bytes} {cs ds : List Value} {k : Value → World → Prop}
theorem newB_sep {r : Value} (hs : Sep b w L) (h : NewB w r w' l) : Sep b w' ((byF r l).it :: L) := (hs.ext h.2.1).fresh hs (fun _ h => h) h.1 h.2.2
end
def CommSmall (c : Commit) : Prop := c.votes.length ≤ 32 ∧ ∀ v ∈ c.votes, v.sign.length ≤ 65536
end Go.Proofs.YtbbmgkbinnomgaaGreatDoor
set_option linter.unusedVariables false
set_option linter.unusedSimpArgs false
set_option linter.unusedSectionVars false
namespace Go.Proofs.YtbbmgkbinnomgaaGreatDoor
open Go Go.Isk Go.RowKit
set_option maxRecDepth 20000
section
variable {b : Base} {w : World} {L R : List It} {g : Nat} {v sv : Value} {cs : List Value} {l : Bytes}
end
end Go.Proofs.YtbbmgkbinnomgaaGreatDoor
set_option linter.unusedVariables false
set_option linter.unusedSimpArgs false
set_option linter.unusedSectionVars false
namespace Go.Proofs.YtbbmgkbinnomgaaGreatDoor
open Go Go.Isk Go.RowKit
set_option maxRecDepth 20000
section
variable {P : Program} {b : Base} {w : World} {L R : List It} {g : Nat} {v sv : Value} {cs : List Value} {l : Bytes} {k : Value → World → Prop} {x1 x2 : Operand} {t : TypeId}
end
end Go.Proofs.YtbbmgkbinnomgaaGreatDoor
set_option linter.unusedVariables false
set_option linter.unusedSimpArgs false
set_option linter.unusedSectionVars false
namespace Go.Proofs.YtbbmgkbinnomgaaGreatDoor
open Go Go.Isk Go.RowKit
set_option maxRecDepth 20000
section
variable {P : Program} {b : Base} {w : World} {L R : List It} {g : Nat} {v sv dv : Value} {cs : List Value} {l sig d : Bytes} {k : Value → World → Prop}
end
end Go.Proofs.YtbbmgkbinnomgaaGreatDoor
set_option linter.unusedVariables false
set_option linter.unusedSimpArgs false
set_option linter.unusedSectionVars false
namespace Go.Proofs.YtbbmgkbinnomgaaGreatDoor
open Go Go.Isk Go.RowKit
set_option maxRecDepth 20000
section
variable {P : Program} {b : Base} {w : World} {L R : List It} {g : Nat} {v sv dv : Value} {cs : List Value} {l sig d : Bytes} {k : Value → World → Prop}
end
end Go.Proofs.YtbbmgkbinnomgaaGreatDoor
set_option linter.unusedVariables false
set_option linter.unusedSimpArgs false
set_option linter.unusedSectionVars false
namespace Go.Proofs.YtbbmgkbinnomgaaGreatDoor
open Go Go.Isk Go.RowKit
set_option maxRecDepth 20000
/-- enough is enough -/
theorem turnsN_fuel : ∀ {f g i n : Nat}, n ≤ f → n ≤ g → i < n → turnsN f i n = turnsN g i n
  | 0, g, i, n, hf, hg, hi => by omega
  | f + 1, 0, i, n, hf, hg, hi => by omega
  | f + 1, g + 1, i, n, hf, hg, hi => by
    rw [turnsN, turnsN]
    by_cases h : 1 < n
    · rw [if_pos h, if_pos h]
      have hp := halfN_pos n
      have hlt := halfN_lt (n := n) (by omega)
      by_cases hc : halfN n ≤ i
      · rw [if_pos hc, if_pos hc, turnsN_fuel (f := f) (g := g) (by omega) (by omega) (by omega)]
      · rw [if_neg hc, if_neg hc, turnsN_fuel (f := f) (g := g) (by omega) (by omega) (by omega)]
    · rw [if_neg h, if_neg h]
theorem turnsB_step {i n : Nat} (hn : 1 < n) (hi : i < n) : turnsB i n = decide (halfN n ≤ i) :: (if halfN n ≤ i then turnsB (i - halfN n) (n - halfN n) else turnsB i (halfN n)) := by
  have hp := halfN_pos n
  have hlt := halfN_lt (n := n) (by omega)
  obtain ⟨f, rfl⟩ : ∃ f, n = f + 1 := ⟨n - 1, by omega⟩
  rw [turnsB, turnsN, if_pos hn]
  by_cases hc : halfN (f + 1) ≤ i
  · rw [if_pos hc, if_pos hc, turnsB, turnsN_fuel (f := f) (g := f + 1 - halfN (f + 1)) (by omega) (by omega) (by omega)]
  · rw [if_neg hc, if_neg hc, turnsB, turnsN_fuel (f := f) (g := halfN (f + 1)) (by omega) (by omega) (by omega)]
theorem turnsB_one (i : Nat) : turnsB i 1 = [] := by rw [turnsB, turnsN, if_neg (by omega)]
theorem foldK_cons {leaf : Bytes} {t : Bool} {r : List Bool} {path : List Bytes} {m : Nat} : ∀ (k : Nat), k ≤ r.length → k ≤ m → foldK leaf (t :: r) path k = foldK leaf r (path.take m) k
  | 0, _, _ => rfl
  | k + 1, h, hm => by
    rw [foldK, foldK, foldK_cons (m := m) k (by omega) (by omega)]
    have e1 : (t :: r).getD ((t :: r).length - 1 - k) false = r.getD (r.length - 1 - k) false := by
      rw [List.length_cons, show r.length + 1 - 1 - k = (r.length - 1 - k) + 1 by omega, List.getD_cons_succ]
    have e2 : path.getD k [] = (path.take m).getD k [] := by
      rw [List.getD_eq_getElem?_getD, List.getD_eq_getElem?_getD, List.getElem?_take, if_pos (by omega)]
    rw [e1, e2]
theorem foldK_step {leaf : Bytes} {t : Bool} {r : List Bool} {path : List Bytes} (h : path.length = r.length + 1) : foldK leaf (t :: r) path path.length = if t = true then nodeB (path.getD r.length []) (foldK leaf r (path.take r.length) (path.take r.length).length) else nodeB (foldK leaf r (path.take r.length) (path.take r.length).length) (path.getD r.length []) := by
  rw [h, foldK, foldK_cons (m := r.length) r.length (Nat.le_refl _) (Nat.le_refl _), List.length_cons, show r.length + 1 - 1 - r.length = 0 by omega, show (path.take r.length).length = r.length by rw [List.length_take]; omega]
  rfl
section
variable {P : Program} {b : Base} {w : World} {L R : List It} {g : Nat} {v sv dv : Value} {cs : List Value} {l leaf : Bytes} {path : List Bytes} {k : Value → World → Prop} {α : Type} {F : Fam α} {sz : Nat} {ls : List α}
end
end Go.Proofs.YtbbmgkbinnomgaaGreatDoor
set_option linter.unusedVariables false
set_option linter.unusedSimpArgs false
set_option linter.unusedSectionVars false
namespace Go.Proofs.YtbbmgkbinnomgaaGreatDoor
open Go Go.Isk Go.RowKit
def firstB (seed : Bytes) (leaf chain : Nat) : Bytes := shaB (2 :: (seed ++ (encU leaf ++ encU chain)))
def chainV (seed : Bytes) (leaf c p : Nat) : Bytes := stepB (firstB seed leaf c) leaf c 0 p
def chainsB (seed : Bytes) (leaf : Nat) (ps : List Nat) (i : Nat) : Bytes := (List.range i).flatMap fun c => chainV seed leaf c (ps.getD c 0)
def signW (seed : Bytes) (leaf : Nat) (d : Bytes) : Bytes := chainsB seed leaf (digitsB d) (2 * d.length + 3)
def publicB (seed : Bytes) (leaf n : Nat) : Bytes := leafB (chainsB seed leaf (List.replicate (2 * n + 3) 15) (2 * n + 3))
theorem chainV_len (seed : Bytes) (leaf c p : Nat) : (chainV seed leaf c p).length = 32 := stepB_len (shaB_len _)
theorem chainsB_succ (seed : Bytes) (leaf : Nat) (ps : List Nat) (i : Nat) : chainsB seed leaf ps (i + 1) = chainsB seed leaf ps i ++ chainV seed leaf i (ps.getD i 0) := by
  simp [chainsB, List.range_succ]
theorem chainsB_len {seed : Bytes} {leaf : Nat} {ps : List Nat} : ∀ {i : Nat}, (chainsB seed leaf ps i).length = 32 * i
  | 0 => rfl
  | i + 1 => by
    rw [chainsB_succ, List.length_append, chainsB_len (i := i), chainV_len]
    omega
theorem chainsB_at {seed : Bytes} {leaf : Nat} {ps : List Nat} {c : Nat} : ∀ {n : Nat}, c < n → ((chainsB seed leaf ps n).drop (32 * c)).take 32 = chainV seed leaf c (ps.getD c 0)
  | 0, h => by omega
  | n + 1, h => by
    have hn := chainsB_len (seed := seed) (leaf := leaf) (ps := ps) (i := n)
    have hv := chainV_len seed leaf n (ps.getD n 0)
    rw [chainsB_succ]
    rcases Nat.lt_or_ge c n with hc | hc
    · rw [List.drop_append_of_le_length (by omega), List.take_append_of_le_length (by rw [List.length_drop]; omega), chainsB_at hc]
    · obtain rfl : c = n := by omega
      rw [List.drop_append, hn, List.drop_of_length_le (by omega), List.nil_append, Nat.sub_self, List.drop_zero, List.take_of_length_le (by omega)]
theorem stepsB_add (leaf chain : Nat) : ∀ (j p k : Nat) (v : Bytes), stepsB leaf chain (p + j) k (stepsB leaf chain p j v) = stepsB leaf chain p (j + k) v
  | 0, p, k, v => by rw [stepsB, Nat.add_zero, Nat.zero_add]
  | j + 1, p, k, v => by
    rw [show j + 1 + k = (j + k) + 1 by omega, stepsB, stepsB, show p + (j + 1) = p + 1 + j by omega, stepsB_add leaf chain j (p + 1) k]
theorem stepB_join {v : Bytes} {leaf c p : Nat} (hp : p ≤ 15) : stepB (stepB v leaf c 0 p) leaf c p 15 = stepB v leaf c 0 15 := by
  unfold stepB
  have h := stepsB_add leaf c p 0 (15 - p) v
  rw [Nat.zero_add, show p + (15 - p) = 15 by omega] at h
  rw [show min p 15 - 0 = p by omega, show min 15 15 - p = 15 - p by omega, show min 15 15 - 0 = 15 by omega]
  exact h
theorem getD_rep {n c : Nat} (h : c < n) : (List.replicate n 15).getD c 0 = 15 := by
  rw [List.getD_eq_getElem?_getD, List.getElem?_replicate, if_pos h]
  rfl
theorem ends_sign {seed : Bytes} {leaf : Nat} {ps : List Nat} {n : Nat} (hps : ∀ x ∈ ps, x ≤ 15) : ∀ {i : Nat}, i ≤ n → endsB (chainsB seed leaf ps n) leaf ps i = chainsB seed leaf (List.replicate n 15) i
  | 0, _ => rfl
  | i + 1, h => by
    have hp : ps.getD i 0 ≤ 15 := by
      rw [List.getD_eq_getElem?_getD]
      cases hx : ps[i]? with
      | none => exact Nat.zero_le _
      | some y => exact hps y (List.mem_of_getElem? hx)
    rw [endsB_succ, chainsB_succ, ends_sign hps (by omega), chainsB_at (by omega), getD_rep (by omega)]
    unfold chainV
    rw [stepB_join hp]
theorem from_sign {seed d : Bytes} {leaf : Nat} (h1 : 1 ≤ d.length) (h2 : d.length ≤ 32) (hl : leaf < 1024) : fromB (signW seed leaf d) (leaf : Int) d = (publicB seed leaf d.length, 0) := by
  have hc : wCheck (leaf : Int) d.length = 0 := by
    unfold wCheck digOk
    rw [if_pos ⟨by omega, by omega, by simp; omega⟩]
  unfold fromB
  rw [hc, if_neg (by simp), if_neg (by rw [signW, chainsB_len]; simp)]
  unfold signW publicB
  rw [Int.toNat_natCast, ends_sign (digitsB_lt d) (Nat.le_refl _)]
/-! ### trees -/
theorem getD_last {P : List Bytes} {x : Bytes} : (P ++ [x]).getD P.length [] = x := by
  rw [List.getD_eq_getElem?_getD, List.getElem?_append_right (Nat.le_refl _), Nat.sub_self]
  rfl
def pathN : Nat → List Bytes → Nat → List Bytes
  | 0, _, _ => []
  | f + 1, l, i => if 1 < l.length then (if halfN l.length ≤ i then pathN f (l.drop (halfN l.length)) (i - halfN l.length) ++ [rootB (l.take (halfN l.length))] else pathN f (l.take (halfN l.length)) i ++ [rootB (l.drop (halfN l.length))]) else []
def pathB (l : List Bytes) (i : Nat) : List Bytes := pathN l.length l i
theorem rootB_one {l : List Bytes} (h : l.length = 1) : rootB l = l.getD 0 [] := by
  rw [rootB, dif_neg (by omega), dif_pos h]
theorem rootB_many {l : List Bytes} (h : 1 < l.length) : rootB l = nodeB (rootB (l.take (halfN l.length))) (rootB (l.drop (halfN l.length))) := by
  rw [rootB, dif_neg (by omega), dif_neg (by omega)]
theorem halfN_two {n : Nat} (h : 2 ≤ n) : n ≤ 2 * halfN n := by
  have := Nat.lt_log2_self (n := n - 1)
  unfold halfN
  rw [Nat.pow_succ] at this
  omega
theorem fold_path : ∀ (f : Nat) {l : List Bytes} {i : Nat}, l.length ≤ f → i < l.length → (turnsB i l.length).length = (pathN f l i).length ∧ foldK (l.getD i []) (turnsB i l.length) (pathN f l i) (pathN f l i).length = rootB l
  | 0, l, i, h, hi => by omega
  | f + 1, l, i, h, hi => by
    by_cases h1 : 1 < l.length
    · have hlt := halfN_lt (n := l.length) (by omega)
      have hp := halfN_pos l.length
      rw [turnsB_step h1 hi, pathN, if_pos h1, rootB_many h1]
      have ht : (l.take (halfN l.length)).length = halfN l.length := by rw [List.length_take]; omega
      have hd : (l.drop (halfN l.length)).length = l.length - halfN l.length := List.length_drop
      by_cases hc : halfN l.length ≤ i
      · obtain ⟨e1, e2⟩ := fold_path f (l := l.drop (halfN l.length)) (i := i - halfN l.length) (by omega) (by omega)
        rw [hd] at e1 e2
        rw [if_pos hc, if_pos hc, decide_eq_true hc]
        have hg : (l.drop (halfN l.length)).getD (i - halfN l.length) [] = l.getD i [] := by
          rw [List.getD_eq_getElem?_getD, List.getD_eq_getElem?_getD, List.getElem?_drop, show halfN l.length + (i - halfN l.length) = i by omega]
        rw [hg] at e2
        refine ⟨by simp [e1], ?_⟩
        rw [foldK_step (by simp [e1]), if_pos rfl, e1, List.take_left', getD_last]
        · rw [e2]
        · rfl
      · obtain ⟨e1, e2⟩ := fold_path f (l := l.take (halfN l.length)) (i := i) (by omega) (by omega)
        rw [ht] at e1 e2
        rw [if_neg hc, if_neg hc, decide_eq_false hc]
        have hg : (l.take (halfN l.length)).getD i [] = l.getD i [] := by
          rw [List.getD_eq_getElem?_getD, List.getD_eq_getElem?_getD, List.getElem?_take, if_pos (by omega)]
        rw [hg] at e2
        refine ⟨by simp [e1], ?_⟩
        rw [foldK_step (by simp [e1]), if_neg (by decide), e1, List.take_left', getD_last]
        · rw [e2]
        · rfl
    · have h2 : l.length = 1 := by omega
      obtain rfl : i = 0 := by omega
      rw [pathN, if_neg h1, h2, turnsB_one, rootB_one h2]
      exact ⟨rfl, rfl⟩
theorem foldB_path {l : List Bytes} {i : Nat} (hi : i < l.length) : foldB (l.getD i []) i l.length (pathB l i) = (rootB l, 0) := by
  obtain ⟨e1, e2⟩ := fold_path l.length (Nat.le_refl _) hi
  unfold foldB pathB
  rw [if_neg (by omega), if_neg (by simp [e1]), e2]
theorem pathN_fuel : ∀ {f g : Nat} {l : List Bytes} {i : Nat}, l.length ≤ f → l.length ≤ g → i < l.length → pathN f l i = pathN g l i
  | 0, g, l, i, hf, hg, hi => by omega
  | f + 1, 0, l, i, hf, hg, hi => by omega
  | f + 1, g + 1, l, i, hf, hg, hi => by
    rw [pathN, pathN]
    by_cases h : 1 < l.length
    · rw [if_pos h, if_pos h]
      have hp := halfN_pos l.length
      have hlt := halfN_lt (n := l.length) (by omega)
      have ht : (l.take (halfN l.length)).length = halfN l.length := by rw [List.length_take]; omega
      have hd : (l.drop (halfN l.length)).length = l.length - halfN l.length := List.length_drop
      by_cases hc : halfN l.length ≤ i
      · rw [if_pos hc, if_pos hc, pathN_fuel (f := f) (g := g) (by omega) (by omega) (by omega)]
      · rw [if_neg hc, if_neg hc, pathN_fuel (f := f) (g := g) (by omega) (by omega) (by omega)]
    · rw [if_neg h, if_neg h]
theorem pathB_one {l : List Bytes} {i : Nat} (h : l.length = 1) : pathB l i = [] := by
  rw [pathB, h, pathN, if_neg (by omega)]
theorem pathB_step {l : List Bytes} {i : Nat} (h : 1 < l.length) (hi : i < l.length) : pathB l i = if halfN l.length ≤ i then pathB (l.drop (halfN l.length)) (i - halfN l.length) ++ [rootB (l.take (halfN l.length))] else pathB (l.take (halfN l.length)) i ++ [rootB (l.drop (halfN l.length))] := by
  have hp := halfN_pos l.length
  have hlt := halfN_lt (n := l.length) (by omega)
  have ht : (l.take (halfN l.length)).length = halfN l.length := by rw [List.length_take]; omega
  have hd : (l.drop (halfN l.length)).length = l.length - halfN l.length := List.length_drop
  obtain ⟨f, hf⟩ : ∃ f, l.length = f + 1 := ⟨l.length - 1, by omega⟩
  have e : pathB l i = pathN (f + 1) l i := by rw [pathB, hf]
  rw [e, pathN, if_pos h]
  by_cases hc : halfN l.length ≤ i
  · rw [if_pos hc, if_pos hc, pathB, pathN_fuel (f := f) (g := (l.drop (halfN l.length)).length) (by omega) (by omega) (by omega)]
  · rw [if_neg hc, if_neg hc, pathB, pathN_fuel (f := f) (g := (l.take (halfN l.length)).length) (by omega) (by omega) (by omega)]
theorem pathN_len : ∀ (d f : Nat) {l : List Bytes} {i : Nat}, l.length ≤ 2 ^ d → (pathN f l i).length ≤ d
  | d, 0, l, i, h => by rw [pathN]; exact Nat.zero_le _
  | 0, f + 1, l, i, h => by
    rw [pathN, if_neg (by simpa using h)]
    exact Nat.zero_le _
  | d + 1, f + 1, l, i, h => by
    rw [pathN]
    by_cases h1 : 1 < l.length
    · rw [if_pos h1]
      have h2 := halfN_two (n := l.length) (by omega)
      have hlt := halfN_lt (n := l.length) (by omega)
      have hh : halfN l.length ≤ 2 ^ d := by
        unfold halfN
        refine Nat.pow_le_pow_right (by decide) ?_
        have h3 : Nat.log2 (l.length - 1) < d + 1 := (Nat.log2_lt (by omega)).2 (by omega)
        omega
      have ht : (l.take (halfN l.length)).length = halfN l.length := by rw [List.length_take]; omega
      have hd : (l.drop (halfN l.length)).length = l.length - halfN l.length := List.length_drop
      split
      · have := pathN_len d f (l := l.drop (halfN l.length)) (i := i - halfN l.length) (by omega)
        rw [List.length_append]
        simpa using this
      · have := pathN_len d f (l := l.take (halfN l.length)) (i := i) (by omega)
        rw [List.length_append]
        simpa using this
    · rw [if_neg h1]
      exact Nat.zero_le _
theorem pathN_32 : ∀ (f : Nat) {l : List Bytes} {i : Nat}, (∀ x ∈ l, x.length = 32) → ∀ x ∈ pathN f l i, x.length = 32
  | 0, l, i, h, x, hx => by rw [pathN] at hx; cases hx
  | f + 1, l, i, h, x, hx => by
    rw [pathN] at hx
    split at hx
    · split at hx
      · rcases List.mem_append.1 hx with hx | hx
        · exact pathN_32 f (fun y hy => h y (List.mem_of_mem_drop hy)) x hx
        · rw [List.mem_singleton.1 hx]
          exact rootB_len _ rfl fun y hy => h y (List.mem_of_mem_take hy)
      · rcases List.mem_append.1 hx with hx | hx
        · exact pathN_32 f (fun y hy => h y (List.mem_of_mem_take hy)) x hx
        · rw [List.mem_singleton.1 hx]
          exact rootB_len _ rfl fun y hy => h y (List.mem_of_mem_drop hy)
    · cases hx
/-! ### a signature as bytes -/
def sigB (leaf : Nat) (chain : Bytes) (path : List Bytes) : Bytes := encU leaf ++ (encB chain ++ (encU path.length ++ path.flatten))
theorem readK_sig {leaf : Nat} {chain : Bytes} {path : List Bytes} (hl : leaf ≤ 1023) (hc : chain.length ≤ 4096) (hp : path.length ≤ 10) (h32 : ∀ x ∈ path, x.length = 32) : readK (sigB leaf chain path) = (⟨leaf, chain, path⟩, 0) := by
  have e1 : rU 1023 (some (sigB leaf chain path)) = (some (encB chain ++ (encU path.length ++ path.flatten)), leaf) := rU_enc (by omega) hl _
  have e2 : rB 4096 (some (encB chain ++ (encU path.length ++ path.flatten))) = (some (encU path.length ++ path.flatten), chain) := rB_enc hc (by omega) _
  have e3 : rU 10 (some (encU path.length ++ path.flatten)) = (some path.flatten, path.length) := rU_enc (by omega) hp _
  have e4 : gList rH path.length (some path.flatten) = (some [], path) := by
    have := gList_enc (g := rH) (f := id) (l := path) (fun x hx r => rH_enc (h32 x hx) r) [] path.length (Nat.le_refl _)
    simpa using this
  unfold readK
  have eg : gSign (some (sigB leaf chain path)) = (some [], ⟨leaf, chain, path⟩) := by
    unfold gSign
    rw [e1]
    dsimp only
    rw [e2]
    dsimp only
    rw [e3]
    dsimp only
    rw [e4]
  rw [eg, if_pos rfl]
def leavesB (seed : Bytes) (n k : Nat) : List Bytes := (List.range k).map fun i => publicB seed i n
theorem leavesB_len (seed : Bytes) (n k : Nat) : (leavesB seed n k).length = k := by simp [leavesB]
theorem leavesB_32 (seed : Bytes) (n k : Nat) : ∀ x ∈ leavesB seed n k, x.length = 32 := fun x hx => by
  obtain ⟨i, _, rfl⟩ := List.mem_map.1 hx
  exact shaB_len _
theorem leavesB_at {seed : Bytes} {n k i : Nat} (h : i < k) : (leavesB seed n k).getD i [] = publicB seed i n := by
  rw [List.getD_eq_getElem?_getD, List.getElem?_eq_getElem (by rw [leavesB_len]; exact h)]
  simp [leavesB]
def rootK (seed : Bytes) (dg dp : Int) : Bytes := rootB (leavesB seed dg.toNat (2 ^ dp.toNat))
def signK (seed : Bytes) (dg dp : Int) (leaf : Nat) (text : Bytes) : Bytes := sigB leaf (signW seed leaf (digestB text dg.toNat)) (pathB (leavesB seed dg.toNat (2 ^ dp.toNat)) leaf)
theorem kCheck_ok {dg dp : Int} (h : kCheck dg dp = 0) : 1 ≤ dg ∧ dg ≤ 32 ∧ 0 ≤ dp ∧ dp ≤ 10 := by
  unfold kCheck at h
  split at h
  · cases h
  · omega
theorem pow_small {dp : Int} (h0 : 0 ≤ dp) (h1 : dp ≤ 10) : 2 ^ dp.toNat ≤ 1024 := by
  have : 2 ^ dp.toNat ≤ 2 ^ 10 := Nat.pow_le_pow_right (by decide) (by omega)
  simpa using this
theorem digestB_len {text : Bytes} {n : Nat} (h : n ≤ 32) : (digestB text n).length = n := by
  rw [digestB, List.length_take, shaB_len]
  omega
theorem readK_sign {seed text : Bytes} {dg dp : Int} {leaf : Nat} (h : kCheck dg dp = 0) (hl : leaf < 2 ^ dp.toNat) :
    readK (signK seed dg dp leaf text) = (⟨leaf, signW seed leaf (digestB text dg.toNat), pathB (leavesB seed dg.toNat (2 ^ dp.toNat)) leaf⟩, 0) := by
  obtain ⟨h1, h2, h3, h4⟩ := kCheck_ok h
  have hp := pow_small h3 h4
  refine readK_sig (by omega) ?_ ?_ (pathN_32 _ (leavesB_32 _ _ _))
  · rw [signW, chainsB_len, digestB_len (by omega)]
    omega
  · have := pathN_len dp.toNat (leavesB seed dg.toNat (2 ^ dp.toNat)).length (l := leavesB seed dg.toNat (2 ^ dp.toNat)) (i := leaf) (by rw [leavesB_len]; exact Nat.le_refl _)
    exact Nat.le_trans this (by omega)
/-- what the signature's parts fold to -/
theorem verify_sign {seed text root : Bytes} {dg dp : Int} {leaf : Nat} (h : kCheck dg dp = 0) (hl : leaf < 2 ^ dp.toNat) : verifyK root dg dp text (signK seed dg dp leaf text) = if rootK seed dg dp = root then 0 else 21 := by
  obtain ⟨h1, h2, h3, h4⟩ := kCheck_ok h
  have hp := pow_small h3 h4
  have hdl := digestB_len (text := text) (n := dg.toNat) (by omega)
  unfold verifyK
  rw [if_neg (by rw [h]; simp), readK_sign h hl, if_neg (by simp)]
  dsimp only
  rw [from_sign (by omega) (by omega) (by omega), if_neg (by simp), hdl]
  have hf := foldB_path (l := leavesB seed dg.toNat (2 ^ dp.toNat)) (i := leaf) (by rw [leavesB_len]; exact hl)
  rw [leavesB_len, leavesB_at hl] at hf
  rw [hf]
  dsimp only
  unfold rootK
  by_cases hr : rootB (leavesB seed dg.toNat (2 ^ dp.toNat)) = root
  · rw [if_pos hr, if_neg (by simp [hr])]
  · rw [if_neg hr, if_pos (.inr hr)]
end Go.Proofs.YtbbmgkbinnomgaaGreatDoor
