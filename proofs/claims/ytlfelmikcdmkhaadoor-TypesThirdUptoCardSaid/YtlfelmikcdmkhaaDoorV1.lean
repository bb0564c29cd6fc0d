/- Commits counted: the power of those that signed. -/
import Derived.Test.YtlfelmikcdmkhaaDoorY5
set_option linter.unusedVariables false
set_option linter.unusedSimpArgs false
set_option linter.unusedSectionVars false
namespace Go.Proofs.YtlfelmikcdmkhaaDoor
open Go Go.Isk Go.RowKit
/-- a sum -/
def Sf (f : Nat → Int) : Nat → Int
  | 0 => 0
  | n + 1 => Sf f n + f n
theorem Sf_add (f g : Nat → Int) : ∀ n, Sf (fun i => f i + g i) n = Sf f n + Sf g n
  | 0 => rfl
  | n + 1 => by simp only [Sf, Sf_add f g n]; omega
theorem Sf_le {f g : Nat → Int} : ∀ n, (∀ i, i < n → f i ≤ g i) → Sf f n ≤ Sf g n
  | 0, _ => Int.le_refl _
  | n + 1, h => by
    have h1 := Sf_le n fun i hi => h i (by omega)
    have h2 := h n (by omega)
    simp only [Sf]; omega
theorem Sf_congr {f g : Nat → Int} (n : Nat) (h : ∀ i, i < n → f i = g i) : Sf f n = Sf g n :=
  Int.le_antisymm (Sf_le n fun i hi => Int.le_of_eq (h i hi)) (Sf_le n fun i hi => Int.le_of_eq (h i hi).symm)
theorem Sf_zero : ∀ n, Sf (fun _ => 0) n = 0
  | 0 => rfl
  | n + 1 => by simp only [Sf, Sf_zero n]; rfl
theorem Sf_one (c : Int) (k : Nat) : ∀ n, Sf (fun i => if i = k then c else 0) n = if k < n then c else 0
  | 0 => rfl
  | n + 1 => by
    simp only [Sf, Sf_one c k n]
    by_cases h : n = k
    · subst h; simp
    · by_cases h2 : k < n
      · rw [if_pos h2, if_neg h, if_pos (by omega)]; omega
      · rw [if_neg h2, if_neg h, if_neg (by omega)]; rfl
theorem Sf_mono {f : Nat → Int} {m n : Nat} (hmn : m ≤ n) (h : ∀ i, 0 ≤ f i) : Sf f m ≤ Sf f n := by
  induction n with
  | zero => obtain rfl : m = 0 := by omega
            exact Int.le_refl _
  | succ n ih =>
    rcases Nat.lt_or_ge n m with h1 | h1
    · obtain rfl : m = n + 1 := by omega
      exact Int.le_refl _
    · have := ih h1
      have := h n
      simp only [Sf]; omega
theorem Sf_nonneg {f : Nat → Int} (h : ∀ i, 0 ≤ f i) (n : Nat) : 0 ≤ Sf f n := Sf_mono (m := 0) (Nat.zero_le _) h
/-- the power of the i-th -/
def pwr (l : List Validator) (i : Nat) : Int := match l[i]? with | some x => x.power | none => 0
theorem powerOf_pwr (l : List Validator) (i : Int) : powerOf l i = pwr l i.toNat := rfl
def hasV (vs : List Vote) (i : Nat) : Bool := vs.any fun v => decide (v.validator = (i : Int))
/-- the votes are by validators below n, one above the other -/
def Asc (n : Nat) : Int → List Vote → Prop
  | _, [] => True
  | last, v :: r => last < v.validator ∧ v.validator < n ∧ Asc n v.validator r
theorem Asc.above {n : Nat} : ∀ {vs : List Vote} {last : Int}, Asc n last vs → ∀ v ∈ vs, last < v.validator
  | u :: r, last, h, v, hv => by
    rcases List.mem_cons.1 hv with rfl | hv
    · exact h.1
    · have := Asc.above h.2.2 v hv
      have := h.1
      omega
theorem hasV_below {n : Nat} {vs : List Vote} {last : Int} (h : Asc n last vs) {i : Nat} (hi : (i : Int) ≤ last) : hasV vs i = false := by
  unfold hasV
  rw [List.any_eq_false]
  intro v hv
  have := h.above v hv
  simp; omega
def sumV (f : Nat → Int) : List Vote → Int
  | [] => 0
  | v :: r => f v.validator.toNat + sumV f r
theorem sumV_eq (f : Nat → Int) {n : Nat} : ∀ {vs : List Vote} {last : Int}, -1 ≤ last → Asc n last vs → sumV f vs = Sf (fun i => if hasV vs i = true then f i else 0) n
  | [], _, _, _ => by
    simp only [sumV, hasV, List.any_nil, Bool.false_eq_true, if_false]
    exact (Sf_zero n).symm
  | v :: r, last, hl, h => by
    obtain ⟨h1, h2, h3⟩ := h
    have hv : v.validator = (v.validator.toNat : Int) := by omega
    rw [sumV, sumV_eq f (by omega) h3]
    have h4 := Sf_one (f v.validator.toNat) v.validator.toNat n
    rw [if_pos (by omega)] at h4
    have h7 : Sf (fun i => if i = v.validator.toNat then f v.validator.toNat else 0) n + Sf (fun i => if hasV r i = true then f i else 0) n = Sf (fun i => if hasV (v :: r) i = true then f i else 0) n := by
      rw [← Sf_add]
      refine Sf_congr n fun i hi => ?_
      have e : hasV (v :: r) i = (decide (v.validator = (i : Int)) || hasV r i) := rfl
      rw [e]
      by_cases hi2 : i = v.validator.toNat
      · subst hi2
        have h5 := hasV_below h3 (i := v.validator.toNat) (by omega)
        rw [h5, Bool.or_false, if_pos rfl, if_neg (by decide), if_pos (decide_eq_true hv)]
        omega
      · rw [if_neg hi2]
        have h6 : decide (v.validator = (i : Int)) = false := decide_eq_false (by omega)
        rw [h6]
        simp
    rw [h4] at h7
    exact h7
theorem sumV_nonneg {f : Nat → Int} (hf : ∀ i, 0 ≤ f i) : ∀ vs, 0 ≤ sumV f vs
  | [] => Int.le_refl _
  | v :: r => by have := sumV_nonneg hf r; have := hf v.validator.toNat; simp only [sumV]; omega
/-- what a set's power is -/
theorem set_power {l : List Validator} (h : checkSet l = 0) : (∀ i, 0 ≤ pwr l i) ∧ total l = Sf (pwr l) l.length ∧ 0 < Sf (pwr l) l.length ∧ Sf (pwr l) l.length ≤ 1099511627776 ∧ l.length ≤ 32 := by
  unfold checkSet at h
  split at h
  · cases h
  rename_i hlen
  have hs : (setLeft l l.length).isSome := by
    cases hq : (setLeft l l.length).isSome with
    | true => rfl
    | false => rw [hq] at h; cases h
  have key : ∀ i, i ≤ l.length → ∃ left, setLeft l i = some left ∧ left = 1099511627776 - Sf (pwr l) i ∧ (∀ j, j < i → 1 ≤ pwr l j) ∧ total (l.take i) = Sf (pwr l) i := by
    intro i
    induction i with
    | zero => intro _; exact ⟨_, rfl, rfl, fun j hj => by omega, rfl⟩
    | succ i ih =>
      intro hi
      obtain ⟨left, h1, h2, h3, h4⟩ := ih (by omega)
      have hi' : i < l.length := by omega
      have hne : setLeft l (i + 1) ≠ none := fun e => by rw [setLeft_none e _ hi] at hs; cases hs
      have he : setLeft l (i + 1) = if namedB l[i].name = false ∨ (l.take i).any (fun x => decide (x.name = l[i].name)) = true ∨ l[i].power < 1 ∨ left < l[i].power then none else some (left - l[i].power) := by
        conv => lhs; unfold setLeft
        rw [h1, Option.bind_some, List.getElem?_eq_getElem hi']
      have hp : pwr l i = l[i].power := by unfold pwr; rw [List.getElem?_eq_getElem hi']
      rw [he] at hne
      split at hne
      · exact absurd rfl hne
      · rename_i hc
        rw [if_neg hc] at he
        have hle := setLeft_le h1
        refine ⟨_, he, by simp only [Sf, hp]; omega, fun j hj => ?_, ?_⟩
        · rcases Nat.lt_or_ge j i with hj | hj
          · exact h3 j hj
          · obtain rfl : j = i := by omega
            rw [hp]; omega
        · rw [total] at h4 ⊢
          rw [foldl_take _ _ hi', h4, i64_wrap (by omega) (by omega)]
          simp only [Sf, hp]
  obtain ⟨left, h1, h2, h3, h4⟩ := key l.length (Nat.le_refl _)
  have hle := setLeft_le h1
  have hnn : ∀ i, 0 ≤ pwr l i := fun i => by
    by_cases hi : i < l.length
    · have := h3 i hi; omega
    · unfold pwr; rw [List.getElem?_eq_none (by omega)]; exact Int.le_refl _
  rw [List.take_length] at h4
  refine ⟨hnn, h4, ?_, by omega, by omega⟩
  have h5 : Sf (pwr l) 1 ≤ Sf (pwr l) l.length := Sf_mono (by omega) hnn
  have h6 := h3 0 (by omega)
  simp only [Sf] at h5
  omega
theorem cvGo_ok {chain : Bytes} {l : List Validator} {dg dp : Int} {c : Commit} (hp : ∀ i, 0 ≤ pwr l i) (hb : Sf (pwr l) l.length ≤ 1099511627776) :
    ∀ {vs : List Vote} {last pw : Int}, -1 ≤ last → 0 ≤ pw → pw ≤ Sf (pwr l) (last + 1).toNat → pw ≤ Sf (pwr l) l.length → (cvGo chain l dg dp c vs last pw).1 = 0 → Asc l.length last vs ∧ (cvGo chain l dg dp c vs last pw).2 = pw + sumV (pwr l) vs
  | [], last, pw, _, _, _, _, _ => ⟨trivial, by simp [cvGo, sumV]⟩
  | v :: r, last, pw, h0, h1, h2, h3, h => by
    rw [cvGo] at h ⊢
    split at h
    · cases h
    rename_i hc
    rw [if_neg hc]
    split at h
    · rename_i hv; exact absurd h hv
    rename_i hv
    rw [if_neg hv]
    have hv0 : verifyVote chain l dg dp v = 0 := Classical.not_not.1 hv
    have hvb : ¬ voteBad l.length v := fun hb => by rw [verifyVote, if_pos hb] at hv0; cases hv0
    have hlt : 0 ≤ v.validator ∧ v.validator < l.length := by unfold voteBad at hvb; omega
    have hla : last < v.validator := by unfold cvBad at hc; omega
    have e1 : (v.validator + 1).toNat = v.validator.toNat + 1 := by omega
    have e2 : Sf (pwr l) (v.validator + 1).toNat = Sf (pwr l) v.validator.toNat + pwr l v.validator.toNat := by rw [e1]; rfl
    have e3 : Sf (pwr l) (last + 1).toNat ≤ Sf (pwr l) v.validator.toNat := Sf_mono (by omega) hp
    have e4 : Sf (pwr l) (v.validator + 1).toNat ≤ Sf (pwr l) l.length := Sf_mono (by omega) hp
    have e5 := hp v.validator.toNat
    rw [powerOf_pwr] at h ⊢
    rw [i64_wrap (by omega) (by omega)] at h ⊢
    obtain ⟨q1, q2⟩ := cvGo_ok hp hb (by omega) (by omega) (by omega) (by omega) h
    refine ⟨⟨hla, hlt.2, q1⟩, ?_⟩
    rw [q2, sumV]
    omega
/-- what a commit of a set's shows -/
theorem commit_ok {chain : Bytes} {l : List Validator} {dg dp : Int} {c : Commit} (h : verifyCommit chain l dg dp c = 0) :
    checkSet l = 0 ∧ Asc l.length (-1) c.votes ∧ 2 * Sf (pwr l) l.length < 3 * sumV (pwr l) c.votes ∧ sumV (pwr l) c.votes ≤ Sf (pwr l) l.length := by
  unfold verifyCommit at h
  split at h
  · rename_i hc; exact absurd h hc
  rename_i hc
  have hset : checkSet l = 0 := Classical.not_not.1 hc
  obtain ⟨p1, p2, p3, p4, p5⟩ := set_power hset
  split at h
  · cases h
  split at h
  · rename_i hq; exact absurd h hq
  rename_i hq
  obtain ⟨q1, q2⟩ := cvGo_ok (c := c) (dg := dg) (dp := dp) (chain := chain) p1 p4 (vs := c.votes) (last := -1) (pw := 0) (by omega) (by omega) (by simp [Sf]) (by omega) (Classical.not_not.1 hq)
  rw [q2, p2] at h
  have hle : sumV (pwr l) c.votes ≤ Sf (pwr l) l.length := by
    rw [sumV_eq _ (by omega) q1]
    refine Sf_le _ fun i _ => ?_
    split
    · exact Int.le_refl _
    · exact p1 i
  have hnn := sumV_nonneg p1 c.votes
  rw [i64_wrap (by omega) (by omega), i64_wrap (by omega) (by omega)] at h
  split at h
  · cases h
  · exact ⟨hset, q1, by omega, hle⟩
/-- the power of those that are in both -/
def thirdIn (l : List Validator) (u : Int) (p : Int) (vs : List Vote) : Int := vs.foldl (fun p v => if u = v.validator ∧ 0 ≤ u ∧ u < l.length then IntKind.i64.wrap (p + powerOf l u) else p) p
def third (l : List Validator) (xs ys : List Vote) : Int := xs.foldl (fun p u => thirdIn l u.validator p ys) 0
theorem thirdIn_no {l : List Validator} {u : Int} : ∀ {vs : List Vote} {p : Int}, (∀ v ∈ vs, u ≠ v.validator) → thirdIn l u p vs = p
  | [], _, _ => rfl
  | v :: r, p, h => by
    rw [thirdIn, List.foldl_cons, if_neg fun hq => h v (by simp) hq.1]
    exact thirdIn_no fun x hx => h x (by simp [hx])
theorem thirdIn_eq {l : List Validator} {u : Nat} (hu : u < l.length) : ∀ {vs : List Vote} {last p : Int}, Asc l.length last vs → thirdIn l u p vs = if hasV vs u = true then IntKind.i64.wrap (p + pwr l u) else p
  | [], _, _, _ => rfl
  | v :: r, last, p, h => by
    obtain ⟨h1, h2, h3⟩ := h
    have e : hasV (v :: r) u = (decide (v.validator = (u : Int)) || hasV r u) := rfl
    rw [thirdIn, List.foldl_cons, e]
    by_cases hv : v.validator = (u : Int)
    · rw [if_pos ⟨hv.symm, by omega, by omega⟩, decide_eq_true hv, Bool.true_or, if_pos rfl]
      have := thirdIn_no (l := l) (u := (u : Int)) (vs := r) (p := IntKind.i64.wrap (p + powerOf l u)) fun x hx => by have := h3.above x hx; omega
      rw [thirdIn] at this
      rw [this]; rfl
    · rw [if_neg fun hq => hv hq.1.symm, decide_eq_false hv, Bool.false_or]
      exact thirdIn_eq hu h3
theorem third_go {l : List Validator} {ys : List Vote} (hp : ∀ i, 0 ≤ pwr l i) (hb : Sf (pwr l) l.length ≤ 1099511627776) (hy : Asc l.length (-1) ys) :
    ∀ {xs : List Vote} {last p : Int}, -1 ≤ last → Asc l.length last xs → 0 ≤ p → p ≤ Sf (pwr l) (last + 1).toNat → xs.foldl (fun p u => thirdIn l u.validator p ys) p = p + sumV (fun i => if hasV ys i = true then pwr l i else 0) xs
  | [], _, p, _, _, _, _ => by simp [sumV]
  | v :: r, last, p, h0, h, h1, h2 => by
    obtain ⟨h3, h4, h5⟩ := h
    have hv : v.validator = (v.validator.toNat : Int) := by omega
    have hlt : v.validator.toNat < l.length := by omega
    have e1 : (v.validator + 1).toNat = v.validator.toNat + 1 := by omega
    have e2 : Sf (pwr l) (v.validator + 1).toNat = Sf (pwr l) v.validator.toNat + pwr l v.validator.toNat := by rw [e1]; rfl
    have e3 : Sf (pwr l) (last + 1).toNat ≤ Sf (pwr l) v.validator.toNat := Sf_mono (by omega) hp
    have e4 : Sf (pwr l) (v.validator + 1).toNat ≤ Sf (pwr l) l.length := Sf_mono (by omega) hp
    have e5 := hp v.validator.toNat
    have e6 : thirdIn l v.validator p ys = p + if hasV ys v.validator.toNat = true then pwr l v.validator.toNat else 0 := by
      rw [hv, thirdIn_eq hlt hy]
      simp only [Int.toNat_natCast]
      split
      · rw [i64_wrap (by omega) (by omega)]
      · omega
    rw [List.foldl_cons, e6, sumV]
    rw [third_go hp hb hy (last := v.validator) (by omega) h5 (by split <;> omega) (by split <;> omega)]
    omega
theorem third_ok {chain : Bytes} {l : List Validator} {dg dp : Int} {x y : Commit} (hx : verifyCommit chain l dg dp x = 0) (hy : verifyCommit chain l dg dp y = 0) : total l < IntKind.i64.wrap (3 * third l x.votes y.votes) := by
  obtain ⟨a1, a2, a3, a4⟩ := commit_ok hx
  obtain ⟨_, b2, b3, b4⟩ := commit_ok hy
  obtain ⟨p1, p2, p3, p4, p5⟩ := set_power a1
  have h1 : third l x.votes y.votes = 0 + sumV (fun i => if hasV y.votes i = true then pwr l i else 0) x.votes := third_go p1 p4 b2 (by omega) a2 (by omega) (by simp [Sf])
  rw [sumV_eq _ (by omega) a2] at h1 a3
  rw [sumV_eq _ (by omega) b2] at b3
  have h2 : Sf (fun i => if hasV x.votes i = true then if hasV y.votes i = true then pwr l i else 0 else 0) l.length ≤ Sf (pwr l) l.length := by
    refine Sf_le _ fun i _ => ?_
    have := p1 i
    repeat' split
    all_goals omega
  have h3 : Sf (fun i => (if hasV x.votes i = true then pwr l i else 0) + (if hasV y.votes i = true then pwr l i else 0)) l.length ≤ Sf (fun i => (if hasV x.votes i = true then if hasV y.votes i = true then pwr l i else 0 else 0) + pwr l i) l.length := by
    refine Sf_le _ fun i _ => ?_
    have := p1 i
    repeat' split
    all_goals omega
  rw [Sf_add, Sf_add] at h3
  have h4 : 0 ≤ Sf (fun i => if hasV x.votes i = true then if hasV y.votes i = true then pwr l i else 0 else 0) l.length := Sf_nonneg (fun i => by have := p1 i; repeat' split; all_goals omega) _
  rw [i64_wrap (by omega) (by omega), p2]
  omega
end Go.Proofs.YtlfelmikcdmkhaaDoor
