/- Commits counted: the power of those that signed. -/
import Derived.Test.YtlfelmikcdmkhaaDoorY5
import Derived.Test.YtlfelmikcdmkhaaDoorKP
set_option linter.unusedVariables false
set_option linter.unusedSimpArgs false
set_option linter.unusedSectionVars false
namespace Go.Proofs.YtlfelmikcdmkhaaDoor
open Go Go.Isk Go.RowKit
/-- a sum -/
def Sf (f : Nat → Int) : Nat → Int
  | 0 => 0
  | n + 1 => Sf f n + f n
theorem Sf_add (f g : Nat → Int) : ∀ n, Sf (fun i => f i + g i) n = Sf f n + Sf g n
  | 0 => rfl
  | n + 1 => by simp only [Sf, Sf_add f g n]; omega
theorem Sf_le {f g : Nat → Int} : ∀ n, (∀ i, i < n → f i ≤ g i) → Sf f n ≤ Sf g n
  | 0, _ => Int.le_refl _
  | n + 1, h => by
    have h1 := Sf_le n fun i hi => h i (by omega)
    have h2 := h n (by omega)
    simp only [Sf]; omega
theorem Sf_congr {f g : Nat → Int} (n : Nat) (h : ∀ i, i < n → f i = g i) : Sf f n = Sf g n :=
  Int.le_antisymm (Sf_le n fun i hi => Int.le_of_eq (h i hi)) (Sf_le n fun i hi => Int.le_of_eq (h i hi).symm)
theorem Sf_zero : ∀ n, Sf (fun _ => 0) n = 0
  | 0 => rfl
  | n + 1 => by simp only [Sf, Sf_zero n]; rfl
theorem Sf_one (c : Int) (k : Nat) : ∀ n, Sf (fun i => if i = k then c else 0) n = if k < n then c else 0
  | 0 => rfl
  | n + 1 => by
    simp only [Sf, Sf_one c k n]
    by_cases h : n = k
    · subst h; simp
    · by_cases h2 : k < n
      · rw [if_pos h2, if_neg h, if_pos (by omega)]; omega
      · rw [if_neg h2, if_neg h, if_neg (by omega)]; rfl
theorem Sf_mono {f : Nat → Int} {m n : Nat} (hmn : m ≤ n) (h : ∀ i, 0 ≤ f i) : Sf f m ≤ Sf f n := by
  induction n with
  | zero => obtain rfl : m = 0 := by omega
            exact Int.le_refl _
  | succ n ih =>
    rcases Nat.lt_or_ge n m with h1 | h1
    · obtain rfl : m = n + 1 := by omega
      exact Int.le_refl _
    · have := ih h1
      have := h n
      simp only [Sf]; omega
theorem Sf_nonneg {f : Nat → Int} (h : ∀ i, 0 ≤ f i) (n : Nat) : 0 ≤ Sf f n := Sf_mono (m := 0) (Nat.zero_le _) h
/-- the power of the i-th -/
def pwr (l : List Validator) (i : Nat) : Int := match l[i]? with | some x => x.power | none => 0
theorem powerOf_pwr (l : List Validator) (i : Int) : powerOf l i = pwr l i.toNat := rfl
def hasV (vs : List Vote) (i : Nat) : Bool := vs.any fun v => decide (v.validator = (i : Int))
/-- the votes are by validators below n, one above the other -/
def Asc (n : Nat) : Int → List Vote → Prop
  | _, [] => True
  | last, v :: r => last < v.validator ∧ v.validator < n ∧ Asc n v.validator r
theorem Asc.above {n : Nat} : ∀ {vs : List Vote} {last : Int}, Asc n last vs → ∀ v ∈ vs, last < v.validator
  | u :: r, last, h, v, hv => by
    rcases List.mem_cons.1 hv with rfl | hv
    · exact h.1
    · have := Asc.above h.2.2 v hv
      have := h.1
      omega
theorem hasV_below {n : Nat} {vs : List Vote} {last : Int} (h : Asc n last vs) {i : Nat} (hi : (i : Int) ≤ last) : hasV vs i = false := by
  unfold hasV
  rw [List.any_eq_false]
  intro v hv
  have := h.above v hv
  simp; omega
def sumV (f : Nat → Int) : List Vote → Int
  | [] => 0
  | v :: r => f v.validator.toNat + sumV f r
theorem sumV_eq (f : Nat → Int) {n : Nat} : ∀ {vs : List Vote} {last : Int}, -1 ≤ last → Asc n last vs → sumV f vs = Sf (fun i => if hasV vs i = true then f i else 0) n
  | [], _, _, _ => by
    simp only [sumV, hasV, List.any_nil, Bool.false_eq_true, if_false]
    exact (Sf_zero n).symm
  | v :: r, last, hl, h => by
    obtain ⟨h1, h2, h3⟩ := h
    have hv : v.validator = (v.validator.toNat : Int) := by omega
    rw [sumV, sumV_eq f (by omega) h3]
    have h4 := Sf_one (f v.validator.toNat) v.validator.toNat n
    rw [if_pos (by omega)] at h4
    have h7 : Sf (fun i => if i = v.validator.toNat then f v.validator.toNat else 0) n + Sf (fun i => if hasV r i = true then f i else 0) n = Sf (fun i => if hasV (v :: r) i = true then f i else 0) n := by
      rw [← Sf_add]
      refine Sf_congr n fun i hi => ?_
      have e : hasV (v :: r) i = (decide (v.validator = (i : Int)) || hasV r i) := rfl
      rw [e]
      by_cases hi2 : i = v.validator.toNat
      · subst hi2
        have h5 := hasV_below h3 (i := v.validator.toNat) (by omega)
        rw [h5, Bool.or_false, if_pos rfl, if_neg (by decide), if_pos (decide_eq_true hv)]
        omega
      · rw [if_neg hi2]
        have h6 : decide (v.validator = (i : Int)) = false := decide_eq_false (by omega)
        rw [h6]
        simp
    rw [h4] at h7
    exact h7
theorem sumV_nonneg {f : Nat → Int} (hf : ∀ i, 0 ≤ f i) : ∀ vs, 0 ≤ sumV f vs
  | [] => Int.le_refl _
  | v :: r => by have := sumV_nonneg hf r; have := hf v.validator.toNat; simp only [sumV]; omega
/-- what a set's power is -/
theorem set_power {l : List Validator} (h : checkSet l = 0) : (∀ i, 0 ≤ pwr l i) ∧ total l = Sf (pwr l) l.length ∧ 0 < Sf (pwr l) l.length ∧ Sf (pwr l) l.length ≤ 1099511627776 ∧ l.length ≤ 32 := by
  unfold checkSet at h
  split at h
  · cases h
  rename_i hlen
  have hs : (setLeft l l.length).isSome := by
    cases hq : (setLeft l l.length).isSome with
    | true => rfl
    | false => rw [hq] at h; cases h
  have key : ∀ i, i ≤ l.length → ∃ left, setLeft l i = some left ∧ left = 1099511627776 - Sf (pwr l) i ∧ (∀ j, j < i → 1 ≤ pwr l j) ∧ total (l.take i) = Sf (pwr l) i := by
    intro i
    induction i with
    | zero => intro _; exact ⟨_, rfl, rfl, fun j hj => by omega, rfl⟩
    | succ i ih =>
      intro hi
      obtain ⟨left, h1, h2, h3, h4⟩ := ih (by omega)
      have hi' : i < l.length := by omega
      have hne : setLeft l (i + 1) ≠ none := fun e => by rw [setLeft_none e _ hi] at hs; cases hs
      have he : setLeft l (i + 1) = if namedB l[i].name = false ∨ (l.take i).any (fun x => decide (x.name = l[i].name)) = true ∨ l[i].power < 1 ∨ left < l[i].power then none else some (left - l[i].power) := by
        conv => lhs; unfold setLeft
        rw [h1, Option.bind_some, List.getElem?_eq_getElem hi']
      have hp : pwr l i = l[i].power := by unfold pwr; rw [List.getElem?_eq_getElem hi']
      rw [he] at hne
      split at hne
      · exact absurd rfl hne
      · rename_i hc
        rw [if_neg hc] at he
        have hle := setLeft_le h1
        refine ⟨_, he, by simp only [Sf, hp]; omega, fun j hj => ?_, ?_⟩
        · rcases Nat.lt_or_ge j i with hj | hj
          · exact h3 j hj
          · obtain rfl : j = i := by omega
            rw [hp]; omega
        · rw [total] at h4 ⊢
          rw [foldl_take _ _ hi', h4, i64_wrap (by omega) (by omega)]
          simp only [Sf, hp]
  obtain ⟨left, h1, h2, h3, h4⟩ := key l.length (Nat.le_refl _)
  have hle := setLeft_le h1
  have hnn : ∀ i, 0 ≤ pwr l i := fun i => by
    by_cases hi : i < l.length
    · have := h3 i hi; omega
    · unfold pwr; rw [List.getElem?_eq_none (by omega)]; exact Int.le_refl _
  rw [List.take_length] at h4
  refine ⟨hnn, h4, ?_, by omega, by omega⟩
  have h5 : Sf (pwr l) 1 ≤ Sf (pwr l) l.length := Sf_mono (by omega) hnn
  have h6 := h3 0 (by omega)
  simp only [Sf] at h5
  omega
theorem cvGo_ok {chain : Bytes} {l : List Validator} {dg dp : Int} {c : Commit} (hp : ∀ i, 0 ≤ pwr l i) (hb : Sf (pwr l) l.length ≤ 1099511627776) :
    ∀ {vs : List Vote} {last pw : Int}, -1 ≤ last → 0 ≤ pw → pw ≤ Sf (pwr l) (last + 1).toNat → pw ≤ Sf (pwr l) l.length → (cvGo chain l dg dp c vs last pw).1 = 0 → Asc l.length last vs ∧ (cvGo chain l dg dp c vs last pw).2 = pw + sumV (pwr l) vs
  | [], last, pw, _, _, _, _, _ => ⟨trivial, by simp [cvGo, sumV]⟩
  | v :: r, last, pw, h0, h1, h2, h3, h => by
    rw [cvGo] at h ⊢
    split at h
    · cases h
    rename_i hc
    rw [if_neg hc]
    split at h
    · rename_i hv; exact absurd h hv
    rename_i hv
    rw [if_neg hv]
    have hv0 : verifyVote chain l dg dp v = 0 := Classical.not_not.1 hv
    have hvb : ¬ voteBad l.length v := fun hb => by rw [verifyVote, if_pos hb] at hv0; cases hv0
    have hlt : 0 ≤ v.validator ∧ v.validator < l.length := by unfold voteBad at hvb; omega
    have hla : last < v.validator := by unfold cvBad at hc; omega
    have e1 : (v.validator + 1).toNat = v.validator.toNat + 1 := by omega
    have e2 : Sf (pwr l) (v.validator + 1).toNat = Sf (pwr l) v.validator.toNat + pwr l v.validator.toNat := by rw [e1]; rfl
    have e3 : Sf (pwr l) (last + 1).toNat ≤ Sf (pwr l) v.validator.toNat := Sf_mono (by omega) hp
    have e4 : Sf (pwr l) (v.validator + 1).toNat ≤ Sf (pwr l) l.length := Sf_mono (by omega) hp
    have e5 := hp v.validator.toNat
    rw [powerOf_pwr] at h ⊢
    rw [i64_wrap (by omega) (by omega)] at h ⊢
    obtain ⟨q1, q2⟩ := cvGo_ok hp hb (by omega) (by omega) (by omega) (by omega) h
    refine ⟨⟨hla, hlt.2, q1⟩, ?_⟩
    rw [q2, sumV]
    omega
/-- what a commit of a set's shows -/
theorem commit_ok {chain : Bytes} {l : List Validator} {dg dp : Int} {c : Commit} (h : verifyCommit chain l dg dp c = 0) :
    checkSet l = 0 ∧ Asc l.length (-1) c.votes ∧ 2 * Sf (pwr l) l.length < 3 * sumV (pwr l) c.votes ∧ sumV (pwr l) c.votes ≤ Sf (pwr l) l.length := by
  unfold verifyCommit at h
  split at h
  · rename_i hc; exact absurd h hc
  rename_i hc
  have hset : checkSet l = 0 := Classical.not_not.1 hc
  obtain ⟨p1, p2, p3, p4, p5⟩ := set_power hset
  split at h
  · cases h
  split at h
  · rename_i hq; exact absurd h hq
  rename_i hq
  obtain ⟨q1, q2⟩ := cvGo_ok (c := c) (dg := dg) (dp := dp) (chain := chain) p1 p4 (vs := c.votes) (last := -1) (pw := 0) (by omega) (by omega) (by simp [Sf]) (by omega) (Classical.not_not.1 hq)
  rw [q2, p2] at h
  have hle : sumV (pwr l) c.votes ≤ Sf (pwr l) l.length := by
    rw [sumV_eq _ (by omega) q1]
    refine Sf_le _ fun i _ => ?_
    split
    · exact Int.le_refl _
    · exact p1 i
  have hnn := sumV_nonneg p1 c.votes
  rw [i64_wrap (by omega) (by omega), i64_wrap (by omega) (by omega)] at h
  split at h
  · cases h
  · exact ⟨hset, q1, by omega, hle⟩
/-- the power of those that are in both -/
def thirdIn (l : List Validator) (u : Int) (p : Int) (vs : List Vote) : Int := vs.foldl (fun p v => if u = v.validator ∧ 0 ≤ u ∧ u < l.length then IntKind.i64.wrap (p + powerOf l u) else p) p
def third (l : List Validator) (xs ys : List Vote) : Int := xs.foldl (fun p u => thirdIn l u.validator p ys) 0
theorem trust_ok {chain : Bytes} {l : List Validator} {dg dp : Int} {c : Commit} (h : verifyCommit chain l dg dp c = 0) : verifyTrust l l c = 0 := by
  obtain ⟨a1, a2, a3, a4⟩ := commit_ok h
  obtain ⟨p1, p2, p3, p4, p5⟩ := set_power a1
  have key : ∀ i, i ≤ l.length → ∃ t, (l.take i).foldl (fun n o => if c.votes.any (signedBy l o) then IntKind.i64.wrap (n + o.power) else n) 0 = t ∧ Sf (fun i => if hasV c.votes i = true then pwr l i else 0) i ≤ t ∧ t ≤ Sf (pwr l) i := by
    intro i
    induction i with
    | zero => intro _; exact ⟨0, rfl, Int.le_refl _, Int.le_refl _⟩
    | succ i ih =>
      intro hi
      obtain ⟨t, h1, h2, h3⟩ := ih (by omega)
      have hi' : i < l.length := by omega
      have hp : pwr l i = l[i].power := by unfold pwr; rw [List.getElem?_eq_getElem hi']
      have hpi := p1 i
      have hbd : Sf (pwr l) (i + 1) ≤ Sf (pwr l) l.length := Sf_mono hi p1
      have h0 : 0 ≤ Sf (fun i => if hasV c.votes i = true then pwr l i else 0) i := Sf_nonneg (fun i => by have := p1 i; split <;> omega) _
      rw [foldl_take _ _ hi', h1]
      simp only [Sf] at hbd ⊢
      by_cases hs : c.votes.any (signedBy l l[i]) = true
      · rw [if_pos hs, ← hp, i64_wrap (by omega) (by omega)]
        exact ⟨_, rfl, by split <;> omega, by omega⟩
      · rw [if_neg hs]
        have hno : hasV c.votes i = false := by
          unfold hasV
          rw [List.any_eq_false]
          intro v hv hq
          apply hs
          rw [List.any_eq_true]
          refine ⟨v, hv, ?_⟩
          have hq := of_decide_eq_true hq
          unfold signedBy
          rw [hq]
          simp [hi']
        rw [hno]
        exact ⟨_, rfl, by simp; omega, by omega⟩
  obtain ⟨t, h1, h2, h3⟩ := key l.length (Nat.le_refl _)
  rw [List.take_length] at h1
  rw [← sumV_eq _ (by omega) a2] at h2
  unfold verifyTrust trustPower
  rw [h1, p2, i64_wrap (by omega) (by omega), if_neg (by omega)]
end Go.Proofs.YtlfelmikcdmkhaaDoor
set_option linter.unusedVariables false
set_option linter.unusedSimpArgs false
set_option linter.unusedSectionVars false
namespace Go.Proofs.YtlfelmikcdmkhaaDoor
open Go Go.Isk Go.RowKit Go.ChangeShapes Go.WideShapes Go.ChangeAt
set_option maxRecDepth 20000
structure CaseD where
  chain : Bytes
  set : List Validator
  dg : Int
  dp : Int
abbrev caseV (c : CaseD) (sv : Value) : List Value := caseC (str c.chain) sv [.int .i64 c.dg, .int .i64 c.dp]
def CaseS (S : Nat → Prop) (w : World) (cs : List Value) (c : CaseD) : Prop := ∃ sv, cs = caseV c sv ∧ (I64 c.dg ∧ I64 c.dp) ∧ (listF valiF 34 sv c.set).holds S w
theorem CaseS.keep {S D : Nat → Prop} {w w' : World} {cs : List Value} {x : CaseD} (h : CaseS S w cs x) (hu : Upd D w w') (hd : ∀ k, S k → ¬ D k) : CaseS S w' cs x := by
  obtain ⟨sv, rfl, hok, h⟩ := h
  exact ⟨sv, rfl, hok, (listF valiF 34 sv _).keep h hu hd⟩
theorem CaseS.mono {S S' : Nat → Prop} {w : World} {cs : List Value} {x : CaseD} (h : CaseS S w cs x) (hs : ∀ k, S k → k < w.heap.size → S' k) : CaseS S' w cs x := by
  obtain ⟨sv, rfl, hok, h⟩ := h
  exact ⟨sv, rfl, hok, (listF valiF 34 sv _).mono h hs⟩
def caseF : Fam CaseD := fun cs c => ⟨fun S w => CaseS S w cs c, CaseS.keep, CaseS.mono⟩
def paraF : Fam (Int × Int) := fun cs p => pureF (cs = [.int .i64 p.1, .int .i64 p.2] ∧ I64 p.1 ∧ I64 p.2)
section
variable {W : World}
theorem opn_Params : Opn Tryd.prog W T.api_Params paraF fun _ => 1 := by
  intro H enc fuel cs x h
  obtain ⟨xs, n, _, rfl, hl, hx, hf⟩ := DataW.trod_struct (isSt.eq (P := Tryd.prog) (t := T.api_Params) (by kernel_rfl)) h
  obtain ⟨a0, h0, _⟩ := fld oI (i := 0) (off := 0) (by kernel_rfl) hx hf cI
  obtain ⟨a1, h1, _⟩ := fld oI (i := 1) (off := 1) (by kernel_rfl) hx hf cI
  have he : cs.drop 2 = [] := List.drop_eq_nil_of_le (Nat.le_of_eq (hl.trans (by kernel_rfl)))
  have e := piece h0.1 (piece h1.1 he (by omega)) (by omega)
  exact ⟨(a0, a1), ⟨by simpa using e, h0.2, h1.2⟩, bulk_pos _⟩
theorem opn_Case : Opn Tryd.prog W T.isthmuslaw11_Case caseF fun x => max (x.chain.length + 1) ((x.set.map fun v => v.name.length + 1).sum + 1) := by
  intro H enc fuel cs x h
  obtain ⟨xs, n, _, rfl, hl, hx, hf⟩ := DataW.trod_struct (isSt.eq (P := Tryd.prog) (t := T.isthmuslaw11_Case) (by kernel_rfl)) h
  obtain ⟨a0, h0, hb0⟩ := fld oS (i := 0) (off := 0) (by kernel_rfl) hx hf (sz := 1) (by kernel_rfl)
  obtain ⟨a1, ⟨sv, h1, h2⟩, hb1⟩ := fld (opn_list (T := T.sl_api_Validator) (by kernel_rfl) opn_Validator (sz := 34) (by kernel_rfl) (by decide)) (i := 1) (off := 1) (by kernel_rfl) hx hf (sz := 1) (by kernel_rfl)
  obtain ⟨a2, h3, _⟩ := fld opn_Params (i := 2) (off := 2) (by kernel_rfl) hx hf (sz := 2) (by kernel_rfl)
  have he : cs.drop 4 = [] := List.drop_eq_nil_of_le (Nat.le_of_eq (hl.trans (by kernel_rfl)))
  have e := piece h0.1 (piece h1 (piece h3.1 he rfl) rfl) rfl
  refine ⟨⟨a0, a1, a2.1, a2.2⟩, ⟨sv, by simpa [caseC] using e, h3.2, h2⟩, ?_⟩
  simp only [Rows.uptoBulk]
  exact Nat.le_succ_of_le (Nat.max_le.2 ⟨hb0, hb1⟩)
end
section
variable {b : Base} {w : World} {L R : List It} {cs : List Value} {dg dp : Int}
def cutD (dp : Int) : Int := if 3 < dp ∧ dp ≤ 10 then dp % 4 else dp
theorem isthmuslaw11_cut (hs : Isk.Sep b w L) : C Tryd.prog N.isthmuslaw11_cut #[.agg #[.int .i64 dg, .int .i64 dp]] w fun r w' => r = .agg #[.int .i64 dg, .int .i64 (cutD dp)] ∧ Isk.Sep b w' L := by
  refine C.isthmuslaw11_cut ?_
  unfold F.isthmuslaw11_cut
  refine sp_box (cs := paraC (.int .i64 dg) (.int .i64 dp)) hs rfl fun g1 w hs => ?_
  refine sp_newr hs (by kernel_rfl) fun g2 w hs => ?_
  repeat (first
   | (with_reducible refine para.a0 ?_)
   | ((with_reducible apply para.r0 hs); (· (with_reducible (repeat (first | exact .blk | exact .rng | apply Rng.tl)))))
   | (with_reducible refine para.c0 ?_)
   | ((with_reducible apply para.e0); (· first | exact hS | exact hid); (· (with_reducible (repeat (first | exact .blk | exact .rng | apply Rng.tl)))))
   | (with_reducible refine para.a1 ?_)
   | ((with_reducible apply para.r1 hs); (· (with_reducible (repeat (first | exact .blk | exact .rng | apply Rng.tl)))))
   | (with_reducible refine para.c1 ?_)
   | ((with_reducible apply para.e1); (· first | exact hS | exact hid); (· (with_reducible (repeat (first | exact .blk | exact .rng | apply Rng.tl)))))
   | (with_reducible (first | refine st_lens ?_ | refine st_eqls ?_ | refine st_nels ?_ | refine tk_eqls ?_ | refine tk_nels ?_ | refine mv.mk ?_ | refine nk_p ?_ | refine gdT_i ?_ | refine gdT_ft ?_ | refine gdT_tf ?_ | refine gdT_u ?_ | refine gd_u ?_ | refine gd_ft ?_ | refine gd_tf ?_ | refine gd_i ?_ | refine pk_t ?_ | refine pk_f ?_ | refine br_t ?_ | refine br_f ?_ | refine sp_boxa hs fun g w hs => ?_))
   | (with_reducible ((first | apply st_bin | apply st_ext | apply st_len | apply st_un | apply st_conv | apply st_mki | apply st_fld | apply st_cap | apply st_max | apply st_min | apply st_ixv | apply st_mkf); intro k' hk; simp [go_sem, thenR_ok, bin]; refine hk _ _ ?_; clear hk k'))
   | ((with_reducible (first | apply tk_bin | apply tk_ext | apply tk_len | apply tk_un)); (· intro w; simp [go_sem, bin]; rfl))
   | ((with_reducible apply sp_newr hs); (· kernel_rfl); intro g w hs))
  have hend : ∀ (n : Int) (w : World), n = cutD dp → Isk.Sep b w (resI Tryd.prog g2 T.api_Params :: blkI g1 T.api_Params (paraC (.int .i64 dg) (.int .i64 n)) :: L) →
      o1 Tryd.prog (Instr.loadAt T.api_Params (.pointer (some ⟨g1, 0, none⟩))) w fun t15 w => o0 Tryd.prog (Instr.storeAt T.api_Params (.pointer (some ⟨g2, 0, none⟩)) t15) w fun _ w =>
        rc Tryd.prog T.api_Params (.pointer (some ⟨g2, 0, none⟩)) w fun r => r = .agg #[.int .i64 dg, .int .i64 (cutD dp)] ∧ Isk.Sep b w L := by
    intro n w e hs
    subst e
    refine sp_loadall hs (.tl .hd) (by kernel_rfl) rfl ?_
    refine sp_ret (ds := paraC (.int .i64 dg) (.int .i64 (cutD dp))) (K := fun r w => r = .agg #[.int .i64 dg, .int .i64 (cutD dp)] ∧ Isk.Sep b w L) hs (by first | ((repeat (first | with_reducible exact Has.hd | with_reducible apply Has.tl)); done) | (repeat (first | exact Has.hd | with_reducible apply Has.tl))) (by kernel_rfl) rfl (by simp [paraC, Value.oneCell']) fun w hs => ⟨rfl, hs.drop .hd⟩
  by_cases c1 : 3 < dp
  rotate_left
  · rw [show decide (3 < dp) = false from decide_eq_false c1]
    repeat (first
     | (with_reducible (first | refine st_lens ?_ | refine st_eqls ?_ | refine st_nels ?_ | refine tk_eqls ?_ | refine tk_nels ?_ | refine mv.mk ?_ | refine nk_p ?_ | refine gdT_i ?_ | refine gdT_ft ?_ | refine gdT_tf ?_ | refine gdT_u ?_ | refine gd_u ?_ | refine gd_ft ?_ | refine gd_tf ?_ | refine gd_i ?_ | refine pk_t ?_ | refine pk_f ?_ | refine br_t ?_ | refine br_f ?_ | refine sp_boxa hs fun g w hs => ?_))
     | (with_reducible ((first | apply st_bin | apply st_ext | apply st_len | apply st_un | apply st_conv | apply st_mki | apply st_fld | apply st_cap | apply st_max | apply st_min | apply st_ixv | apply st_mkf); intro k' hk; simp [go_sem, thenR_ok, bin]; refine hk _ _ ?_; clear hk k'))
     | ((with_reducible (first | apply tk_bin | apply tk_ext | apply tk_len | apply tk_un)); (· intro w; simp [go_sem, bin]; rfl))
     | ((with_reducible apply sp_newr hs); (· kernel_rfl); intro g w hs))
    refine jn_by (fun _ w' => Isk.Sep b w' (resI Tryd.prog g2 T.api_Params :: blkI g1 T.api_Params (paraC (.int .i64 dg) (.int .i64 dp)) :: L)) (br_f hs) ?_
    rintro _ w hs
    exact hend dp w (by rw [cutD, if_neg (fun h => c1 h.1)]) hs
  rw [show decide (3 < dp) = true from decide_eq_true c1]
  repeat (first
   | (with_reducible refine para.a0 ?_)
   | ((with_reducible apply para.r0 hs); (· (with_reducible (repeat (first | exact .blk | exact .rng | apply Rng.tl)))))
   | (with_reducible refine para.c0 ?_)
   | ((with_reducible apply para.e0); (· first | exact hS | exact hid); (· (with_reducible (repeat (first | exact .blk | exact .rng | apply Rng.tl)))))
   | (with_reducible refine para.a1 ?_)
   | ((with_reducible apply para.r1 hs); (· (with_reducible (repeat (first | exact .blk | exact .rng | apply Rng.tl)))))
   | (with_reducible refine para.c1 ?_)
   | ((with_reducible apply para.e1); (· first | exact hS | exact hid); (· (with_reducible (repeat (first | exact .blk | exact .rng | apply Rng.tl)))))
   | (with_reducible (first | refine st_lens ?_ | refine st_eqls ?_ | refine st_nels ?_ | refine tk_eqls ?_ | refine tk_nels ?_ | refine mv.mk ?_ | refine nk_p ?_ | refine gdT_i ?_ | refine gdT_ft ?_ | refine gdT_tf ?_ | refine gdT_u ?_ | refine gd_u ?_ | refine gd_ft ?_ | refine gd_tf ?_ | refine gd_i ?_ | refine pk_t ?_ | refine pk_f ?_ | refine br_t ?_ | refine br_f ?_ | refine sp_boxa hs fun g w hs => ?_))
   | (with_reducible ((first | apply st_bin | apply st_ext | apply st_len | apply st_un | apply st_conv | apply st_mki | apply st_fld | apply st_cap | apply st_max | apply st_min | apply st_ixv | apply st_mkf); intro k' hk; simp [go_sem, thenR_ok, bin]; refine hk _ _ ?_; clear hk k'))
   | ((with_reducible (first | apply tk_bin | apply tk_ext | apply tk_len | apply tk_un)); (· intro w; simp [go_sem, bin]; rfl))
   | ((with_reducible apply sp_newr hs); (· kernel_rfl); intro g w hs))
  by_cases c2 : dp ≤ 10
  rotate_left
  · rw [show decide (dp ≤ 10) = false from decide_eq_false c2]
    repeat (first
     | (with_reducible (first | refine st_lens ?_ | refine st_eqls ?_ | refine st_nels ?_ | refine tk_eqls ?_ | refine tk_nels ?_ | refine mv.mk ?_ | refine nk_p ?_ | refine gdT_i ?_ | refine gdT_ft ?_ | refine gdT_tf ?_ | refine gdT_u ?_ | refine gd_u ?_ | refine gd_ft ?_ | refine gd_tf ?_ | refine gd_i ?_ | refine pk_t ?_ | refine pk_f ?_ | refine br_t ?_ | refine br_f ?_ | refine sp_boxa hs fun g w hs => ?_))
     | (with_reducible ((first | apply st_bin | apply st_ext | apply st_len | apply st_un | apply st_conv | apply st_mki | apply st_fld | apply st_cap | apply st_max | apply st_min | apply st_ixv | apply st_mkf); intro k' hk; simp [go_sem, thenR_ok, bin]; refine hk _ _ ?_; clear hk k'))
     | ((with_reducible (first | apply tk_bin | apply tk_ext | apply tk_len | apply tk_un)); (· intro w; simp [go_sem, bin]; rfl))
     | ((with_reducible apply sp_newr hs); (· kernel_rfl); intro g w hs))
    refine jn_by (fun _ w' => Isk.Sep b w' (resI Tryd.prog g2 T.api_Params :: blkI g1 T.api_Params (paraC (.int .i64 dg) (.int .i64 dp)) :: L)) (br_f hs) ?_
    rintro _ w hs
    exact hend dp w (by rw [cutD, if_neg (fun h => c2 h.2)]) hs
  rw [show decide (dp ≤ 10) = true from decide_eq_true c2]
  repeat (first
   | (with_reducible refine para.a0 ?_)
   | ((with_reducible apply para.r0 hs); (· (with_reducible (repeat (first | exact .blk | exact .rng | apply Rng.tl)))))
   | (with_reducible refine para.c0 ?_)
   | ((with_reducible apply para.e0); (· first | exact hS | exact hid); (· (with_reducible (repeat (first | exact .blk | exact .rng | apply Rng.tl)))))
   | (with_reducible refine para.a1 ?_)
   | ((with_reducible apply para.r1 hs); (· (with_reducible (repeat (first | exact .blk | exact .rng | apply Rng.tl)))))
   | (with_reducible refine para.c1 ?_)
   | ((with_reducible apply para.e1); (· first | exact hS | exact hid); (· (with_reducible (repeat (first | exact .blk | exact .rng | apply Rng.tl)))))
   | (with_reducible (first | refine st_lens ?_ | refine st_eqls ?_ | refine st_nels ?_ | refine tk_eqls ?_ | refine tk_nels ?_ | refine mv.mk ?_ | refine nk_p ?_ | refine gdT_i ?_ | refine gdT_ft ?_ | refine gdT_tf ?_ | refine gdT_u ?_ | refine gd_u ?_ | refine gd_ft ?_ | refine gd_tf ?_ | refine gd_i ?_ | refine pk_t ?_ | refine pk_f ?_ | refine br_t ?_ | refine br_f ?_ | refine sp_boxa hs fun g w hs => ?_))
   | (with_reducible ((first | apply st_bin | apply st_ext | apply st_len | apply st_un | apply st_conv | apply st_mki | apply st_fld | apply st_cap | apply st_max | apply st_min | apply st_ixv | apply st_mkf); intro k' hk; simp [go_sem, thenR_ok, bin]; refine hk _ _ ?_; clear hk k'))
   | ((with_reducible (first | apply tk_bin | apply tk_ext | apply tk_len | apply tk_un)); (· intro w; simp [go_sem, bin]; rfl))
   | ((with_reducible apply sp_newr hs); (· kernel_rfl); intro g w hs))
  refine jn_by (fun _ w' => Isk.Sep b w' (resI Tryd.prog g2 T.api_Params :: blkI g1 T.api_Params (paraC (.int .i64 dg) (.int .i64 (dp % 4))) :: L)) (br_t ?_) ?_
  · repeat (first
     | (with_reducible refine para.a0 ?_)
     | ((with_reducible apply para.r0 hs); (· (with_reducible (repeat (first | exact .blk | exact .rng | apply Rng.tl)))))
     | (with_reducible refine para.c0 ?_)
     | ((with_reducible apply para.e0); (· first | exact hS | exact hid); (· (with_reducible (repeat (first | exact .blk | exact .rng | apply Rng.tl)))))
     | (with_reducible refine para.a1 ?_)
     | ((with_reducible apply para.r1 hs); (· (with_reducible (repeat (first | exact .blk | exact .rng | apply Rng.tl)))))
     | (with_reducible refine para.c1 ?_)
     | ((with_reducible apply para.e1); (· first | exact hS | exact hid); (· (with_reducible (repeat (first | exact .blk | exact .rng | apply Rng.tl)))))
     | (with_reducible (first | refine st_lens ?_ | refine st_eqls ?_ | refine st_nels ?_ | refine tk_eqls ?_ | refine tk_nels ?_ | refine mv.mk ?_ | refine nk_p ?_ | refine gdT_i ?_ | refine gdT_ft ?_ | refine gdT_tf ?_ | refine gdT_u ?_ | refine gd_u ?_ | refine gd_ft ?_ | refine gd_tf ?_ | refine gd_i ?_ | refine pk_t ?_ | refine pk_f ?_ | refine br_t ?_ | refine br_f ?_ | refine sp_boxa hs fun g w hs => ?_))
     | (with_reducible ((first | apply st_bin | apply st_ext | apply st_len | apply st_un | apply st_conv | apply st_mki | apply st_fld | apply st_cap | apply st_max | apply st_min | apply st_ixv | apply st_mkf); intro k' hk; simp [go_sem, thenR_ok, bin]; refine hk _ _ ?_; clear hk k'))
     | ((with_reducible (first | apply tk_bin | apply tk_ext | apply tk_len | apply tk_un)); (· intro w; simp [go_sem, bin]; rfl))
     | ((with_reducible apply sp_newr hs); (· kernel_rfl); intro g w hs))
    refine sx_st (p := 1) hs (.tl .hd) (by kernel_rfl) ⟨rfl, rfl⟩ (by simp [paraC]) fun w' hs => ?_
    rw [Int.tmod_eq_emod_of_nonneg (by omega)] at hs
    exact hs.sbl (.cons (.tl .hd) (.cons .hd .all))
  · rintro _ w hs
    exact hend _ w (by rw [cutD, if_pos ⟨c1, c2⟩]) hs
end
end Go.Proofs.YtlfelmikcdmkhaaDoor
