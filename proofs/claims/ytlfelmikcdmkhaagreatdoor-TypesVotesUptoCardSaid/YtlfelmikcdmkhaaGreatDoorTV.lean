/- types: names, sets, trust. -/
import Derived.Test.YtlfelmikcdmkhaaGreatDoorRH
import Derived.Test.YtlfelmikcdmkhaaGreatDoorGF
import Derived.Test.YtlfelmikcdmkhaaGreatDoorKH
set_option linter.unusedVariables false
set_option linter.unusedSimpArgs false
set_option linter.unusedSectionVars false
namespace Go.Proofs.YtlfelmikcdmkhaaGreatDoor
open Go Go.Isk Go.RowKit
set_option maxRecDepth 20000
theorem ltT : lssT Tryz.prog T.int := fun x y a c w => by simp [go_sem, bin]
theorem adT : addT Tryz.prog T.int := fun x y a c w => by simp [go_sem, bin]
section
variable {b : Base} {w : World} {L R : List It} {g : Nat} {v sv : Value} {s l : Bytes} {cs ds : List Value} {k : Value → World → Prop}
/-- is a text a name? -/
def badC (c : UInt8) : Bool := decide (c.toNat < 33) || decide (126 < c.toNat)
def namedB (s : Bytes) : Bool := decide (1 ≤ s.length) && (decide (s.length ≤ 64) && !s.any badC)
theorem types_named_1 {c : UInt8} (hs : Sep b w L) : C Tryz.prog N.types_named_1 #[.int .u8 c.toNat] w fun r w' => r = .bool (badC c) ∧ Sep b w' L := by
  refine C.types_named_1 ?_
  unfold F.types_named_1 badC
  repeat (first
   | (with_reducible (first | refine mv.mk ?_ | refine gd_u ?_ | refine gd_ft ?_ | refine gd_tf ?_ | refine gd_i ?_ | refine pk_t ?_ | refine pk_f ?_))
   | (with_reducible ((first | apply st_bin); intro k' hk; simp [go_sem, thenR_ok, bin]; refine hk _ _ ?_; clear hk k')))
  by_cases h : c.toNat < 33
  · rw [show decide ((c.toNat : Int) < 33) = true by simp; omega]
    repeat (first
     | (with_reducible (first | refine mv.mk ?_ | refine gd_u ?_ | refine gd_ft ?_ | refine gd_tf ?_ | refine gd_i ?_ | refine pk_t ?_ | refine pk_f ?_))
     | (with_reducible ((first | apply st_bin); intro k' hk; simp [go_sem, thenR_ok, bin]; refine hk _ _ ?_; clear hk k')))
    exact ⟨by simp [h], hs⟩
  · rw [show decide ((c.toNat : Int) < 33) = false by simp; omega]
    repeat (first
     | (with_reducible (first | refine mv.mk ?_ | refine gd_u ?_ | refine gd_ft ?_ | refine gd_tf ?_ | refine gd_i ?_ | refine pk_t ?_ | refine pk_f ?_))
     | (with_reducible ((first | apply st_bin); intro k' hk; simp [go_sem, thenR_ok, bin]; refine hk _ _ ?_; clear hk k')))
    refine ⟨?_, hs⟩
    simp only [h, decide_false, Bool.false_or]
    congr 2
    simp; omega
theorem slices_ContainsFunc_bytes (hs : Sep b w L) (hm : Ins L (byF v l).it) (hn : l.length ≤ 4611686018427387904) : C Tryz.prog N.slices_ContainsFunc_bytes #[v, .func (.func N.types_named_1) #[] #[]] w fun r w' => r = .bool (l.any badC) ∧ Sep b w' L := by
  refine C.slices_ContainsFunc_bytes ?_
  unfold F.slices_ContainsFunc_bytes
  repeat with_reducible refine mv.mk ?_
  refine C.slices_IndexFunc_bytes ?_
  show IdxBody Tryz.prog T.int T.sl_uint8 T.uint8 _ _ _ _
  refine idx_one (p := badC) (by_ := 1) ltT adT tBytes (by kernel_rfl) (hs.u8list hm) .lst hn ?_ ?_
  · intro w i hi x K hs hK
    have hx : [x] = _ := hs.get .hd
    simp only [List.cons.injEq, and_true] at hx
    subst hx
    refine cv_f (by kernel_rfl) ?_
    refine cl (types_named_1 (hs.drop .hd)) ?_
    rintro _ w ⟨rfl, hs⟩
    exact hK w hs
  · intro w hs
    repeat (first
     | (with_reducible (first | refine mv.mk ?_))
     | (with_reducible ((first | apply st_bin); intro k' hk; simp [go_sem, thenR_ok, bin]; refine hk _ _ ?_; clear hk k')))
    rw [idxOf_any]
    exact ⟨rfl, hs.drop .hd⟩
theorem types_named (hs : Sep b w L) (hn : s.length ≤ 4611686018427387904) : C Tryz.prog N.types_named #[str s] w fun r w' => r = .bool (namedB s) ∧ Sep b w' L := by
  refine C.types_named ?_
  unfold F.types_named namedB
  repeat (first
   | (with_reducible (first | refine st_lens ?_ | refine mv.mk ?_ | refine gd_u ?_ | refine gd_ft ?_ | refine gd_tf ?_ | refine gd_i ?_ | refine pk_t ?_ | refine pk_f ?_))
   | (with_reducible ((first | apply st_bin | apply st_len | apply st_un | apply st_conv); intro k' hk; simp [go_sem, thenR_ok, bin]; refine hk _ _ ?_; clear hk k')))
  by_cases h1 : 1 ≤ s.length
  · rw [show decide ((1 : Int) ≤ (s.length : Int)) = true by simp; omega]
    repeat (first
     | (with_reducible (first | refine st_lens ?_ | refine mv.mk ?_ | refine gd_u ?_ | refine gd_ft ?_ | refine gd_tf ?_ | refine gd_i ?_ | refine pk_t ?_ | refine pk_f ?_))
     | (with_reducible ((first | apply st_bin | apply st_len | apply st_un | apply st_conv); intro k' hk; simp [go_sem, thenR_ok, bin]; refine hk _ _ ?_; clear hk k')))
    by_cases h2 : s.length ≤ 64
    · rw [show decide ((s.length : Int) ≤ 64) = true by simp; omega]
      repeat (first
       | (with_reducible (first | refine st_lens ?_ | refine mv.mk ?_ | refine gd_u ?_ | refine gd_ft ?_ | refine gd_tf ?_ | refine gd_i ?_ | refine pk_t ?_ | refine pk_f ?_))
       | (with_reducible ((first | apply st_bin | apply st_len | apply st_un | apply st_conv); intro k' hk; simp [go_sem, thenR_ok, bin]; refine hk _ _ ?_; clear hk k')))
      refine sp_bytes (E := T.uint8) hs (by kernel_rfl) (by kernel_rfl) (by kernel_rfl) fun v w hs => ?_
      refine gd_i ?_
      refine cl (slices_ContainsFunc_bytes hs (by repeat (first | with_reducible exact Ins.hd | with_reducible apply Ins.tl)) hn) ?_; rintro _ w ⟨rfl, hs⟩
      repeat (first
       | (with_reducible (first | refine st_lens ?_ | refine mv.mk ?_ | refine gd_u ?_ | refine gd_ft ?_ | refine gd_tf ?_ | refine gd_i ?_ | refine pk_t ?_ | refine pk_f ?_))
       | (with_reducible ((first | apply st_bin | apply st_len | apply st_un | apply st_conv); intro k' hk; simp [go_sem, thenR_ok, bin]; refine hk _ _ ?_; clear hk k')))
      exact ⟨by simp [h1, h2], hs.drop .hd⟩
    · rw [show decide ((s.length : Int) ≤ 64) = false by simp; omega]
      repeat (first
       | (with_reducible (first | refine st_lens ?_ | refine mv.mk ?_ | refine gd_u ?_ | refine gd_ft ?_ | refine gd_tf ?_ | refine gd_i ?_ | refine pk_t ?_ | refine pk_f ?_))
       | (with_reducible ((first | apply st_bin | apply st_len | apply st_un | apply st_conv); intro k' hk; simp [go_sem, thenR_ok, bin]; refine hk _ _ ?_; clear hk k')))
      exact ⟨by simp [h2], hs⟩
  · rw [show decide ((1 : Int) ≤ (s.length : Int)) = false by simp; omega]
    repeat (first
     | (with_reducible (first | refine st_lens ?_ | refine mv.mk ?_ | refine gd_u ?_ | refine gd_ft ?_ | refine gd_tf ?_ | refine gd_i ?_ | refine pk_t ?_ | refine pk_f ?_))
     | (with_reducible ((first | apply st_bin | apply st_len | apply st_un | apply st_conv); intro k' hk; simp [go_sem, thenR_ok, bin]; refine hk _ _ ?_; clear hk k')))
    exact ⟨by simp; omega, hs⟩
/-- the power of all -/
def total (l : List Validator) : Int := l.foldl (fun n v => IntKind.i64.wrap (n + v.power)) 0
theorem foldl_take {α β : Type} (f : β → α → β) (z : β) {l : List α} {i : Nat} (h : i < l.length) : (l.take (i + 1)).foldl f z = f ((l.take i).foldl f z) l[i] := by
  rw [List.take_succ_eq_append_getElem h, List.foldl_append]; rfl
theorem vali_of {xs : List Value} {x : Validator} (hs : Sep b w L) (hm : Ins L (valiF xs x).it) : xs = valiC (str x.name) (u8s x.key) (.int .i64 x.power) ∧ x.ok := hs.get hm
theorem types_Total {l : List Validator} (hs : Sep b w L) (hl : Lst valiF 34 L sv l) (hn : l.length ≤ 4611686018427387904) : C Tryz.prog N.types_Total #[sv] w fun r w' => r = .int .i64 (total l) ∧ Sep b w' L := by
  obtain ⟨A, c, rfl⟩ := hs.lst_len hl
  refine C.types_Total ?_
  unfold F.types_Total
  repeat (first
   | (with_reducible (first | refine st_lens ?_ | refine mv.mk ?_ | refine br_t ?_ | refine br_f ?_))
   | (with_reducible ((first | apply st_bin | apply st_len); intro k' hk; simp [go_sem, thenR_ok, bin]; refine hk _ _ ?_; clear hk k'))
   | ((with_reducible apply sp_newr hs); (· kernel_rfl); intro g w hs))
  refine lp_by (fun vs w' => ∃ i : Nat, vs = [.int .i64 (total (l.take i)), .int .i64 i] ∧ i ≤ l.length ∧ Sep b w' L) (fun vs _ => match vs with | [_, .int _ m] => l.length - m.toNat | _ => 0) ⟨0, rfl, Nat.zero_le _, hs⟩ ?_
  rintro x w ⟨i, hx, hi, hs⟩
  simp only [List.cons.injEq, and_true] at hx
  rw [hx.1, hx.2]
  repeat (first
   | (with_reducible (first | refine st_lens ?_ | refine mv.mk ?_ | refine br_t ?_ | refine br_f ?_))
   | (with_reducible ((first | apply st_bin | apply st_len); intro k' hk; simp [go_sem, thenR_ok, bin]; refine hk _ _ ?_; clear hk k'))
   | ((with_reducible apply sp_newr hs); (· kernel_rfl); intro g w hs))
  refine br_split (fun hb => ?_) (fun hb => ?_)
  · have hi' : i < l.length := by have := of_decide_eq_true hb; omega
    refine sp_eln hs hl tVals (by kernel_rfl) i rfl hi' fun xs hxl hs => ?_
    have hv := hs.ok valiF_ok (cs := xs) (by repeat (first | with_reducible exact Ins.hd | with_reducible apply Ins.tl))
    obtain ⟨rfl, hok⟩ := vali_of hs (by repeat (first | with_reducible exact Ins.hd | with_reducible apply Ins.tl))
    refine sp_newr hs (by kernel_rfl) fun g w hs => ?_
    refine sp_setr hs (by first | ((repeat (first | with_reducible exact Has.hd | with_reducible apply Has.tl)); done) | (repeat (first | exact Has.hd | with_reducible apply Has.tl))) (by kernel_rfl) hv.1 hv.2 fun w hs => ?_
    repeat with_reducible refine mv.mk ?_
    refine vali.l2 hs (by repeat (first | with_reducible exact Rng.blk | with_reducible exact Rng.rng | with_reducible apply Rng.tl)) (u8s_len hok.key) ?_
    repeat (first
     | (with_reducible (first | refine st_lens ?_ | refine mv.mk ?_ | refine br_t ?_ | refine br_f ?_))
     | (with_reducible ((first | apply st_bin | apply st_len); intro k' hk; simp [go_sem, thenR_ok, bin]; refine hk _ _ ?_; clear hk k'))
     | ((with_reducible apply sp_newr hs); (· kernel_rfl); intro g w hs))
    rw [i64_succ (by omega)]
    refine ⟨⟨i + 1, ?_, hi', hs.sbl (by repeat (first | with_reducible exact Sbl.all | with_reducible exact Sbl.nil | refine Sbl.cons (by first | ((repeat (first | with_reducible exact Has.hd | with_reducible apply Has.tl)); done) | (repeat (first | exact Has.hd | with_reducible apply Has.tl))) ?_ | refine Sbl.drop ?_))⟩, by simp; omega⟩
    rw [total, total, foldl_take _ _ hi']
  · have hi' : i = l.length := by have := of_decide_eq_false hb; omega
    subst hi'
    repeat with_reducible refine mv.mk ?_
    rw [List.take_length]
    exact ⟨rfl, hs⟩
theorem types_CheckSet_1 {cs ds : List Value} {x y : Validator} (hs : Sep b w L) (hx : Ins L (valiF cs x).it) (hy : Rng L g 0 ds) (hyv : Ins L (valiF ds y).it) : C Tryz.prog N.types_CheckSet_1 #[.agg cs.toArray, .pointer (some ⟨g, 0, none⟩)] w fun r w' => r = .bool (decide (x.name = y.name)) ∧ Sep b w' L := by
  obtain ⟨rfl, ho⟩ := vali_of hs hx
  obtain ⟨rfl, ho2⟩ := vali_of hs hyv
  refine C.types_CheckSet_1 ?_
  unfold F.types_CheckSet_1
  repeat (first
   | (with_reducible (first | refine st_eqls ?_ | refine mv.mk ?_ | refine sp_boxa hs fun g w hs => ?_))
   | (with_reducible ((first | apply st_bin); intro k' hk; simp [go_sem, thenR_ok, bin]; refine hk _ _ ?_; clear hk k')))
  refine vali.l0 hs (by repeat (first | with_reducible exact Rng.blk | with_reducible exact Rng.rng | with_reducible apply Rng.tl)) ?_
  refine vali.l0 hs (.tl hy) ?_
  repeat (first
   | (with_reducible (first | refine st_eqls ?_ | refine mv.mk ?_ | refine sp_boxa hs fun g w hs => ?_))
   | (with_reducible ((first | apply st_bin); intro k' hk; simp [go_sem, thenR_ok, bin]; refine hk _ _ ?_; clear hk k')))
  exact ⟨rfl, hs.drop .hd⟩
theorem slices_ContainsFunc_set {l : List Validator} {ds : List Value} {y : Validator} (hs : Sep b w L) (hm : Ins L (listF valiF 34 sv l).it) (hn : l.length ≤ 4611686018427387904) (hy : Rng L g 0 ds) (hyv : Ins L (valiF ds y).it) :
    C Tryz.prog N.slices_ContainsFunc_api_Validator_api_Validator #[sv, .func (.func N.types_CheckSet_1) #[] #[.pointer (some ⟨g, 0, none⟩)]] w fun r w' => r = .bool (l.any fun x => decide (x.name = y.name)) ∧ Sep b w' L := by
  refine C.slices_ContainsFunc_api_Validator_api_Validator ?_
  unfold F.slices_ContainsFunc_api_Validator_api_Validator
  repeat with_reducible refine mv.mk ?_
  refine C.slices_IndexFunc_api_Validator_api_Validator ?_
  show IdxBody Tryz.prog T.int T.sl_api_Validator T.api_Validator _ _ _ _
  refine idx_agg (p := fun x => decide (x.name = y.name)) (by_ := 56) ltT adT tVals (by kernel_rfl) hs hm.lst hn ?_ ?_
  · intro w i hi xs K hxl hs hK
    refine cv_g (by kernel_rfl) ?_
    refine cl (types_CheckSet_1 hs .hd (.tl hy) (.tl hyv)) ?_
    rintro _ w ⟨rfl, hs⟩
    exact hK w (hs.drop .hd)
  · intro w hs
    repeat (first
     | (with_reducible (first | refine mv.mk ?_))
     | (with_reducible ((first | apply st_bin); intro k' hk; simp [go_sem, thenR_ok, bin]; refine hk _ _ ?_; clear hk k')))
    rw [idxOf_any]
    exact ⟨rfl, hs⟩
/-- what power is left behind the first i validators; none: they are no set -/
def setLeft (l : List Validator) : Nat → Option Int
  | 0 => some 1099511627776
  | i + 1 => (setLeft l i).bind fun left => match l[i]? with
    | none => none
    | some v => if namedB v.name = false ∨ (l.take i).any (fun x => decide (x.name = v.name)) = true ∨ v.power < 1 ∨ left < v.power then none else some (left - v.power)
def checkSet (l : List Validator) : Int := if l.length = 0 ∨ 32 < l.length then 30 else if (setLeft l l.length).isSome then 0 else 30
theorem setLeft_le {l : List Validator} : ∀ {i : Nat} {left : Int}, setLeft l i = some left → 0 ≤ left ∧ left ≤ 1099511627776
  | 0, left, h => by simp [setLeft] at h; omega
  | i + 1, left, h => by
    unfold setLeft at h
    cases hq : setLeft l i with
    | none => simp [hq] at h
    | some q =>
      have := setLeft_le hq
      rw [hq, Option.bind_some] at h
      split at h
      · cases h
      · split at h
        · cases h
        · cases h; omega
theorem setLeft_none {l : List Validator} {i : Nat} (h : setLeft l i = none) : ∀ j, i ≤ j → setLeft l j = none := by
  intro j hj
  induction j with
  | zero => have : i = 0 := by omega
            subst this; exact h
  | succ j ih =>
    rcases Nat.lt_or_ge j i with hlt | hge
    · have : i = j + 1 := by omega
      subst this; exact h
    · unfold setLeft; rw [ih hge]; rfl
theorem types_CheckSet {l : List Validator} (hs : Sep b w L) (hm : Ins L (listF valiF 34 sv l).it) (hn : l.length ≤ 4611686018427387904) (hnm : ∀ v ∈ l, v.name.length ≤ 4611686018427387904) : C Tryz.prog N.types_CheckSet #[sv] w fun r w' => Sep b w' ((errF r (checkSet l)).it :: L) := by
  obtain ⟨A, c, rfl⟩ := hs.lst_len hm.lst
  refine C.types_CheckSet ?_
  unfold F.types_CheckSet checkSet
  repeat (first
   | (with_reducible (first | refine st_lens ?_ | refine st_eqls ?_ | refine mv.mk ?_ | refine gd_u ?_ | refine gd_ft ?_ | refine gd_tf ?_ | refine gd_i ?_ | refine pk_t ?_ | refine pk_f ?_ | refine br_t ?_ | refine br_f ?_))
   | (with_reducible ((first | apply st_bin | apply st_len | apply st_un | apply st_mkf); intro k' hk; simp [go_sem, thenR_ok, bin]; refine hk _ _ ?_; clear hk k'))
   | ((with_reducible apply sp_newr hs); (· kernel_rfl); intro g w hs))
  by_cases h0 : l.length = 0
  · rw [show ((l.length : Int) == 0) = true by simpa using h0]
    repeat (first
     | (with_reducible (first | refine st_lens ?_ | refine st_eqls ?_ | refine mv.mk ?_ | refine gd_u ?_ | refine gd_ft ?_ | refine gd_tf ?_ | refine gd_i ?_ | refine pk_t ?_ | refine pk_f ?_ | refine br_t ?_ | refine br_f ?_))
     | (with_reducible ((first | apply st_bin | apply st_len | apply st_un | apply st_mkf); intro k' hk; simp [go_sem, thenR_ok, bin]; refine hk _ _ ?_; clear hk k'))
     | ((with_reducible apply sp_newr hs); (· kernel_rfl); intro g w hs))
    rw [if_pos (.inl h0)]
    refine cl (types_fault (by decide) (by decide) (by decide) hs) ?_
    rintro r w hs
    repeat with_reducible refine mv.mk ?_
    exact hs
  rw [show ((l.length : Int) == 0) = false by simpa using h0]
  repeat (first
   | (with_reducible (first | refine st_lens ?_ | refine st_eqls ?_ | refine mv.mk ?_ | refine gd_u ?_ | refine gd_ft ?_ | refine gd_tf ?_ | refine gd_i ?_ | refine pk_t ?_ | refine pk_f ?_ | refine br_t ?_ | refine br_f ?_))
   | (with_reducible ((first | apply st_bin | apply st_len | apply st_un | apply st_mkf); intro k' hk; simp [go_sem, thenR_ok, bin]; refine hk _ _ ?_; clear hk k'))
   | ((with_reducible apply sp_newr hs); (· kernel_rfl); intro g w hs))
  by_cases h32 : 32 < l.length
  · rw [show decide ((32 : Int) < (l.length : Int)) = true by simp; omega]
    repeat (first
     | (with_reducible (first | refine st_lens ?_ | refine st_eqls ?_ | refine mv.mk ?_ | refine gd_u ?_ | refine gd_ft ?_ | refine gd_tf ?_ | refine gd_i ?_ | refine pk_t ?_ | refine pk_f ?_ | refine br_t ?_ | refine br_f ?_))
     | (with_reducible ((first | apply st_bin | apply st_len | apply st_un | apply st_mkf); intro k' hk; simp [go_sem, thenR_ok, bin]; refine hk _ _ ?_; clear hk k'))
     | ((with_reducible apply sp_newr hs); (· kernel_rfl); intro g w hs))
    rw [if_pos (.inr h32)]
    refine cl (types_fault (by decide) (by decide) (by decide) hs) ?_
    rintro r w hs
    repeat with_reducible refine mv.mk ?_
    exact hs
  rw [show decide ((32 : Int) < (l.length : Int)) = false by simp; omega]
  repeat (first
   | (with_reducible (first | refine st_lens ?_ | refine st_eqls ?_ | refine mv.mk ?_ | refine gd_u ?_ | refine gd_ft ?_ | refine gd_tf ?_ | refine gd_i ?_ | refine pk_t ?_ | refine pk_f ?_ | refine br_t ?_ | refine br_f ?_))
   | (with_reducible ((first | apply st_bin | apply st_len | apply st_un | apply st_mkf); intro k' hk; simp [go_sem, thenR_ok, bin]; refine hk _ _ ?_; clear hk k'))
   | ((with_reducible apply sp_newr hs); (· kernel_rfl); intro g w hs))
  rw [if_neg (by omega)]
  refine lp_by (fun vs w' => ∃ (i : Nat) (left : Int) (x y z : Value), vs = [x, .int .i64 left, y, z, .int .i64 i] ∧ i ≤ l.length ∧ setLeft l i = some left ∧ Sep b w' L) (fun vs _ => match vs with | [_, _, _, _, .int _ m] => l.length - m.toNat | _ => 0) ⟨0, _, _, _, _, rfl, Nat.zero_le _, rfl, hs⟩ ?_
  rintro x w ⟨i, left, y1, y2, y3, hx, hi, hleft, hs⟩
  simp only [List.cons.injEq, and_true] at hx
  rw [hx.2.1, hx.2.2.2.2]
  repeat (first
   | (with_reducible (first | refine st_lens ?_ | refine st_eqls ?_ | refine mv.mk ?_ | refine gd_u ?_ | refine gd_ft ?_ | refine gd_tf ?_ | refine gd_i ?_ | refine pk_t ?_ | refine pk_f ?_ | refine br_t ?_ | refine br_f ?_))
   | (with_reducible ((first | apply st_bin | apply st_len | apply st_un | apply st_mkf); intro k' hk; simp [go_sem, thenR_ok, bin]; refine hk _ _ ?_; clear hk k'))
   | ((with_reducible apply sp_newr hs); (· kernel_rfl); intro g w hs))
  refine br_split (fun hb => ?_) (fun hb => ?_)
  · have hi' : i < l.length := by have := of_decide_eq_true hb; omega
    repeat with_reducible refine mv.mk ?_
    refine sp_eln hs hm.lst tVals (by kernel_rfl) i rfl hi' fun xs hxl hs => ?_
    have hv := hs.ok valiF_ok (cs := xs) (by repeat (first | with_reducible exact Ins.hd | with_reducible apply Ins.tl))
    obtain ⟨rfl, hok⟩ := vali_of hs (by repeat (first | with_reducible exact Ins.hd | with_reducible apply Ins.tl))
    refine sp_newr hs (by kernel_rfl) fun g w hs => ?_
    repeat with_reducible refine mv.mk ?_
    refine sp_setr hs (by first | ((repeat (first | with_reducible exact Has.hd | with_reducible apply Has.tl)); done) | (repeat (first | exact Has.hd | with_reducible apply Has.tl))) (by kernel_rfl) hv.1 hv.2 fun w hs => ?_
    repeat with_reducible refine mv.mk ?_
    refine sp_slto hs (.tl (.tl hm)) tVals i rfl (by omega) fun v hs => ?_
    repeat (first
     | (with_reducible (first | refine st_lens ?_ | refine st_eqls ?_ | refine mv.mk ?_ | refine gd_u ?_ | refine gd_ft ?_ | refine gd_tf ?_ | refine gd_i ?_ | refine pk_t ?_ | refine pk_f ?_ | refine br_t ?_ | refine br_f ?_))
     | (with_reducible ((first | apply st_bin | apply st_len | apply st_un | apply st_mkf); intro k' hk; simp [go_sem, thenR_ok, bin]; refine hk _ _ ?_; clear hk k'))
     | ((with_reducible apply sp_newr hs); (· kernel_rfl); intro g w hs))
    refine cl (slices_ContainsFunc_set hs .hd (by simp; omega) (by repeat (first | with_reducible exact Rng.blk | with_reducible exact Rng.rng | with_reducible apply Rng.tl)) (by repeat (first | with_reducible exact Ins.hd | with_reducible apply Ins.tl))) ?_
    rintro _ w ⟨rfl, hs⟩
    repeat with_reducible refine mv.mk ?_
    refine vali.l0 hs (by repeat (first | with_reducible exact Rng.blk | with_reducible exact Rng.rng | with_reducible apply Rng.tl)) ?_
    refine cl (types_named hs (hnm _ (List.getElem_mem _))) ?_
    rintro _ w ⟨rfl, hs⟩
    have hstep : ∀ q, setLeft l (i + 1) = q ↔ (if namedB l[i].name = false ∨ (l.take i).any (fun x => decide (x.name = l[i].name)) = true ∨ l[i].power < 1 ∨ left < l[i].power then none else some (left - l[i].power)) = q := by
      intro q; unfold setLeft; rw [hleft, Option.bind_some, List.getElem?_eq_getElem hi']
    have hle := setLeft_le hleft
    have hbad : ∀ {K : Value → World → Prop}, (namedB l[i].name = false ∨ (l.take i).any (fun x => decide (x.name = l[i].name)) = true ∨ l[i].power < 1 ∨ left < l[i].power) → (∀ r w, Sep b w ((errF r (if (setLeft l l.length).isSome = true then 0 else 30)).it :: L) → K r w) →
        C Tryz.prog N.types_fault #[.string ⟨#[118, 97, 108, 105, 100, 97, 116, 111, 114]⟩, .int .i64 30] w K := by
      intro K hc hK
      have : setLeft l l.length = none := setLeft_none ((hstep none).2 (if_pos hc)) _ hi'
      rw [this] at hK
      refine cl (types_fault (by decide) (by decide) (by decide) hs) ?_
      rintro r w hs
      exact hK r w (hs.sbl (by repeat (first | with_reducible exact Sbl.all | with_reducible exact Sbl.nil | refine Sbl.cons (by first | ((repeat (first | with_reducible exact Has.hd | with_reducible apply Has.tl)); done) | (repeat (first | exact Has.hd | with_reducible apply Has.tl))) ?_ | refine Sbl.drop ?_)))
    cases h1 : namedB l[i].name with
    | false =>
      repeat (first
       | (with_reducible (first | refine st_lens ?_ | refine st_eqls ?_ | refine mv.mk ?_ | refine gd_u ?_ | refine gd_ft ?_ | refine gd_tf ?_ | refine gd_i ?_ | refine pk_t ?_ | refine pk_f ?_ | refine br_t ?_ | refine br_f ?_))
       | (with_reducible ((first | apply st_bin | apply st_len | apply st_un | apply st_mkf); intro k' hk; simp [go_sem, thenR_ok, bin]; refine hk _ _ ?_; clear hk k'))
       | ((with_reducible apply sp_newr hs); (· kernel_rfl); intro g w hs))
      exact hbad (.inl h1) fun r w hs => mv.mk hs
    | true =>
    repeat (first
     | (with_reducible (first | refine st_lens ?_ | refine st_eqls ?_ | refine mv.mk ?_ | refine gd_u ?_ | refine gd_ft ?_ | refine gd_tf ?_ | refine gd_i ?_ | refine pk_t ?_ | refine pk_f ?_ | refine br_t ?_ | refine br_f ?_))
     | (with_reducible ((first | apply st_bin | apply st_len | apply st_un | apply st_mkf); intro k' hk; simp [go_sem, thenR_ok, bin]; refine hk _ _ ?_; clear hk k'))
     | ((with_reducible apply sp_newr hs); (· kernel_rfl); intro g w hs))
    cases h2 : (l.take i).any (fun x => decide (x.name = l[i].name)) with
    | true =>
      repeat (first
       | (with_reducible (first | refine st_lens ?_ | refine st_eqls ?_ | refine mv.mk ?_ | refine gd_u ?_ | refine gd_ft ?_ | refine gd_tf ?_ | refine gd_i ?_ | refine pk_t ?_ | refine pk_f ?_ | refine br_t ?_ | refine br_f ?_))
       | (with_reducible ((first | apply st_bin | apply st_len | apply st_un | apply st_mkf); intro k' hk; simp [go_sem, thenR_ok, bin]; refine hk _ _ ?_; clear hk k'))
       | ((with_reducible apply sp_newr hs); (· kernel_rfl); intro g w hs))
      exact hbad (.inr (.inl h2)) fun r w hs => mv.mk hs
    | false =>
    repeat (first
     | (with_reducible (first | refine st_lens ?_ | refine st_eqls ?_ | refine mv.mk ?_ | refine gd_u ?_ | refine gd_ft ?_ | refine gd_tf ?_ | refine gd_i ?_ | refine pk_t ?_ | refine pk_f ?_ | refine br_t ?_ | refine br_f ?_))
     | (with_reducible ((first | apply st_bin | apply st_len | apply st_un | apply st_mkf); intro k' hk; simp [go_sem, thenR_ok, bin]; refine hk _ _ ?_; clear hk k'))
     | ((with_reducible apply sp_newr hs); (· kernel_rfl); intro g w hs))
    have hkey := hok.key
    repeat (first
     | (with_reducible refine vali.a0 ?_)
     | ((with_reducible apply vali.r0 hs); (· (with_reducible (repeat (first | exact .blk | exact .rng | apply Rng.tl)))))
     | (with_reducible refine vali.a2 ?_)
     | ((with_reducible apply vali.r2 hs); (· (with_reducible (repeat (first | exact .blk | exact .rng | apply Rng.tl)))); (· (with_reducible (first | assumption | exact z32 | exact u8s_len (by assumption)))))
     | (with_reducible (first | refine st_lens ?_ | refine st_eqls ?_ | refine mv.mk ?_ | refine gd_u ?_ | refine gd_ft ?_ | refine gd_tf ?_ | refine gd_i ?_ | refine pk_t ?_ | refine pk_f ?_ | refine br_t ?_ | refine br_f ?_))
     | (with_reducible ((first | apply st_bin | apply st_len | apply st_un | apply st_mkf); intro k' hk; simp [go_sem, thenR_ok, bin]; refine hk _ _ ?_; clear hk k'))
     | ((with_reducible apply sp_newr hs); (· kernel_rfl); intro g w hs))
    by_cases h3 : l[i].power < 1
    · rw [show decide (l[i].power < 1) = true by simpa using h3]
      repeat (first
       | (with_reducible (first | refine st_lens ?_ | refine st_eqls ?_ | refine mv.mk ?_ | refine gd_u ?_ | refine gd_ft ?_ | refine gd_tf ?_ | refine gd_i ?_ | refine pk_t ?_ | refine pk_f ?_ | refine br_t ?_ | refine br_f ?_))
       | (with_reducible ((first | apply st_bin | apply st_len | apply st_un | apply st_mkf); intro k' hk; simp [go_sem, thenR_ok, bin]; refine hk _ _ ?_; clear hk k'))
       | ((with_reducible apply sp_newr hs); (· kernel_rfl); intro g w hs))
      exact hbad (.inr (.inr (.inl h3))) fun r w hs => mv.mk hs
    rw [show decide (l[i].power < 1) = false by simpa using h3]
    repeat (first
     | (with_reducible refine vali.a0 ?_)
     | ((with_reducible apply vali.r0 hs); (· (with_reducible (repeat (first | exact .blk | exact .rng | apply Rng.tl)))))
     | (with_reducible refine vali.a2 ?_)
     | ((with_reducible apply vali.r2 hs); (· (with_reducible (repeat (first | exact .blk | exact .rng | apply Rng.tl)))); (· (with_reducible (first | assumption | exact z32 | exact u8s_len (by assumption)))))
     | (with_reducible (first | refine st_lens ?_ | refine st_eqls ?_ | refine mv.mk ?_ | refine gd_u ?_ | refine gd_ft ?_ | refine gd_tf ?_ | refine gd_i ?_ | refine pk_t ?_ | refine pk_f ?_ | refine br_t ?_ | refine br_f ?_))
     | (with_reducible ((first | apply st_bin | apply st_len | apply st_un | apply st_mkf); intro k' hk; simp [go_sem, thenR_ok, bin]; refine hk _ _ ?_; clear hk k'))
     | ((with_reducible apply sp_newr hs); (· kernel_rfl); intro g w hs))
    by_cases h4 : left < l[i].power
    · rw [show decide (left < l[i].power) = true by simpa using h4]
      repeat (first
       | (with_reducible (first | refine st_lens ?_ | refine st_eqls ?_ | refine mv.mk ?_ | refine gd_u ?_ | refine gd_ft ?_ | refine gd_tf ?_ | refine gd_i ?_ | refine pk_t ?_ | refine pk_f ?_ | refine br_t ?_ | refine br_f ?_))
       | (with_reducible ((first | apply st_bin | apply st_len | apply st_un | apply st_mkf); intro k' hk; simp [go_sem, thenR_ok, bin]; refine hk _ _ ?_; clear hk k'))
       | ((with_reducible apply sp_newr hs); (· kernel_rfl); intro g w hs))
      exact hbad (.inr (.inr (.inr h4))) fun r w hs => mv.mk hs
    rw [show decide (left < l[i].power) = false by simpa using h4]
    repeat (first
     | (with_reducible refine vali.a0 ?_)
     | ((with_reducible apply vali.r0 hs); (· (with_reducible (repeat (first | exact .blk | exact .rng | apply Rng.tl)))))
     | (with_reducible refine vali.a2 ?_)
     | ((with_reducible apply vali.r2 hs); (· (with_reducible (repeat (first | exact .blk | exact .rng | apply Rng.tl)))); (· (with_reducible (first | assumption | exact z32 | exact u8s_len (by assumption)))))
     | (with_reducible (first | refine st_lens ?_ | refine st_eqls ?_ | refine mv.mk ?_ | refine gd_u ?_ | refine gd_ft ?_ | refine gd_tf ?_ | refine gd_i ?_ | refine pk_t ?_ | refine pk_f ?_ | refine br_t ?_ | refine br_f ?_))
     | (with_reducible ((first | apply st_bin | apply st_len | apply st_un | apply st_mkf); intro k' hk; simp [go_sem, thenR_ok, bin]; refine hk _ _ ?_; clear hk k'))
     | ((with_reducible apply sp_newr hs); (· kernel_rfl); intro g w hs))
    rw [i64_wrap (by omega) (by omega), i64_succ (by omega)]
    refine ⟨⟨i + 1, left - l[i].power, _, _, _, rfl, hi', ?_, hs.sbl (by repeat (first | with_reducible exact Sbl.all | with_reducible exact Sbl.nil | refine Sbl.cons (by first | ((repeat (first | with_reducible exact Has.hd | with_reducible apply Has.tl)); done) | (repeat (first | exact Has.hd | with_reducible apply Has.tl))) ?_ | refine Sbl.drop ?_))⟩, by simp; omega⟩
    rw [hstep, if_neg (by simp only [h1, h2]; simp; omega)]
  · obtain rfl : i = l.length := by have := of_decide_eq_false hb; omega
    repeat with_reducible refine mv.mk ?_
    rw [hleft]
    exact errF_nil hs
/-- has a vote a validator of the set l that is o? -/
def signedBy (l : List Validator) (o : Validator) (v : Vote) : Bool := decide (0 ≤ v.validator) && (decide (v.validator < l.length) && match l[v.validator.toNat]? with
  | some x => decide (x.name = o.name) && decide (x.key = o.key)
  | none => false)
theorem types_VerifyTrust_1_1 {g1 g2 : Nat} {cs ds : List Value} {lv : Value} {v : Vote} {o : Validator} {l : List Validator} (hs : Sep b w L) (hv : Ins L (voteF cs v).it) (h1 : Rng L g1 0 [lv]) (hl : Ins L (listF valiF 34 lv l).it) (h2 : Rng L g2 0 ds) (hd : Ins L (valiF ds o).it) :
    C Tryz.prog N.types_VerifyTrust_1_1 #[.agg cs.toArray, .pointer (some ⟨g1, 0, none⟩), .pointer (some ⟨g2, 0, none⟩)] w fun r w' => r = .bool (signedBy l o v) ∧ Sep b w' L := by
  obtain ⟨sv, rfl, hvo, hsv⟩ : VoteS _ _ _ _ := hs.get hv
  obtain ⟨rfl, hoo⟩ := vali_of hs hd
  obtain ⟨A, c, rfl⟩ := hs.lst_len hl.lst
  have hblock := hvo.block
  have hkey := hoo.key
  refine C.types_VerifyTrust_1_1 ?_
  unfold F.types_VerifyTrust_1_1 signedBy
  refine sp_boxa hs fun g w hs => ?_
  have hS : ∀ w', w' = w.drew → Mayr _ w' := fun _ e => e ▸ hs.drew.mayr Sbl.all
  repeat (first
   | (with_reducible refine vote.c0 ?_)
   | ((with_reducible apply vote.e0); (· first | exact hS | exact hid); (· (with_reducible (repeat (first | exact .blk | exact .rng | apply Rng.tl)))))
   | (with_reducible refine vote.c1 ?_)
   | ((with_reducible apply vote.e1); (· first | exact hS | exact hid); (· (with_reducible (repeat (first | exact .blk | exact .rng | apply Rng.tl)))))
   | (with_reducible refine vote.c4 ?_)
   | ((with_reducible apply vote.e4); (· first | exact hS | exact hid); (· (with_reducible (repeat (first | exact .blk | exact .rng | apply Rng.tl)))); (· (with_reducible (first | assumption | exact z32 | exact u8s_len (by assumption)))))
   | (with_reducible (first | refine st_lens ?_ | refine st_eqls ?_ | refine tk_eqls ?_ | refine mv.mk ?_ | refine gdT_i ?_ | refine gdT_ft ?_ | refine gdT_tf ?_ | refine gdT_u ?_ | refine pk_t ?_ | refine pk_f ?_ | refine sp_boxa hs fun g w hs => ?_))
   | (with_reducible ((first | apply st_bin | apply st_len); intro k' hk; simp [go_sem, thenR_ok, bin]; refine hk _ _ ?_; clear hk k'))
   | ((with_reducible (first | apply tk_bin | apply tk_len)); (· intro w; simp [go_sem, bin]; rfl)))
  by_cases c1 : 0 ≤ v.validator
  rotate_left
  · rw [show decide (0 ≤ v.validator) = false by simpa using c1]
    repeat (first
     | (with_reducible (first | refine st_lens ?_ | refine st_eqls ?_ | refine tk_eqls ?_ | refine mv.mk ?_ | refine gdT_i ?_ | refine gdT_ft ?_ | refine gdT_tf ?_ | refine gdT_u ?_ | refine pk_t ?_ | refine pk_f ?_ | refine sp_boxa hs fun g w hs => ?_))
     | (with_reducible ((first | apply st_bin | apply st_len); intro k' hk; simp [go_sem, thenR_ok, bin]; refine hk _ _ ?_; clear hk k'))
     | ((with_reducible (first | apply tk_bin | apply tk_len)); (· intro w; simp [go_sem, bin]; rfl)))
    exact ⟨rfl, hs.drew.drop .hd⟩
  rw [show decide (0 ≤ v.validator) = true by simpa using c1]
  repeat (first
   | (with_reducible refine vote.c0 ?_)
   | ((with_reducible apply vote.e0); (· first | exact hS | exact hid); (· (with_reducible (repeat (first | exact .blk | exact .rng | apply Rng.tl)))))
   | (with_reducible refine vote.c1 ?_)
   | ((with_reducible apply vote.e1); (· first | exact hS | exact hid); (· (with_reducible (repeat (first | exact .blk | exact .rng | apply Rng.tl)))))
   | (with_reducible refine vote.c4 ?_)
   | ((with_reducible apply vote.e4); (· first | exact hS | exact hid); (· (with_reducible (repeat (first | exact .blk | exact .rng | apply Rng.tl)))); (· (with_reducible (first | assumption | exact z32 | exact u8s_len (by assumption)))))
   | (with_reducible (first | refine st_lens ?_ | refine st_eqls ?_ | refine tk_eqls ?_ | refine mv.mk ?_ | refine gdT_i ?_ | refine gdT_ft ?_ | refine gdT_tf ?_ | refine gdT_u ?_ | refine pk_t ?_ | refine pk_f ?_ | refine sp_boxa hs fun g w hs => ?_))
   | (with_reducible ((first | apply st_bin | apply st_len); intro k' hk; simp [go_sem, thenR_ok, bin]; refine hk _ _ ?_; clear hk k'))
   | ((with_reducible (first | apply tk_bin | apply tk_len)); (· intro w; simp [go_sem, bin]; rfl)))
  refine tk_ldx hS (.tl h1) (by kernel_rfl) ?_
  repeat (first
   | (with_reducible (first | refine st_lens ?_ | refine st_eqls ?_ | refine tk_eqls ?_ | refine mv.mk ?_ | refine gdT_i ?_ | refine gdT_ft ?_ | refine gdT_tf ?_ | refine gdT_u ?_ | refine pk_t ?_ | refine pk_f ?_ | refine sp_boxa hs fun g w hs => ?_))
   | (with_reducible ((first | apply st_bin | apply st_len); intro k' hk; simp [go_sem, thenR_ok, bin]; refine hk _ _ ?_; clear hk k'))
   | ((with_reducible (first | apply tk_bin | apply tk_len)); (· intro w; simp [go_sem, bin]; rfl)))
  by_cases c2 : v.validator < l.length
  rotate_left
  · rw [show decide (v.validator < (l.length : Int)) = false by simpa using c2]
    repeat (first
     | (with_reducible (first | refine st_lens ?_ | refine st_eqls ?_ | refine tk_eqls ?_ | refine mv.mk ?_ | refine gdT_i ?_ | refine gdT_ft ?_ | refine gdT_tf ?_ | refine gdT_u ?_ | refine pk_t ?_ | refine pk_f ?_ | refine sp_boxa hs fun g w hs => ?_))
     | (with_reducible ((first | apply st_bin | apply st_len); intro k' hk; simp [go_sem, thenR_ok, bin]; refine hk _ _ ?_; clear hk k'))
     | ((with_reducible (first | apply tk_bin | apply tk_len)); (· intro w; simp [go_sem, bin]; rfl)))
    exact ⟨rfl, hs.drew.drop .hd⟩
  rw [show decide (v.validator < (l.length : Int)) = true by simpa using c2]
  have hlt : v.validator.toNat < l.length := by omega
  have hvn : v.validator = (v.validator.toNat : Int) := by omega
  obtain ⟨g3, o3, xs, hrun, hxl, hs2⟩ := hs.el (.tl hl) tVals _ hlt
  obtain ⟨rfl, hxo⟩ := vali_of hs2 (x := l[v.validator.toNat]) (by repeat (first | with_reducible exact Ins.hd | with_reducible apply Ins.tl))
  have hxk := hxo.key
  have hS : ∀ w', w' = w.drew → Mayr _ w' := fun _ e => e ▸ hs2.drew.mayr Sbl.all
  rw [← hvn] at hrun
  repeat (first
   | (with_reducible (first | refine st_lens ?_ | refine st_eqls ?_ | refine tk_eqls ?_ | refine mv.mk ?_ | refine gdT_i ?_ | refine gdT_ft ?_ | refine gdT_tf ?_ | refine gdT_u ?_ | refine pk_t ?_ | refine pk_f ?_ | refine sp_boxa hs fun g w hs => ?_))
   | (with_reducible ((first | apply st_bin | apply st_len); intro k' hk; simp [go_sem, thenR_ok, bin]; refine hk _ _ ?_; clear hk k'))
   | ((with_reducible (first | apply tk_bin | apply tk_len)); (· intro w; simp [go_sem, bin]; rfl)))
  refine tk_ldx hS (.tl (.tl (.tl h1))) (by kernel_rfl) ?_
  repeat (first
   | (with_reducible refine vote.c0 ?_)
   | ((with_reducible apply vote.e0); (· first | exact hS | exact hid); (· (with_reducible (repeat (first | exact .blk | exact .rng | apply Rng.tl)))))
   | (with_reducible refine vote.c1 ?_)
   | ((with_reducible apply vote.e1); (· first | exact hS | exact hid); (· (with_reducible (repeat (first | exact .blk | exact .rng | apply Rng.tl)))))
   | (with_reducible refine vote.c4 ?_)
   | ((with_reducible apply vote.e4); (· first | exact hS | exact hid); (· (with_reducible (repeat (first | exact .blk | exact .rng | apply Rng.tl)))); (· (with_reducible (first | assumption | exact z32 | exact u8s_len (by assumption)))))
   | (with_reducible (first | refine st_lens ?_ | refine st_eqls ?_ | refine tk_eqls ?_ | refine mv.mk ?_ | refine gdT_i ?_ | refine gdT_ft ?_ | refine gdT_tf ?_ | refine gdT_u ?_ | refine pk_t ?_ | refine pk_f ?_ | refine sp_boxa hs fun g w hs => ?_))
   | (with_reducible ((first | apply st_bin | apply st_len); intro k' hk; simp [go_sem, thenR_ok, bin]; refine hk _ _ ?_; clear hk k'))
   | ((with_reducible (first | apply tk_bin | apply tk_len)); (· intro w; simp [go_sem, bin]; rfl)))
  refine tk_run (hrun .i64) ?_
  repeat (first
   | (with_reducible refine vali.c0 ?_)
   | ((with_reducible apply vali.e0); (· first | exact hS | exact hid); (· (with_reducible (repeat (first | exact .blk | exact .rng | apply Rng.tl)))))
   | (with_reducible refine vali.c1 ?_)
   | ((with_reducible apply vali.e1); (· first | exact hS | exact hid); (· (with_reducible (repeat (first | exact .blk | exact .rng | apply Rng.tl)))); (· (with_reducible (first | assumption | exact z32 | exact u8s_len (by assumption)))))
   | (with_reducible (first | refine st_lens ?_ | refine st_eqls ?_ | refine tk_eqls ?_ | refine mv.mk ?_ | refine gdT_i ?_ | refine gdT_ft ?_ | refine gdT_tf ?_ | refine gdT_u ?_ | refine pk_t ?_ | refine pk_f ?_ | refine sp_boxa hs fun g w hs => ?_))
   | (with_reducible ((first | apply st_bin | apply st_len); intro k' hk; simp [go_sem, thenR_ok, bin]; refine hk _ _ ?_; clear hk k'))
   | ((with_reducible (first | apply tk_bin | apply tk_len)); (· intro w; simp [go_sem, bin]; rfl)))
  refine vali.e0 hS (.tl (.tl (.tl h2))) ?_
  repeat (first
   | (with_reducible (first | refine st_lens ?_ | refine st_eqls ?_ | refine tk_eqls ?_ | refine mv.mk ?_ | refine gdT_i ?_ | refine gdT_ft ?_ | refine gdT_tf ?_ | refine gdT_u ?_ | refine pk_t ?_ | refine pk_f ?_ | refine sp_boxa hs fun g w hs => ?_))
   | (with_reducible ((first | apply st_bin | apply st_len); intro k' hk; simp [go_sem, thenR_ok, bin]; refine hk _ _ ?_; clear hk k'))
   | ((with_reducible (first | apply tk_bin | apply tk_len)); (· intro w; simp [go_sem, bin]; rfl)))
  rw [List.getElem?_eq_getElem hlt]
  repeat (first
   | (with_reducible (first | refine st_lens ?_ | refine st_eqls ?_ | refine tk_eqls ?_ | refine mv.mk ?_ | refine gdT_i ?_ | refine gdT_ft ?_ | refine gdT_tf ?_ | refine gdT_u ?_ | refine pk_t ?_ | refine pk_f ?_ | refine sp_boxa hs fun g w hs => ?_))
   | (with_reducible ((first | apply st_bin | apply st_len); intro k' hk; simp [go_sem, thenR_ok, bin]; refine hk _ _ ?_; clear hk k'))
   | ((with_reducible (first | apply tk_bin | apply tk_len)); (· intro w; simp [go_sem, bin]; rfl)))
  by_cases c3 : l[v.validator.toNat].name = o.name
  rotate_left
  · rw [show decide (l[v.validator.toNat].name = o.name) = false by simpa using c3]
    repeat (first
     | (with_reducible (first | refine st_lens ?_ | refine st_eqls ?_ | refine tk_eqls ?_ | refine mv.mk ?_ | refine gdT_i ?_ | refine gdT_ft ?_ | refine gdT_tf ?_ | refine gdT_u ?_ | refine pk_t ?_ | refine pk_f ?_ | refine sp_boxa hs fun g w hs => ?_))
     | (with_reducible ((first | apply st_bin | apply st_len); intro k' hk; simp [go_sem, thenR_ok, bin]; refine hk _ _ ?_; clear hk k'))
     | ((with_reducible (first | apply tk_bin | apply tk_len)); (· intro w; simp [go_sem, bin]; rfl)))
    exact ⟨by simp [c3], hs.drew.drop .hd⟩
  rw [show decide (l[v.validator.toNat].name = o.name) = true by simpa using c3]
  repeat (first
   | (with_reducible (first | refine st_lens ?_ | refine st_eqls ?_ | refine tk_eqls ?_ | refine mv.mk ?_ | refine gdT_i ?_ | refine gdT_ft ?_ | refine gdT_tf ?_ | refine gdT_u ?_ | refine pk_t ?_ | refine pk_f ?_ | refine sp_boxa hs fun g w hs => ?_))
   | (with_reducible ((first | apply st_bin | apply st_len); intro k' hk; simp [go_sem, thenR_ok, bin]; refine hk _ _ ?_; clear hk k'))
   | ((with_reducible (first | apply tk_bin | apply tk_len)); (· intro w; simp [go_sem, bin]; rfl)))
  refine tk_ldx hS (.tl (.tl (.tl h1))) (by kernel_rfl) ?_
  repeat (first
   | (with_reducible refine vote.c0 ?_)
   | ((with_reducible apply vote.e0); (· first | exact hS | exact hid); (· (with_reducible (repeat (first | exact .blk | exact .rng | apply Rng.tl)))))
   | (with_reducible refine vote.c1 ?_)
   | ((with_reducible apply vote.e1); (· first | exact hS | exact hid); (· (with_reducible (repeat (first | exact .blk | exact .rng | apply Rng.tl)))))
   | (with_reducible refine vote.c4 ?_)
   | ((with_reducible apply vote.e4); (· first | exact hS | exact hid); (· (with_reducible (repeat (first | exact .blk | exact .rng | apply Rng.tl)))); (· (with_reducible (first | assumption | exact z32 | exact u8s_len (by assumption)))))
   | (with_reducible (first | refine st_lens ?_ | refine st_eqls ?_ | refine tk_eqls ?_ | refine mv.mk ?_ | refine gdT_i ?_ | refine gdT_ft ?_ | refine gdT_tf ?_ | refine gdT_u ?_ | refine pk_t ?_ | refine pk_f ?_ | refine sp_boxa hs fun g w hs => ?_))
   | (with_reducible ((first | apply st_bin | apply st_len); intro k' hk; simp [go_sem, thenR_ok, bin]; refine hk _ _ ?_; clear hk k'))
   | ((with_reducible (first | apply tk_bin | apply tk_len)); (· intro w; simp [go_sem, bin]; rfl)))
  refine tk_run (hrun .i64) ?_
  repeat (first
   | (with_reducible refine vali.c0 ?_)
   | ((with_reducible apply vali.e0); (· first | exact hS | exact hid); (· (with_reducible (repeat (first | exact .blk | exact .rng | apply Rng.tl)))))
   | (with_reducible refine vali.c1 ?_)
   | ((with_reducible apply vali.e1); (· first | exact hS | exact hid); (· (with_reducible (repeat (first | exact .blk | exact .rng | apply Rng.tl)))); (· (with_reducible (first | assumption | exact z32 | exact u8s_len (by assumption)))))
   | (with_reducible (first | refine st_lens ?_ | refine st_eqls ?_ | refine tk_eqls ?_ | refine mv.mk ?_ | refine gdT_i ?_ | refine gdT_ft ?_ | refine gdT_tf ?_ | refine gdT_u ?_ | refine pk_t ?_ | refine pk_f ?_ | refine sp_boxa hs fun g w hs => ?_))
   | (with_reducible ((first | apply st_bin | apply st_len); intro k' hk; simp [go_sem, thenR_ok, bin]; refine hk _ _ ?_; clear hk k'))
   | ((with_reducible (first | apply tk_bin | apply tk_len)); (· intro w; simp [go_sem, bin]; rfl)))
  refine vali.e1 hS (.tl (.tl (.tl h2))) (u8s_len hkey) ?_
  repeat (first
   | (with_reducible (first | refine st_lens ?_ | refine st_eqls ?_ | refine tk_eqls ?_ | refine mv.mk ?_ | refine gdT_i ?_ | refine gdT_ft ?_ | refine gdT_tf ?_ | refine gdT_u ?_ | refine pk_t ?_ | refine pk_f ?_ | refine sp_boxa hs fun g w hs => ?_))
   | (with_reducible ((first | apply st_bin | apply st_len); intro k' hk; simp [go_sem, thenR_ok, bin]; refine hk _ _ ?_; clear hk k'))
   | ((with_reducible (first | apply tk_bin | apply tk_len)); (· intro w; simp [go_sem, bin]; rfl)))
  refine tk_run (hash_eq hxk hkey _ _) ?_
  repeat (first
   | (with_reducible (first | refine st_lens ?_ | refine st_eqls ?_ | refine tk_eqls ?_ | refine mv.mk ?_ | refine gdT_i ?_ | refine gdT_ft ?_ | refine gdT_tf ?_ | refine gdT_u ?_ | refine pk_t ?_ | refine pk_f ?_ | refine sp_boxa hs fun g w hs => ?_))
   | (with_reducible ((first | apply st_bin | apply st_len); intro k' hk; simp [go_sem, thenR_ok, bin]; refine hk _ _ ?_; clear hk k'))
   | ((with_reducible (first | apply tk_bin | apply tk_len)); (· intro w; simp [go_sem, bin]; rfl)))
  exact ⟨by simp [c3], hs.drew.drop .hd⟩
theorem slices_ContainsFunc_votes {g1 g2 : Nat} {ds : List Value} {lv : Value} {vs : List Vote} {o : Validator} {l : List Validator} (hs : Sep b w L) (hm : Ins L (listF voteF 37 sv vs).it) (hn : vs.length ≤ 4611686018427387904) (h1 : Rng L g1 0 [lv]) (hl : Ins L (listF valiF 34 lv l).it) (h2 : Rng L g2 0 ds) (hd : Ins L (valiF ds o).it) :
    C Tryz.prog N.slices_ContainsFunc_api_Vote_api_Vote #[sv, .func (.func N.types_VerifyTrust_1_1) #[] #[.pointer (some ⟨g1, 0, none⟩), .pointer (some ⟨g2, 0, none⟩)]] w fun r w' => r = .bool (vs.any (signedBy l o)) ∧ Sep b w' L := by
  refine C.slices_ContainsFunc_api_Vote_api_Vote ?_
  unfold F.slices_ContainsFunc_api_Vote_api_Vote
  repeat with_reducible refine mv.mk ?_
  refine C.slices_IndexFunc_api_Vote_api_Vote ?_
  show IdxBody Tryz.prog T.int T.sl_api_Vote T.api_Vote _ _ _ _
  refine idx_agg (p := signedBy l o) (by_ := 88) ltT adT tVotes (by kernel_rfl) hs hm.lst hn ?_ ?_
  · intro w i hi xs K hxl hs hK
    refine cv_g (by kernel_rfl) ?_
    refine cl (types_VerifyTrust_1_1 hs .hd (.tl h1) (.tl hl) (.tl h2) (.tl hd)) ?_
    rintro _ w ⟨rfl, hs⟩
    exact hK w (hs.drop .hd)
  · intro w hs
    repeat (first
     | (with_reducible (first | refine mv.mk ?_))
     | (with_reducible ((first | apply st_bin); intro k' hk; simp [go_sem, thenR_ok, bin]; refine hk _ _ ?_; clear hk k')))
    rw [idxOf_any]
    exact ⟨rfl, hs⟩
/-- the power of those of an older set that signed -/
def trustPower (old l : List Validator) (c : Commit) : Int := old.foldl (fun n o => if c.votes.any (signedBy l o) then IntKind.i64.wrap (n + o.power) else n) 0
def verifyTrust (old l : List Validator) (c : Commit) : Int := if IntKind.i64.wrap (3 * trustPower old l c) ≤ total old then 32 else 0
theorem types_VerifyTrust_1 {g1 g2 : Nat} {cs : List Value} {lv : Value} {o : Validator} {c : Commit} {l : List Validator} {cc : List Value} (hs : Sep b w L) (hv : Ins L (valiF cs o).it) (h1 : Rng L g1 0 cc) (hc : Ins L (commF cc c).it) (hn : c.votes.length ≤ 4611686018427387904) (h2 : Rng L g2 0 [lv]) (hl : Ins L (listF valiF 34 lv l).it) :
    C Tryz.prog N.types_VerifyTrust_1 #[.agg cs.toArray, .pointer (some ⟨g1, 0, none⟩), .pointer (some ⟨g2, 0, none⟩)] w fun r w' => r = .bool (c.votes.any (signedBy l o)) ∧ Sep b w' L := by
  obtain ⟨sv, rfl, hco, hsv⟩ : CommS _ _ _ _ := hs.get hc
  refine C.types_VerifyTrust_1 ?_
  unfold F.types_VerifyTrust_1
  replace hs := hs.fact (f := listF voteF 37 sv c.votes) hsv
  refine sp_boxa hs fun g w hs => ?_
  repeat with_reducible refine mv.mk ?_
  refine comm.l3 hs (.tl (.tl h1)) (u8s_len hco.block) ?_
  repeat (first
   | (with_reducible (first | refine mv.mk ?_ | refine sp_boxa hs fun g w hs => ?_))
   | (with_reducible ((first | apply st_mkf); intro k' hk; simp [go_sem, thenR_ok, bin]; refine hk _ _ ?_; clear hk k')))
  refine cl (slices_ContainsFunc_votes hs (by repeat (first | with_reducible exact Ins.hd | with_reducible apply Ins.tl)) hn (.tl (.tl h2)) (.tl (.tl hl)) (by repeat (first | with_reducible exact Rng.blk | with_reducible exact Rng.rng | with_reducible apply Rng.tl)) (.tl (.tl hv))) ?_
  rintro _ w ⟨rfl, hs⟩
  repeat with_reducible refine mv.mk ?_
  exact ⟨rfl, hs.sbl (by repeat (first | with_reducible exact Sbl.all | with_reducible exact Sbl.nil | refine Sbl.cons (by first | ((repeat (first | with_reducible exact Has.hd | with_reducible apply Has.tl)); done) | (repeat (first | exact Has.hd | with_reducible apply Has.tl))) ?_ | refine Sbl.drop ?_))⟩
theorem types_VerifyTrust {cc : List Value} {ov lv : Value} {c : Commit} {old l : List Validator} (hs : Sep b w L) (ho : Ins L (listF valiF 34 ov old).it) (hl : Ins L (listF valiF 34 lv l).it) (hc : Ins L (commF cc c).it) (hno : old.length ≤ 4611686018427387904) (hn : c.votes.length ≤ 4611686018427387904) :
    C Tryz.prog N.types_VerifyTrust #[ov, lv, .agg cc.toArray] w fun r w' => Sep b w' ((errF r (verifyTrust old l c)).it :: L) := by
  obtain ⟨A, cap, rfl⟩ := hs.lst_len ho.lst
  obtain ⟨A2, cap2, rfl⟩ := hs.lst_len hl.lst
  refine C.types_VerifyTrust ?_
  unfold F.types_VerifyTrust
  refine sp_box (cs := [.slice A2 l.length cap2]) hs rfl fun g1 w hs => ?_
  refine sp_boxa hs fun g2 w hs => ?_
  repeat (first
   | (with_reducible (first | refine st_lens ?_ | refine mv.mk ?_ | refine br_t ?_ | refine br_f ?_ | refine sp_boxa hs fun g w hs => ?_))
   | (with_reducible ((first | apply st_bin | apply st_len | apply st_mkf); intro k' hk; simp [go_sem, thenR_ok, bin]; refine hk _ _ ?_; clear hk k'))
   | ((with_reducible apply sp_newr hs); (· kernel_rfl); intro g w hs))
  refine lp_by (fun vs w' => ∃ i : Nat, vs = [.int .i64 (trustPower (old.take i) l c), .int .i64 i] ∧ i ≤ old.length ∧ Sep b w' (blkI g2 T.api_Commit cc :: blkI g1 T.sl_api_Validator [.slice A2 l.length cap2] :: L)) (fun vs _ => match vs with | [_, .int _ m] => old.length - m.toNat | _ => 0) ⟨0, rfl, Nat.zero_le _, hs⟩ ?_
  rintro x w ⟨i, hx, hi, hs⟩
  simp only [List.cons.injEq, and_true] at hx
  rw [hx.1, hx.2]
  repeat (first
   | (with_reducible (first | refine st_lens ?_ | refine mv.mk ?_ | refine br_t ?_ | refine br_f ?_ | refine sp_boxa hs fun g w hs => ?_))
   | (with_reducible ((first | apply st_bin | apply st_len | apply st_mkf); intro k' hk; simp [go_sem, thenR_ok, bin]; refine hk _ _ ?_; clear hk k'))
   | ((with_reducible apply sp_newr hs); (· kernel_rfl); intro g w hs))
  refine br_split (fun hb => ?_) (fun hb => ?_)
  · have hi' : i < old.length := by have := of_decide_eq_true hb; omega
    refine sp_eln hs (.tl (.tl ho.lst)) tVals (by kernel_rfl) i rfl hi' fun xs hxl hs => ?_
    have hv := hs.ok valiF_ok (cs := xs) (by repeat (first | with_reducible exact Ins.hd | with_reducible apply Ins.tl))
    obtain ⟨rfl, hok⟩ := vali_of hs (by repeat (first | with_reducible exact Ins.hd | with_reducible apply Ins.tl))
    have hkey := hok.key
    refine sp_newr hs (by kernel_rfl) fun g w hs => ?_
    refine sp_setr hs (by first | ((repeat (first | with_reducible exact Has.hd | with_reducible apply Has.tl)); done) | (repeat (first | exact Has.hd | with_reducible apply Has.tl))) (by kernel_rfl) hv.1 hv.2 fun w hs => ?_
    repeat with_reducible refine mv.mk ?_
    refine sp_loadall hs (by first | ((repeat (first | with_reducible exact Has.hd | with_reducible apply Has.tl)); done) | (repeat (first | exact Has.hd | with_reducible apply Has.tl))) (by kernel_rfl) hv.1 ?_
    refine cv_g (by kernel_rfl) ?_
    refine cl (types_VerifyTrust_1 (lv := .slice A2 l.length cap2) (cc := cc) (o := old[i]) hs (by repeat (first | with_reducible exact Ins.hd | with_reducible apply Ins.tl)) (by repeat (first | with_reducible exact Rng.blk | with_reducible exact Rng.rng | with_reducible apply Rng.tl)) (.tl (.tl (.tl (.tl hc)))) hn (by repeat (first | with_reducible exact Rng.blk | with_reducible exact Rng.rng | with_reducible apply Rng.tl)) (.tl (.tl (.tl (.tl hl))))) ?_
    rintro _ w ⟨rfl, hs⟩
    refine jn_by (fun vs w' => vs = [.int .i64 (trustPower (old.take (i + 1)) l c)] ∧ Sep b w' (blkI g2 T.api_Commit cc :: blkI g1 T.sl_api_Validator [.slice A2 l.length cap2] :: L)) ?_ ?_
    · have hst : trustPower (old.take (i + 1)) l c = if c.votes.any (signedBy l old[i]) then IntKind.i64.wrap (trustPower (old.take i) l c + old[i].power) else trustPower (old.take i) l c := by
        rw [trustPower, trustPower, foldl_take _ _ hi']
      refine br_split (fun hq => ?_) (fun hq => ?_)
      · repeat with_reducible refine mv.mk ?_
        refine vali.l2 hs (by repeat (first | with_reducible exact Rng.blk | with_reducible exact Rng.rng | with_reducible apply Rng.tl)) (u8s_len hkey) ?_
        repeat (first
         | (with_reducible (first | refine st_lens ?_ | refine mv.mk ?_ | refine br_t ?_ | refine br_f ?_ | refine sp_boxa hs fun g w hs => ?_))
         | (with_reducible ((first | apply st_bin | apply st_len | apply st_mkf); intro k' hk; simp [go_sem, thenR_ok, bin]; refine hk _ _ ?_; clear hk k'))
         | ((with_reducible apply sp_newr hs); (· kernel_rfl); intro g w hs))
        exact ⟨by rw [hst, if_pos hq], hs.sbl (by repeat (first | with_reducible exact Sbl.all | with_reducible exact Sbl.nil | refine Sbl.cons (by first | ((repeat (first | with_reducible exact Has.hd | with_reducible apply Has.tl)); done) | (repeat (first | exact Has.hd | with_reducible apply Has.tl))) ?_ | refine Sbl.drop ?_))⟩
      · exact ⟨by rw [hst, if_neg (by rw [hq]; decide)], hs.sbl (by repeat (first | with_reducible exact Sbl.all | with_reducible exact Sbl.nil | refine Sbl.cons (by first | ((repeat (first | with_reducible exact Has.hd | with_reducible apply Has.tl)); done) | (repeat (first | exact Has.hd | with_reducible apply Has.tl))) ?_ | refine Sbl.drop ?_))⟩
    · rintro x2 w ⟨e, hs⟩
      simp only [List.cons.injEq, and_true] at e
      rw [e]
      repeat (first
       | (with_reducible (first | refine st_lens ?_ | refine mv.mk ?_ | refine br_t ?_ | refine br_f ?_ | refine sp_boxa hs fun g w hs => ?_))
       | (with_reducible ((first | apply st_bin | apply st_len | apply st_mkf); intro k' hk; simp [go_sem, thenR_ok, bin]; refine hk _ _ ?_; clear hk k'))
       | ((with_reducible apply sp_newr hs); (· kernel_rfl); intro g w hs))
      rw [i64_succ (by omega)]
      exact ⟨⟨i + 1, rfl, hi', hs⟩, by simp; omega⟩
  · obtain rfl : i = old.length := by have := of_decide_eq_false hb; omega
    repeat (first
     | (with_reducible (first | refine st_lens ?_ | refine mv.mk ?_ | refine br_t ?_ | refine br_f ?_ | refine sp_boxa hs fun g w hs => ?_))
     | (with_reducible ((first | apply st_bin | apply st_len | apply st_mkf); intro k' hk; simp [go_sem, thenR_ok, bin]; refine hk _ _ ?_; clear hk k'))
     | ((with_reducible apply sp_newr hs); (· kernel_rfl); intro g w hs))
    refine cl (types_Total hs (.tl (.tl ho.lst)) hno) ?_
    rintro _ w ⟨rfl, hs⟩
    repeat (first
     | (with_reducible (first | refine st_lens ?_ | refine mv.mk ?_ | refine br_t ?_ | refine br_f ?_ | refine sp_boxa hs fun g w hs => ?_))
     | (with_reducible ((first | apply st_bin | apply st_len | apply st_mkf); intro k' hk; simp [go_sem, thenR_ok, bin]; refine hk _ _ ?_; clear hk k'))
     | ((with_reducible apply sp_newr hs); (· kernel_rfl); intro g w hs))
    unfold verifyTrust
    refine br_split (fun hq => ?_) (fun hq => ?_)
    · refine cl (types_fault (by decide) (by decide) (by decide) hs) ?_
      rintro r w hs
      repeat with_reducible refine mv.mk ?_
      rw [if_pos (by simpa using hq)]
      exact hs.sbl (by repeat (first | with_reducible exact Sbl.all | with_reducible exact Sbl.nil | refine Sbl.cons (by first | ((repeat (first | with_reducible exact Has.hd | with_reducible apply Has.tl)); done) | (repeat (first | exact Has.hd | with_reducible apply Has.tl))) ?_ | refine Sbl.drop ?_))
    · repeat with_reducible refine mv.mk ?_
      rw [if_neg (by simpa using hq)]
      exact (errF_nil hs).sbl (by repeat (first | with_reducible exact Sbl.all | with_reducible exact Sbl.nil | refine Sbl.cons (by first | ((repeat (first | with_reducible exact Has.hd | with_reducible apply Has.tl)); done) | (repeat (first | exact Has.hd | with_reducible apply Has.tl))) ?_ | refine Sbl.drop ?_))
theorem isthmuslaw11_num {e : Value} {n : Int} (hs : Sep b w L) (hT : Ins L errT.it) (hv : Ins L (errF e n).it) : C Tryz.prog N.isthmuslaw11_num #[e] w fun r w' => r = .int .i64 n ∧ Sep b w' L :=
  C.isthmuslaw11_num (num_call (F := F.isthmuslaw11_num) hs hT hv (fun _ _ _ => rfl) fun w hs => ⟨rfl, hs⟩)
end
end Go.Proofs.YtlfelmikcdmkhaaGreatDoor
