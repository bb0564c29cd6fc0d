/- Votes: is a vote one of a set's, in the document; has somebody voted in two ways, in both. -/
import Derived.Test.YtlfelmikcdmkhaaGreatDoorQ7
import Derived.Test.YtlfelmikcdmkhaaGreatDoorY5
set_option linter.unusedVariables false
set_option linter.unusedSimpArgs false
set_option linter.unusedSectionVars false
namespace Go.Proofs.YtlfelmikcdmkhaaGreatDoor
open Go Go.Isk Go.RowKit
set_option maxRecDepth 20000
def F.isthmusref11_VerifyVote_r2 (k : Value → World → Prop) (a0 a1 t6 t7 t49 : Value) (w : World) : Prop :=
  mv t49 fun t9 =>
  br t9 (fun _ =>
  mv (.int .i64 31) fun t8_1 =>
  k t8_1 w) (fun _ =>
  o1 Tryz.prog (Instr.loadAt 83 t6) w fun t51 w =>
  C Tryz.prog N.isthmusref06_Check #[t51] w fun t52 w =>
  o1 Tryz.prog (bin .neq 3 (.tmp 52) (.const (.int .i64 0)) t52 (.int .i64 0)) w fun t53 w =>
  mv t53 fun t50 =>
  br t50 (fun _ =>
  o1 Tryz.prog (Instr.loadAt 83 t6) w fun t54 w =>
  C Tryz.prog N.isthmusref06_Check #[t54] w fun t55 w =>
  mv t55 fun t8_2 =>
  k t8_2 w) (fun _ =>
  dr w.drew fun S1 =>
  mv a1 fun t57 =>
  tk Tryz.prog S1 (Instr.fieldAt 49 t7 4) fun t58 =>
  tk Tryz.prog S1 (Instr.loadAt 3 t58) fun t59 =>
  tk Tryz.prog S1 (Instr.indexAt 70 t57 t59) fun t60 =>
  tk Tryz.prog S1 (Instr.fieldAt 76 t60 1) fun t61 =>
  tk Tryz.prog S1 (Instr.loadAt 23 t61) fun t62 =>
  tk Tryz.prog S1 (Instr.loadAt 83 t6) fun t63 =>
  mv a0 fun t64 =>
  tk Tryz.prog S1 (Instr.loadAt 49 t7) fun t65 =>
  tk Tryz.prog S1 (Instr.fieldAt 49 t7 5) fun t67 =>
  tk Tryz.prog S1 (Instr.loadAt 39 t67) fun t68 =>
  C Tryz.prog N.isthmusref11_VoteBytes #[t64, t65] w.drew fun t66 w =>
  S1 w ∧
  C Tryz.prog N.isthmusref06_Verify #[t62, t63, t66, t68] w fun t69 w =>
  S1 w ∧
  tk Tryz.prog S1 (bin .neq 3 (.tmp 69) (.const (.int .i64 0)) t69 (.int .i64 0)) fun t70 =>
  mv t70 fun t56 =>
  br t56 (fun _ =>
  mv (.int .i64 21) fun t8_3 =>
  k t8_3 w) (fun _ =>
  mv (.int .i64 0) fun t8_4 =>
  k t8_4 w)))
section
variable {b : Base} {w : World} {L R : List It} {g6 g7 : Nat} {sv : Value} {cs : List Value} {chain : Bytes} {l : List Validator} {dg dp : Int} {v : Vote} {A : Option Addr} {c : Nat}
theorem rv_r2 {K : Value → World → Prop} (hs : Isk.Sep b w (blkI g7 T.api_Vote (voteC (.int .i64 v.kind) (.int .i64 v.height) (.int .i64 v.round) (u8s v.block) (.int .i64 v.validator) sv) :: blkI g6 T.api_Params [.int .i64 dg, .int .i64 dp] :: (byF sv v.sign).it :: (voteF (voteC (.int .i64 v.kind) (.int .i64 v.height) (.int .i64 v.round) (u8s v.block) (.int .i64 v.validator) sv) v).it :: L))
    (hl : Ins L (listF valiF 34 (.slice A l.length c) l).it) (hsl : v.sign.length ≤ 2147483648) (hch : (encVoteBytes chain v).length + 10 ≤ 2147483648)
    (hK : ∀ w', Isk.Sep b w' L → K (.int .i64 (verifyVote chain l dg dp v)) w') :
    F.isthmusref11_VerifyVote_r2 K (str chain) (.slice A l.length c) (.pointer (some ⟨g6, 0, none⟩)) (.pointer (some ⟨g7, 0, none⟩)) (.bool (decide (voteBad l.length v))) w := by
  obtain ⟨_, _, hvo, _⟩ : VoteS _ _ _ _ := hs.get (.tl (.tl (.tl .hd)))
  have hblock := hvo.block
  have hvl := voteC_len (a0 := .int .i64 v.kind) (a1 := .int .i64 v.height) (a2 := .int .i64 v.round) (a3 := u8s v.block) (a4 := .int .i64 v.validator) (a5 := sv) (u8s_len hblock)
  unfold F.isthmusref11_VerifyVote_r2
  by_cases hb : voteBad l.length v
  · rw [decide_eq_true hb]
    rw [verifyVote, if_pos hb] at hK
    repeat (first
     | (with_reducible (first | refine st_nels ?_ | refine tk_nels ?_ | refine mv.mk ?_ | refine br_t ?_ | refine br_f ?_))
     | (with_reducible ((first | apply st_bin); intro k' hk; simp [go_sem, thenR_ok, bin]; refine hk _ _ ?_; clear hk k'))
     | ((with_reducible (first | apply tk_bin)); (· intro w; simp [go_sem, bin]; rfl)))
    exact hK w (hs.sbl (.drop (.drop (.drop (.drop .all)))))
  rw [decide_eq_false hb]
  rw [verifyVote, if_neg hb] at hK
  have hlt : v.validator.toNat < l.length := by unfold voteBad at hb; omega
  have hlt2 : v.validator = (v.validator.toNat : Int) := by unfold voteBad at hb; omega
  repeat with_reducible refine mv.mk ?_
  refine br_f ?_
  refine sp_loadall hs (.tl .hd) (by kernel_rfl) rfl ?_
  refine cl (isthmusref06_Check hs) ?_
  rintro _ w ⟨rfl, hs⟩
  refine st_of (n_neq _) ?_
  by_cases hc : kCheck dg dp = 0
  rotate_left
  · rw [decide_eq_false hc]
    rw [if_pos hc] at hK
    repeat with_reducible refine mv.mk ?_
    refine br_t ?_
    refine sp_loadall hs (.tl .hd) (by kernel_rfl) rfl ?_
    refine cl (isthmusref06_Check hs) ?_
    rintro _ w ⟨rfl, hs⟩
    repeat with_reducible refine mv.mk ?_
    exact hK _ (hs.sbl (.drop (.drop (.drop (.drop .all)))))
  rw [decide_eq_true hc]
  rw [if_neg (by simpa using hc)] at hK
  repeat with_reducible refine mv.mk ?_
  refine br_f ?_
  obtain ⟨g3, o3, xs, hrun, hxl, hs2⟩ := hs.drew.el (F := valiF) (sv := .slice A l.length c) (ls := l) (.tl (.tl (.tl (.tl hl)))) tVals _ hlt
  obtain ⟨rfl, hxo⟩ := vali_of hs2 (x := l[v.validator.toNat]) (by repeat (first | with_reducible exact Ins.hd | with_reducible apply Ins.tl))
  have hxk := hxo.key
  have hkey : keyOf l v.validator = l[v.validator.toNat].key := by unfold keyOf; rw [List.getElem?_eq_getElem hlt]
  rw [← hlt2] at hrun
  clear hs
  refine dr_can hs2 .all ?_
  generalize hLL : ((_ : It) :: (valiF _ l[v.validator.toNat]).it :: _) = LL at hs2
  have hS := hid (L := LL)
  subst hLL
  obtain ⟨A3, c3, hsv⟩ := bytesF_slice (hs2) (v := sv) (l := v.sign) (by repeat (first | with_reducible exact Ins.hd | with_reducible apply Ins.tl))
  subst hsv
  repeat (first
   | (with_reducible refine vote.a1 ?_)
   | ((with_reducible apply vote.r1 hs); (· (with_reducible (repeat (first | exact .blk | exact .rng | apply Rng.tl)))))
   | (with_reducible refine vote.c1 ?_)
   | ((with_reducible apply vote.e1); (· first | exact hS | exact hid); (· (with_reducible (repeat (first | exact .blk | exact .rng | apply Rng.tl)))))
   | (with_reducible refine vote.a4 ?_)
   | ((with_reducible apply vote.r4 hs); (· (with_reducible (repeat (first | exact .blk | exact .rng | apply Rng.tl)))); (· (with_reducible (first | assumption | exact z32 | exact u8s_len (by assumption)))))
   | (with_reducible refine vote.c4 ?_)
   | ((with_reducible apply vote.e4); (· first | exact hS | exact hid); (· (with_reducible (repeat (first | exact .blk | exact .rng | apply Rng.tl)))); (· (with_reducible (first | assumption | exact z32 | exact u8s_len (by assumption)))))
   | (with_reducible refine vote.a5 ?_)
   | ((with_reducible apply vote.r5 hs); (· (with_reducible (repeat (first | exact .blk | exact .rng | apply Rng.tl)))); (· (with_reducible (first | assumption | exact z32 | exact u8s_len (by assumption)))))
   | (with_reducible refine vote.c5 ?_)
   | ((with_reducible apply vote.e5); (· first | exact hS | exact hid); (· (with_reducible (repeat (first | exact .blk | exact .rng | apply Rng.tl)))); (· (with_reducible (first | assumption | exact z32 | exact u8s_len (by assumption)))))
   | (with_reducible (first | refine st_nels ?_ | refine tk_nels ?_ | refine mv.mk ?_ | refine br_t ?_ | refine br_f ?_))
   | (with_reducible ((first | apply st_bin); intro k' hk; simp [go_sem, thenR_ok, bin]; refine hk _ _ ?_; clear hk k'))
   | ((with_reducible (first | apply tk_bin)); (· intro w; simp [go_sem, bin]; rfl)))
  refine tk_run (hrun .i64) ?_
  repeat (first
   | (with_reducible refine vali.a1 ?_)
   | ((with_reducible apply vali.r1 hs); (· (with_reducible (repeat (first | exact .blk | exact .rng | apply Rng.tl)))); (· (with_reducible (first | assumption | exact z32 | exact u8s_len (by assumption)))))
   | (with_reducible refine vali.c1 ?_)
   | ((with_reducible apply vali.e1); (· first | exact hS | exact hid); (· (with_reducible (repeat (first | exact .blk | exact .rng | apply Rng.tl)))); (· (with_reducible (first | assumption | exact z32 | exact u8s_len (by assumption)))))
   | (with_reducible (first | refine st_nels ?_ | refine tk_nels ?_ | refine mv.mk ?_ | refine br_t ?_ | refine br_f ?_))
   | (with_reducible ((first | apply st_bin); intro k' hk; simp [go_sem, thenR_ok, bin]; refine hk _ _ ?_; clear hk k'))
   | ((with_reducible (first | apply tk_bin)); (· intro w; simp [go_sem, bin]; rfl)))
  refine tk_ldn hS (.tl (.tl (.tl (by repeat (first | with_reducible exact Rng.blk | with_reducible exact Rng.rng | with_reducible apply Rng.tl))))) (by kernel_rfl) rfl ?_
  repeat (first
   | (with_reducible (first | refine st_nels ?_ | refine tk_nels ?_ | refine mv.mk ?_ | refine br_t ?_ | refine br_f ?_))
   | (with_reducible ((first | apply st_bin); intro k' hk; simp [go_sem, thenR_ok, bin]; refine hk _ _ ?_; clear hk k'))
   | ((with_reducible (first | apply tk_bin)); (· intro w; simp [go_sem, bin]; rfl)))
  refine tk_ldn hS (.tl (.tl (by repeat (first | with_reducible exact Rng.blk | with_reducible exact Rng.rng | with_reducible apply Rng.tl)))) (by kernel_rfl) hvl ?_
  repeat (first
   | (with_reducible refine vote.a1 ?_)
   | ((with_reducible apply vote.r1 hs); (· (with_reducible (repeat (first | exact .blk | exact .rng | apply Rng.tl)))))
   | (with_reducible refine vote.c1 ?_)
   | ((with_reducible apply vote.e1); (· first | exact hS | exact hid); (· (with_reducible (repeat (first | exact .blk | exact .rng | apply Rng.tl)))))
   | (with_reducible refine vote.a4 ?_)
   | ((with_reducible apply vote.r4 hs); (· (with_reducible (repeat (first | exact .blk | exact .rng | apply Rng.tl)))); (· (with_reducible (first | assumption | exact z32 | exact u8s_len (by assumption)))))
   | (with_reducible refine vote.c4 ?_)
   | ((with_reducible apply vote.e4); (· first | exact hS | exact hid); (· (with_reducible (repeat (first | exact .blk | exact .rng | apply Rng.tl)))); (· (with_reducible (first | assumption | exact z32 | exact u8s_len (by assumption)))))
   | (with_reducible refine vote.a5 ?_)
   | ((with_reducible apply vote.r5 hs); (· (with_reducible (repeat (first | exact .blk | exact .rng | apply Rng.tl)))); (· (with_reducible (first | assumption | exact z32 | exact u8s_len (by assumption)))))
   | (with_reducible refine vote.c5 ?_)
   | ((with_reducible apply vote.e5); (· first | exact hS | exact hid); (· (with_reducible (repeat (first | exact .blk | exact .rng | apply Rng.tl)))); (· (with_reducible (first | assumption | exact z32 | exact u8s_len (by assumption)))))
   | (with_reducible (first | refine st_nels ?_ | refine tk_nels ?_ | refine mv.mk ?_ | refine br_t ?_ | refine br_f ?_))
   | (with_reducible ((first | apply st_bin); intro k' hk; simp [go_sem, thenR_ok, bin]; refine hk _ _ ?_; clear hk k'))
   | ((with_reducible (first | apply tk_bin)); (· intro w; simp [go_sem, bin]; rfl)))
  have hvs : VoteS _ _ _ v := hs2.get (I := (voteF _ v).it) (.tl (.tl (.tl (.tl (.tl .hd)))))
  refine cl (isthmusref11_VoteBytes hvs.is hch) ?_
  rintro rv w' hN
  replace hs2 := newB_sep hs2 hN
  clear hN hvs
  refine ⟨hs2.mayr (.drop .all), ?_⟩
  refine cl (isthmusref06_Verify (root := l[v.validator.toNat].key) (text := encVoteBytes chain v) (sign := v.sign) hs2 .hd (.tl (.tl (.tl (.tl (.tl .hd))))) hsl (by omega) hxk) ?_
  rintro _ w2 ⟨rfl, hs⟩
  refine ⟨hs.mayr (.drop .all), ?_⟩
  rw [← hkey]
  refine tk_run (fun w => n_neq w) ?_
  by_cases hv : verifyK (keyOf l v.validator) dg dp (encVoteBytes chain v) v.sign = 0
  · rw [decide_eq_true hv, Bool.not_true]
    rw [if_neg (by simpa using hv)] at hK
    repeat (first
     | (with_reducible (first | refine st_nels ?_ | refine tk_nels ?_ | refine mv.mk ?_ | refine br_t ?_ | refine br_f ?_))
     | (with_reducible ((first | apply st_bin); intro k' hk; simp [go_sem, thenR_ok, bin]; refine hk _ _ ?_; clear hk k'))
     | ((with_reducible (first | apply tk_bin)); (· intro w; simp [go_sem, bin]; rfl)))
    exact hK _ (hs.sbl (.drop (.drop (.drop (.drop (.drop (.drop (.drop .all))))))))
  · rw [decide_eq_false hv, Bool.not_false]
    rw [if_pos hv] at hK
    repeat (first
     | (with_reducible (first | refine st_nels ?_ | refine tk_nels ?_ | refine mv.mk ?_ | refine br_t ?_ | refine br_f ?_))
     | (with_reducible ((first | apply st_bin); intro k' hk; simp [go_sem, thenR_ok, bin]; refine hk _ _ ?_; clear hk k'))
     | ((with_reducible (first | apply tk_bin)); (· intro w; simp [go_sem, bin]; rfl)))
    exact hK _ (hs.sbl (.drop (.drop (.drop (.drop (.drop (.drop (.drop .all))))))))
theorem isthmusref11_VerifyVote {lv : Value} (hs : Isk.Sep b w L) (hl : Ins L (listF valiF 34 lv l).it) (hv : Ins L (voteF cs v).it) (hsl : v.sign.length ≤ 2147483648) (hch : (encVoteBytes chain v).length + 10 ≤ 2147483648) :
    C Tryz.prog N.isthmusref11_VerifyVote #[str chain, lv, .agg #[.int .i64 dg, .int .i64 dp], .agg cs.toArray] w fun r w' => r = .int .i64 (verifyVote chain l dg dp v) ∧ Isk.Sep b w' L := by
  obtain ⟨A, c, rfl⟩ := hs.lst_len hl.lst
  have hvs : VoteS _ _ _ v := hs.get hv
  obtain ⟨sv, rfl, hvo, hsv⟩ := id hvs
  have hblock := hvo.block
  refine C.isthmusref11_VerifyVote ?_
  unfold F.isthmusref11_VerifyVote
  replace hs := hs.fact (f := voteF _ v) hvs
  replace hs := vote_sign hs .hd
  refine sp_box (cs := [.int .i64 dg, .int .i64 dp]) hs rfl fun g6 w hs => ?_
  refine sp_boxa hs fun g7 w hs => ?_
  have hend : ∀ (bb : Bool), decide (voteBad l.length v) = bb → F.isthmusref11_VerifyVote_r2 (fun r w' => r = .int .i64 (verifyVote chain l dg dp v) ∧ Isk.Sep b w' L) (str chain) (.slice A l.length c) (.pointer (some ⟨g6, 0, none⟩)) (.pointer (some ⟨g7, 0, none⟩)) (.bool bb) w := fun bb e => by
    subst e; exact rv_r2 hs hl hsl hch fun w h => ⟨rfl, h⟩
  have hk : kindOk v = decide (¬ v.kind < 1 ∧ ¬ 2 < v.kind) := by
    unfold kindOk
    rw [Bool.eq_iff_iff]
    simp
    omega
  have hbad : voteBad l.length v → (Value.int .i64 31 = .int .i64 (verifyVote chain l dg dp v) ∧ Isk.Sep b w L) := fun h => ⟨by rw [verifyVote, if_pos h], hs.sbl (.drop (.drop (.drop (.drop .all))))⟩
  repeat (first
   | (with_reducible refine vote.a0 ?_)
   | ((with_reducible apply vote.r0 hs); (· (with_reducible (repeat (first | exact .blk | exact .rng | apply Rng.tl)))))
   | (with_reducible refine vote.c0 ?_)
   | ((with_reducible apply vote.e0); (· first | exact hS | exact hid); (· (with_reducible (repeat (first | exact .blk | exact .rng | apply Rng.tl)))))
   | (with_reducible refine vote.a1 ?_)
   | ((with_reducible apply vote.r1 hs); (· (with_reducible (repeat (first | exact .blk | exact .rng | apply Rng.tl)))))
   | (with_reducible refine vote.c1 ?_)
   | ((with_reducible apply vote.e1); (· first | exact hS | exact hid); (· (with_reducible (repeat (first | exact .blk | exact .rng | apply Rng.tl)))))
   | (with_reducible refine vote.a2 ?_)
   | ((with_reducible apply vote.r2 hs); (· (with_reducible (repeat (first | exact .blk | exact .rng | apply Rng.tl)))))
   | (with_reducible refine vote.c2 ?_)
   | ((with_reducible apply vote.e2); (· first | exact hS | exact hid); (· (with_reducible (repeat (first | exact .blk | exact .rng | apply Rng.tl)))))
   | (with_reducible refine vote.a4 ?_)
   | ((with_reducible apply vote.r4 hs); (· (with_reducible (repeat (first | exact .blk | exact .rng | apply Rng.tl)))); (· (with_reducible (first | assumption | exact z32 | exact u8s_len (by assumption)))))
   | (with_reducible refine vote.c4 ?_)
   | ((with_reducible apply vote.e4); (· first | exact hS | exact hid); (· (with_reducible (repeat (first | exact .blk | exact .rng | apply Rng.tl)))); (· (with_reducible (first | assumption | exact z32 | exact u8s_len (by assumption)))))
   | (with_reducible refine vote.a5 ?_)
   | ((with_reducible apply vote.r5 hs); (· (with_reducible (repeat (first | exact .blk | exact .rng | apply Rng.tl)))); (· (with_reducible (first | assumption | exact z32 | exact u8s_len (by assumption)))))
   | (with_reducible refine vote.c5 ?_)
   | ((with_reducible apply vote.e5); (· first | exact hS | exact hid); (· (with_reducible (repeat (first | exact .blk | exact .rng | apply Rng.tl)))); (· (with_reducible (first | assumption | exact z32 | exact u8s_len (by assumption)))))
   | (with_reducible (first | refine st_lens ?_ | refine st_nels ?_ | refine tk_nels ?_ | refine mv.mk ?_ | refine gd_u ?_ | refine gd_ft ?_ | refine gd_tf ?_ | refine gd_i ?_ | refine pk_t ?_ | refine pk_f ?_ | refine br_t ?_ | refine br_f ?_ | refine sp_boxa hs fun g w hs => ?_))
   | (with_reducible ((first | apply st_bin | apply st_len); intro k' hk; simp [go_sem, thenR_ok, bin]; refine hk _ _ ?_; clear hk k'))
   | ((with_reducible (first | apply tk_bin)); (· intro w; simp [go_sem, bin]; rfl)))
  by_cases c0 : v.kind < 1
  · rw [decide_eq_true c0]
    repeat (first
     | (with_reducible (first | refine st_lens ?_ | refine st_nels ?_ | refine tk_nels ?_ | refine mv.mk ?_ | refine gd_u ?_ | refine gd_ft ?_ | refine gd_tf ?_ | refine gd_i ?_ | refine pk_t ?_ | refine pk_f ?_ | refine br_t ?_ | refine br_f ?_ | refine sp_boxa hs fun g w hs => ?_))
     | (with_reducible ((first | apply st_bin | apply st_len); intro k' hk; simp [go_sem, thenR_ok, bin]; refine hk _ _ ?_; clear hk k'))
     | ((with_reducible (first | apply tk_bin)); (· intro w; simp [go_sem, bin]; rfl)))
    exact hbad (.inl (by rw [hk]; simp [c0]))
  rw [decide_eq_false c0]
  repeat (first
   | (with_reducible refine vote.a0 ?_)
   | ((with_reducible apply vote.r0 hs); (· (with_reducible (repeat (first | exact .blk | exact .rng | apply Rng.tl)))))
   | (with_reducible refine vote.c0 ?_)
   | ((with_reducible apply vote.e0); (· first | exact hS | exact hid); (· (with_reducible (repeat (first | exact .blk | exact .rng | apply Rng.tl)))))
   | (with_reducible refine vote.a1 ?_)
   | ((with_reducible apply vote.r1 hs); (· (with_reducible (repeat (first | exact .blk | exact .rng | apply Rng.tl)))))
   | (with_reducible refine vote.c1 ?_)
   | ((with_reducible apply vote.e1); (· first | exact hS | exact hid); (· (with_reducible (repeat (first | exact .blk | exact .rng | apply Rng.tl)))))
   | (with_reducible refine vote.a2 ?_)
   | ((with_reducible apply vote.r2 hs); (· (with_reducible (repeat (first | exact .blk | exact .rng | apply Rng.tl)))))
   | (with_reducible refine vote.c2 ?_)
   | ((with_reducible apply vote.e2); (· first | exact hS | exact hid); (· (with_reducible (repeat (first | exact .blk | exact .rng | apply Rng.tl)))))
   | (with_reducible refine vote.a4 ?_)
   | ((with_reducible apply vote.r4 hs); (· (with_reducible (repeat (first | exact .blk | exact .rng | apply Rng.tl)))); (· (with_reducible (first | assumption | exact z32 | exact u8s_len (by assumption)))))
   | (with_reducible refine vote.c4 ?_)
   | ((with_reducible apply vote.e4); (· first | exact hS | exact hid); (· (with_reducible (repeat (first | exact .blk | exact .rng | apply Rng.tl)))); (· (with_reducible (first | assumption | exact z32 | exact u8s_len (by assumption)))))
   | (with_reducible refine vote.a5 ?_)
   | ((with_reducible apply vote.r5 hs); (· (with_reducible (repeat (first | exact .blk | exact .rng | apply Rng.tl)))); (· (with_reducible (first | assumption | exact z32 | exact u8s_len (by assumption)))))
   | (with_reducible refine vote.c5 ?_)
   | ((with_reducible apply vote.e5); (· first | exact hS | exact hid); (· (with_reducible (repeat (first | exact .blk | exact .rng | apply Rng.tl)))); (· (with_reducible (first | assumption | exact z32 | exact u8s_len (by assumption)))))
   | (with_reducible (first | refine st_lens ?_ | refine st_nels ?_ | refine tk_nels ?_ | refine mv.mk ?_ | refine gd_u ?_ | refine gd_ft ?_ | refine gd_tf ?_ | refine gd_i ?_ | refine pk_t ?_ | refine pk_f ?_ | refine br_t ?_ | refine br_f ?_ | refine sp_boxa hs fun g w hs => ?_))
   | (with_reducible ((first | apply st_bin | apply st_len); intro k' hk; simp [go_sem, thenR_ok, bin]; refine hk _ _ ?_; clear hk k'))
   | ((with_reducible (first | apply tk_bin)); (· intro w; simp [go_sem, bin]; rfl)))
  by_cases c0' : 2 < v.kind
  · rw [decide_eq_true c0']
    repeat (first
     | (with_reducible (first | refine st_lens ?_ | refine st_nels ?_ | refine tk_nels ?_ | refine mv.mk ?_ | refine gd_u ?_ | refine gd_ft ?_ | refine gd_tf ?_ | refine gd_i ?_ | refine pk_t ?_ | refine pk_f ?_ | refine br_t ?_ | refine br_f ?_ | refine sp_boxa hs fun g w hs => ?_))
     | (with_reducible ((first | apply st_bin | apply st_len); intro k' hk; simp [go_sem, thenR_ok, bin]; refine hk _ _ ?_; clear hk k'))
     | ((with_reducible (first | apply tk_bin)); (· intro w; simp [go_sem, bin]; rfl)))
    exact hbad (.inl (by rw [hk]; simp [c0']))
  rw [decide_eq_false c0']
  have ck : kindOk v = true := by rw [hk]; simp [c0, c0']
  repeat (first
   | (with_reducible refine vote.a0 ?_)
   | ((with_reducible apply vote.r0 hs); (· (with_reducible (repeat (first | exact .blk | exact .rng | apply Rng.tl)))))
   | (with_reducible refine vote.c0 ?_)
   | ((with_reducible apply vote.e0); (· first | exact hS | exact hid); (· (with_reducible (repeat (first | exact .blk | exact .rng | apply Rng.tl)))))
   | (with_reducible refine vote.a1 ?_)
   | ((with_reducible apply vote.r1 hs); (· (with_reducible (repeat (first | exact .blk | exact .rng | apply Rng.tl)))))
   | (with_reducible refine vote.c1 ?_)
   | ((with_reducible apply vote.e1); (· first | exact hS | exact hid); (· (with_reducible (repeat (first | exact .blk | exact .rng | apply Rng.tl)))))
   | (with_reducible refine vote.a2 ?_)
   | ((with_reducible apply vote.r2 hs); (· (with_reducible (repeat (first | exact .blk | exact .rng | apply Rng.tl)))))
   | (with_reducible refine vote.c2 ?_)
   | ((with_reducible apply vote.e2); (· first | exact hS | exact hid); (· (with_reducible (repeat (first | exact .blk | exact .rng | apply Rng.tl)))))
   | (with_reducible refine vote.a4 ?_)
   | ((with_reducible apply vote.r4 hs); (· (with_reducible (repeat (first | exact .blk | exact .rng | apply Rng.tl)))); (· (with_reducible (first | assumption | exact z32 | exact u8s_len (by assumption)))))
   | (with_reducible refine vote.c4 ?_)
   | ((with_reducible apply vote.e4); (· first | exact hS | exact hid); (· (with_reducible (repeat (first | exact .blk | exact .rng | apply Rng.tl)))); (· (with_reducible (first | assumption | exact z32 | exact u8s_len (by assumption)))))
   | (with_reducible refine vote.a5 ?_)
   | ((with_reducible apply vote.r5 hs); (· (with_reducible (repeat (first | exact .blk | exact .rng | apply Rng.tl)))); (· (with_reducible (first | assumption | exact z32 | exact u8s_len (by assumption)))))
   | (with_reducible refine vote.c5 ?_)
   | ((with_reducible apply vote.e5); (· first | exact hS | exact hid); (· (with_reducible (repeat (first | exact .blk | exact .rng | apply Rng.tl)))); (· (with_reducible (first | assumption | exact z32 | exact u8s_len (by assumption)))))
   | (with_reducible (first | refine st_lens ?_ | refine st_nels ?_ | refine tk_nels ?_ | refine mv.mk ?_ | refine gd_u ?_ | refine gd_ft ?_ | refine gd_tf ?_ | refine gd_i ?_ | refine pk_t ?_ | refine pk_f ?_ | refine br_t ?_ | refine br_f ?_ | refine sp_boxa hs fun g w hs => ?_))
   | (with_reducible ((first | apply st_bin | apply st_len); intro k' hk; simp [go_sem, thenR_ok, bin]; refine hk _ _ ?_; clear hk k'))
   | ((with_reducible (first | apply tk_bin)); (· intro w; simp [go_sem, bin]; rfl)))
  by_cases c1 : v.height < 1
  · rw [decide_eq_true c1]
    repeat (first
     | (with_reducible (first | refine st_lens ?_ | refine st_nels ?_ | refine tk_nels ?_ | refine mv.mk ?_ | refine gd_u ?_ | refine gd_ft ?_ | refine gd_tf ?_ | refine gd_i ?_ | refine pk_t ?_ | refine pk_f ?_ | refine br_t ?_ | refine br_f ?_ | refine sp_boxa hs fun g w hs => ?_))
     | (with_reducible ((first | apply st_bin | apply st_len); intro k' hk; simp [go_sem, thenR_ok, bin]; refine hk _ _ ?_; clear hk k'))
     | ((with_reducible (first | apply tk_bin)); (· intro w; simp [go_sem, bin]; rfl)))
    exact hbad (.inr (.inl c1))
  rw [decide_eq_false c1]
  repeat (first
   | (with_reducible refine vote.a0 ?_)
   | ((with_reducible apply vote.r0 hs); (· (with_reducible (repeat (first | exact .blk | exact .rng | apply Rng.tl)))))
   | (with_reducible refine vote.c0 ?_)
   | ((with_reducible apply vote.e0); (· first | exact hS | exact hid); (· (with_reducible (repeat (first | exact .blk | exact .rng | apply Rng.tl)))))
   | (with_reducible refine vote.a1 ?_)
   | ((with_reducible apply vote.r1 hs); (· (with_reducible (repeat (first | exact .blk | exact .rng | apply Rng.tl)))))
   | (with_reducible refine vote.c1 ?_)
   | ((with_reducible apply vote.e1); (· first | exact hS | exact hid); (· (with_reducible (repeat (first | exact .blk | exact .rng | apply Rng.tl)))))
   | (with_reducible refine vote.a2 ?_)
   | ((with_reducible apply vote.r2 hs); (· (with_reducible (repeat (first | exact .blk | exact .rng | apply Rng.tl)))))
   | (with_reducible refine vote.c2 ?_)
   | ((with_reducible apply vote.e2); (· first | exact hS | exact hid); (· (with_reducible (repeat (first | exact .blk | exact .rng | apply Rng.tl)))))
   | (with_reducible refine vote.a4 ?_)
   | ((with_reducible apply vote.r4 hs); (· (with_reducible (repeat (first | exact .blk | exact .rng | apply Rng.tl)))); (· (with_reducible (first | assumption | exact z32 | exact u8s_len (by assumption)))))
   | (with_reducible refine vote.c4 ?_)
   | ((with_reducible apply vote.e4); (· first | exact hS | exact hid); (· (with_reducible (repeat (first | exact .blk | exact .rng | apply Rng.tl)))); (· (with_reducible (first | assumption | exact z32 | exact u8s_len (by assumption)))))
   | (with_reducible refine vote.a5 ?_)
   | ((with_reducible apply vote.r5 hs); (· (with_reducible (repeat (first | exact .blk | exact .rng | apply Rng.tl)))); (· (with_reducible (first | assumption | exact z32 | exact u8s_len (by assumption)))))
   | (with_reducible refine vote.c5 ?_)
   | ((with_reducible apply vote.e5); (· first | exact hS | exact hid); (· (with_reducible (repeat (first | exact .blk | exact .rng | apply Rng.tl)))); (· (with_reducible (first | assumption | exact z32 | exact u8s_len (by assumption)))))
   | (with_reducible (first | refine st_lens ?_ | refine st_nels ?_ | refine tk_nels ?_ | refine mv.mk ?_ | refine gd_u ?_ | refine gd_ft ?_ | refine gd_tf ?_ | refine gd_i ?_ | refine pk_t ?_ | refine pk_f ?_ | refine br_t ?_ | refine br_f ?_ | refine sp_boxa hs fun g w hs => ?_))
   | (with_reducible ((first | apply st_bin | apply st_len); intro k' hk; simp [go_sem, thenR_ok, bin]; refine hk _ _ ?_; clear hk k'))
   | ((with_reducible (first | apply tk_bin)); (· intro w; simp [go_sem, bin]; rfl)))
  by_cases c2 : 1099511627776 < v.height
  · rw [decide_eq_true c2]
    repeat (first
     | (with_reducible (first | refine st_lens ?_ | refine st_nels ?_ | refine tk_nels ?_ | refine mv.mk ?_ | refine gd_u ?_ | refine gd_ft ?_ | refine gd_tf ?_ | refine gd_i ?_ | refine pk_t ?_ | refine pk_f ?_ | refine br_t ?_ | refine br_f ?_ | refine sp_boxa hs fun g w hs => ?_))
     | (with_reducible ((first | apply st_bin | apply st_len); intro k' hk; simp [go_sem, thenR_ok, bin]; refine hk _ _ ?_; clear hk k'))
     | ((with_reducible (first | apply tk_bin)); (· intro w; simp [go_sem, bin]; rfl)))
    exact hbad (.inr (.inr (.inl c2)))
  rw [decide_eq_false c2]
  repeat (first
   | (with_reducible refine vote.a0 ?_)
   | ((with_reducible apply vote.r0 hs); (· (with_reducible (repeat (first | exact .blk | exact .rng | apply Rng.tl)))))
   | (with_reducible refine vote.c0 ?_)
   | ((with_reducible apply vote.e0); (· first | exact hS | exact hid); (· (with_reducible (repeat (first | exact .blk | exact .rng | apply Rng.tl)))))
   | (with_reducible refine vote.a1 ?_)
   | ((with_reducible apply vote.r1 hs); (· (with_reducible (repeat (first | exact .blk | exact .rng | apply Rng.tl)))))
   | (with_reducible refine vote.c1 ?_)
   | ((with_reducible apply vote.e1); (· first | exact hS | exact hid); (· (with_reducible (repeat (first | exact .blk | exact .rng | apply Rng.tl)))))
   | (with_reducible refine vote.a2 ?_)
   | ((with_reducible apply vote.r2 hs); (· (with_reducible (repeat (first | exact .blk | exact .rng | apply Rng.tl)))))
   | (with_reducible refine vote.c2 ?_)
   | ((with_reducible apply vote.e2); (· first | exact hS | exact hid); (· (with_reducible (repeat (first | exact .blk | exact .rng | apply Rng.tl)))))
   | (with_reducible refine vote.a4 ?_)
   | ((with_reducible apply vote.r4 hs); (· (with_reducible (repeat (first | exact .blk | exact .rng | apply Rng.tl)))); (· (with_reducible (first | assumption | exact z32 | exact u8s_len (by assumption)))))
   | (with_reducible refine vote.c4 ?_)
   | ((with_reducible apply vote.e4); (· first | exact hS | exact hid); (· (with_reducible (repeat (first | exact .blk | exact .rng | apply Rng.tl)))); (· (with_reducible (first | assumption | exact z32 | exact u8s_len (by assumption)))))
   | (with_reducible refine vote.a5 ?_)
   | ((with_reducible apply vote.r5 hs); (· (with_reducible (repeat (first | exact .blk | exact .rng | apply Rng.tl)))); (· (with_reducible (first | assumption | exact z32 | exact u8s_len (by assumption)))))
   | (with_reducible refine vote.c5 ?_)
   | ((with_reducible apply vote.e5); (· first | exact hS | exact hid); (· (with_reducible (repeat (first | exact .blk | exact .rng | apply Rng.tl)))); (· (with_reducible (first | assumption | exact z32 | exact u8s_len (by assumption)))))
   | (with_reducible (first | refine st_lens ?_ | refine st_nels ?_ | refine tk_nels ?_ | refine mv.mk ?_ | refine gd_u ?_ | refine gd_ft ?_ | refine gd_tf ?_ | refine gd_i ?_ | refine pk_t ?_ | refine pk_f ?_ | refine br_t ?_ | refine br_f ?_ | refine sp_boxa hs fun g w hs => ?_))
   | (with_reducible ((first | apply st_bin | apply st_len); intro k' hk; simp [go_sem, thenR_ok, bin]; refine hk _ _ ?_; clear hk k'))
   | ((with_reducible (first | apply tk_bin)); (· intro w; simp [go_sem, bin]; rfl)))
  by_cases c3 : v.round < 0
  · rw [decide_eq_true c3]
    repeat (first
     | (with_reducible (first | refine st_lens ?_ | refine st_nels ?_ | refine tk_nels ?_ | refine mv.mk ?_ | refine gd_u ?_ | refine gd_ft ?_ | refine gd_tf ?_ | refine gd_i ?_ | refine pk_t ?_ | refine pk_f ?_ | refine br_t ?_ | refine br_f ?_ | refine sp_boxa hs fun g w hs => ?_))
     | (with_reducible ((first | apply st_bin | apply st_len); intro k' hk; simp [go_sem, thenR_ok, bin]; refine hk _ _ ?_; clear hk k'))
     | ((with_reducible (first | apply tk_bin)); (· intro w; simp [go_sem, bin]; rfl)))
    exact hbad (.inr (.inr (.inr (.inl c3))))
  rw [decide_eq_false c3]
  repeat (first
   | (with_reducible refine vote.a0 ?_)
   | ((with_reducible apply vote.r0 hs); (· (with_reducible (repeat (first | exact .blk | exact .rng | apply Rng.tl)))))
   | (with_reducible refine vote.c0 ?_)
   | ((with_reducible apply vote.e0); (· first | exact hS | exact hid); (· (with_reducible (repeat (first | exact .blk | exact .rng | apply Rng.tl)))))
   | (with_reducible refine vote.a1 ?_)
   | ((with_reducible apply vote.r1 hs); (· (with_reducible (repeat (first | exact .blk | exact .rng | apply Rng.tl)))))
   | (with_reducible refine vote.c1 ?_)
   | ((with_reducible apply vote.e1); (· first | exact hS | exact hid); (· (with_reducible (repeat (first | exact .blk | exact .rng | apply Rng.tl)))))
   | (with_reducible refine vote.a2 ?_)
   | ((with_reducible apply vote.r2 hs); (· (with_reducible (repeat (first | exact .blk | exact .rng | apply Rng.tl)))))
   | (with_reducible refine vote.c2 ?_)
   | ((with_reducible apply vote.e2); (· first | exact hS | exact hid); (· (with_reducible (repeat (first | exact .blk | exact .rng | apply Rng.tl)))))
   | (with_reducible refine vote.a4 ?_)
   | ((with_reducible apply vote.r4 hs); (· (with_reducible (repeat (first | exact .blk | exact .rng | apply Rng.tl)))); (· (with_reducible (first | assumption | exact z32 | exact u8s_len (by assumption)))))
   | (with_reducible refine vote.c4 ?_)
   | ((with_reducible apply vote.e4); (· first | exact hS | exact hid); (· (with_reducible (repeat (first | exact .blk | exact .rng | apply Rng.tl)))); (· (with_reducible (first | assumption | exact z32 | exact u8s_len (by assumption)))))
   | (with_reducible refine vote.a5 ?_)
   | ((with_reducible apply vote.r5 hs); (· (with_reducible (repeat (first | exact .blk | exact .rng | apply Rng.tl)))); (· (with_reducible (first | assumption | exact z32 | exact u8s_len (by assumption)))))
   | (with_reducible refine vote.c5 ?_)
   | ((with_reducible apply vote.e5); (· first | exact hS | exact hid); (· (with_reducible (repeat (first | exact .blk | exact .rng | apply Rng.tl)))); (· (with_reducible (first | assumption | exact z32 | exact u8s_len (by assumption)))))
   | (with_reducible (first | refine st_lens ?_ | refine st_nels ?_ | refine tk_nels ?_ | refine mv.mk ?_ | refine gd_u ?_ | refine gd_ft ?_ | refine gd_tf ?_ | refine gd_i ?_ | refine pk_t ?_ | refine pk_f ?_ | refine br_t ?_ | refine br_f ?_ | refine sp_boxa hs fun g w hs => ?_))
   | (with_reducible ((first | apply st_bin | apply st_len); intro k' hk; simp [go_sem, thenR_ok, bin]; refine hk _ _ ?_; clear hk k'))
   | ((with_reducible (first | apply tk_bin)); (· intro w; simp [go_sem, bin]; rfl)))
  by_cases c4 : 1073741824 < v.round
  · rw [decide_eq_true c4]
    repeat (first
     | (with_reducible (first | refine st_lens ?_ | refine st_nels ?_ | refine tk_nels ?_ | refine mv.mk ?_ | refine gd_u ?_ | refine gd_ft ?_ | refine gd_tf ?_ | refine gd_i ?_ | refine pk_t ?_ | refine pk_f ?_ | refine br_t ?_ | refine br_f ?_ | refine sp_boxa hs fun g w hs => ?_))
     | (with_reducible ((first | apply st_bin | apply st_len); intro k' hk; simp [go_sem, thenR_ok, bin]; refine hk _ _ ?_; clear hk k'))
     | ((with_reducible (first | apply tk_bin)); (· intro w; simp [go_sem, bin]; rfl)))
    exact hbad (.inr (.inr (.inr (.inr (.inl c4)))))
  rw [decide_eq_false c4]
  repeat (first
   | (with_reducible refine vote.a0 ?_)
   | ((with_reducible apply vote.r0 hs); (· (with_reducible (repeat (first | exact .blk | exact .rng | apply Rng.tl)))))
   | (with_reducible refine vote.c0 ?_)
   | ((with_reducible apply vote.e0); (· first | exact hS | exact hid); (· (with_reducible (repeat (first | exact .blk | exact .rng | apply Rng.tl)))))
   | (with_reducible refine vote.a1 ?_)
   | ((with_reducible apply vote.r1 hs); (· (with_reducible (repeat (first | exact .blk | exact .rng | apply Rng.tl)))))
   | (with_reducible refine vote.c1 ?_)
   | ((with_reducible apply vote.e1); (· first | exact hS | exact hid); (· (with_reducible (repeat (first | exact .blk | exact .rng | apply Rng.tl)))))
   | (with_reducible refine vote.a2 ?_)
   | ((with_reducible apply vote.r2 hs); (· (with_reducible (repeat (first | exact .blk | exact .rng | apply Rng.tl)))))
   | (with_reducible refine vote.c2 ?_)
   | ((with_reducible apply vote.e2); (· first | exact hS | exact hid); (· (with_reducible (repeat (first | exact .blk | exact .rng | apply Rng.tl)))))
   | (with_reducible refine vote.a4 ?_)
   | ((with_reducible apply vote.r4 hs); (· (with_reducible (repeat (first | exact .blk | exact .rng | apply Rng.tl)))); (· (with_reducible (first | assumption | exact z32 | exact u8s_len (by assumption)))))
   | (with_reducible refine vote.c4 ?_)
   | ((with_reducible apply vote.e4); (· first | exact hS | exact hid); (· (with_reducible (repeat (first | exact .blk | exact .rng | apply Rng.tl)))); (· (with_reducible (first | assumption | exact z32 | exact u8s_len (by assumption)))))
   | (with_reducible refine vote.a5 ?_)
   | ((with_reducible apply vote.r5 hs); (· (with_reducible (repeat (first | exact .blk | exact .rng | apply Rng.tl)))); (· (with_reducible (first | assumption | exact z32 | exact u8s_len (by assumption)))))
   | (with_reducible refine vote.c5 ?_)
   | ((with_reducible apply vote.e5); (· first | exact hS | exact hid); (· (with_reducible (repeat (first | exact .blk | exact .rng | apply Rng.tl)))); (· (with_reducible (first | assumption | exact z32 | exact u8s_len (by assumption)))))
   | (with_reducible (first | refine st_lens ?_ | refine st_nels ?_ | refine tk_nels ?_ | refine mv.mk ?_ | refine gd_u ?_ | refine gd_ft ?_ | refine gd_tf ?_ | refine gd_i ?_ | refine pk_t ?_ | refine pk_f ?_ | refine br_t ?_ | refine br_f ?_ | refine sp_boxa hs fun g w hs => ?_))
   | (with_reducible ((first | apply st_bin | apply st_len); intro k' hk; simp [go_sem, thenR_ok, bin]; refine hk _ _ ?_; clear hk k'))
   | ((with_reducible (first | apply tk_bin)); (· intro w; simp [go_sem, bin]; rfl)))
  by_cases c5 : v.validator < 0
  · rw [decide_eq_true c5]
    repeat (first
     | (with_reducible (first | refine st_lens ?_ | refine st_nels ?_ | refine tk_nels ?_ | refine mv.mk ?_ | refine gd_u ?_ | refine gd_ft ?_ | refine gd_tf ?_ | refine gd_i ?_ | refine pk_t ?_ | refine pk_f ?_ | refine br_t ?_ | refine br_f ?_ | refine sp_boxa hs fun g w hs => ?_))
     | (with_reducible ((first | apply st_bin | apply st_len); intro k' hk; simp [go_sem, thenR_ok, bin]; refine hk _ _ ?_; clear hk k'))
     | ((with_reducible (first | apply tk_bin)); (· intro w; simp [go_sem, bin]; rfl)))
    exact hbad (.inr (.inr (.inr (.inr (.inr (.inl c5))))))
  rw [decide_eq_false c5]
  repeat (first
   | (with_reducible refine vote.a0 ?_)
   | ((with_reducible apply vote.r0 hs); (· (with_reducible (repeat (first | exact .blk | exact .rng | apply Rng.tl)))))
   | (with_reducible refine vote.c0 ?_)
   | ((with_reducible apply vote.e0); (· first | exact hS | exact hid); (· (with_reducible (repeat (first | exact .blk | exact .rng | apply Rng.tl)))))
   | (with_reducible refine vote.a1 ?_)
   | ((with_reducible apply vote.r1 hs); (· (with_reducible (repeat (first | exact .blk | exact .rng | apply Rng.tl)))))
   | (with_reducible refine vote.c1 ?_)
   | ((with_reducible apply vote.e1); (· first | exact hS | exact hid); (· (with_reducible (repeat (first | exact .blk | exact .rng | apply Rng.tl)))))
   | (with_reducible refine vote.a2 ?_)
   | ((with_reducible apply vote.r2 hs); (· (with_reducible (repeat (first | exact .blk | exact .rng | apply Rng.tl)))))
   | (with_reducible refine vote.c2 ?_)
   | ((with_reducible apply vote.e2); (· first | exact hS | exact hid); (· (with_reducible (repeat (first | exact .blk | exact .rng | apply Rng.tl)))))
   | (with_reducible refine vote.a4 ?_)
   | ((with_reducible apply vote.r4 hs); (· (with_reducible (repeat (first | exact .blk | exact .rng | apply Rng.tl)))); (· (with_reducible (first | assumption | exact z32 | exact u8s_len (by assumption)))))
   | (with_reducible refine vote.c4 ?_)
   | ((with_reducible apply vote.e4); (· first | exact hS | exact hid); (· (with_reducible (repeat (first | exact .blk | exact .rng | apply Rng.tl)))); (· (with_reducible (first | assumption | exact z32 | exact u8s_len (by assumption)))))
   | (with_reducible refine vote.a5 ?_)
   | ((with_reducible apply vote.r5 hs); (· (with_reducible (repeat (first | exact .blk | exact .rng | apply Rng.tl)))); (· (with_reducible (first | assumption | exact z32 | exact u8s_len (by assumption)))))
   | (with_reducible refine vote.c5 ?_)
   | ((with_reducible apply vote.e5); (· first | exact hS | exact hid); (· (with_reducible (repeat (first | exact .blk | exact .rng | apply Rng.tl)))); (· (with_reducible (first | assumption | exact z32 | exact u8s_len (by assumption)))))
   | (with_reducible (first | refine st_lens ?_ | refine st_nels ?_ | refine tk_nels ?_ | refine mv.mk ?_ | refine gd_u ?_ | refine gd_ft ?_ | refine gd_tf ?_ | refine gd_i ?_ | refine pk_t ?_ | refine pk_f ?_ | refine br_t ?_ | refine br_f ?_ | refine sp_boxa hs fun g w hs => ?_))
   | (with_reducible ((first | apply st_bin | apply st_len); intro k' hk; simp [go_sem, thenR_ok, bin]; refine hk _ _ ?_; clear hk k'))
   | ((with_reducible (first | apply tk_bin)); (· intro w; simp [go_sem, bin]; rfl)))
  refine (show mv _ _ from hend (decide ((l.length : Int) ≤ v.validator)) (Bool.eq_iff_iff.2 ?_)).out
  rw [decide_eq_true_iff, decide_eq_true_iff]
  unfold voteBad
  simp only [ck, c1, c2, c3, c4, c5, false_or, Bool.true_eq_false]
end
end Go.Proofs.YtlfelmikcdmkhaaGreatDoor
set_option linter.unusedVariables false
set_option linter.unusedSimpArgs false
set_option linter.unusedSectionVars false
namespace Go.Proofs.YtlfelmikcdmkhaaGreatDoor
open Go Go.Isk Go.RowKit
set_option maxRecDepth 20000
def twoNo (x y : Vote) : Prop := ¬ x.kind = y.kind ∨ ¬ x.height = y.height ∨ ¬ x.round = y.round ∨ ¬ x.validator = y.validator ∨ x.block = y.block
instance {x y : Vote} : Decidable (twoNo x y) := by unfold twoNo; infer_instance
/-- 0 or the error's number -/
def twoWays (chain : Bytes) (l : List Validator) (dg dp : Int) (x y : Vote) : Int :=
  if verifyVote chain l dg dp x ≠ 0 then verifyVote chain l dg dp x
  else if verifyVote chain l dg dp y ≠ 0 then verifyVote chain l dg dp y
  else if twoNo x y then 31 else 0
section
variable {b : Base} {w : World} {L R : List It} {g6 g7 : Nat} {lv sv : Value} {cs ds : List Value} {chain : Bytes} {l : List Validator} {dg dp : Int} {x y : Vote} {A : Option Addr} {c : Nat}
theorem isthmusref11_TwoWays (hs : Isk.Sep b w L) (hl : Ins L (listF valiF 34 lv l).it) (hx : Ins L (voteF cs x).it) (hy : Ins L (voteF ds y).it) (hsx : x.sign.length ≤ 2147483648) (hsy : y.sign.length ≤ 2147483648)
    (hcx : (encVoteBytes chain x).length + 10 ≤ 2147483648) (hcy : (encVoteBytes chain y).length + 10 ≤ 2147483648) :
    C Tryz.prog N.isthmusref11_TwoWays #[str chain, lv, .agg #[.int .i64 dg, .int .i64 dp], .agg cs.toArray, .agg ds.toArray] w fun r w' => r = .int .i64 (twoWays chain l dg dp x y) ∧ Isk.Sep b w' L := by
  have hvx := hs.ok voteF_ok hx
  have hvy := hs.ok voteF_ok hy
  obtain ⟨sx, rfl, hox, _⟩ : VoteS _ _ cs x := hs.get hx
  obtain ⟨sy, rfl, hoy, _⟩ : VoteS _ _ ds y := hs.get hy
  have hbx := hox.block
  have hby := hoy.block
  refine C.isthmusref11_TwoWays ?_
  unfold F.isthmusref11_TwoWays
  refine sp_box (cs := [.int .i64 dg, .int .i64 dp]) hs rfl fun g7 w hs => ?_
  refine sp_boxa hs fun g8 w hs => ?_
  refine sp_boxa hs fun g9 w hs => ?_
  repeat with_reducible refine mv.mk ?_
  refine sp_loadall hs (.tl (.tl .hd)) (by kernel_rfl) rfl ?_
  refine sp_loadall hs (.tl .hd) (by kernel_rfl) hvx.1 ?_
  refine cl (isthmusref11_VerifyVote (l := l) (v := x) (chain := chain) hs (.tl (.tl (.tl hl))) (.tl (.tl (.tl hx))) hsx hcx) ?_
  rintro _ w ⟨rfl, hs⟩
  repeat with_reducible refine mv.mk ?_
  have heq : ∀ (n m : Int) (o1 o2 : Operand) (w : World), (bin .eql T.int o1 o2 (.int .i64 n) (.int .i64 m)).run Tryz.prog w = .ok (.bool (decide (n = m))) w := fun n m o1 o2 w => by
    rw [show decide (n = m) = (n == m) by rw [Bool.eq_iff_iff]; simp]
    simp [go_sem, bin]
  refine st_of (heq _ _ _ _ _) ?_
  refine jn_by (fun us w' => us = [.int .i64 (if verifyVote chain l dg dp x ≠ 0 then verifyVote chain l dg dp x else verifyVote chain l dg dp y)] ∧ Isk.Sep b w' (blkI g9 T.api_Vote (voteC (.int .i64 y.kind) (.int .i64 y.height) (.int .i64 y.round) (u8s y.block) (.int .i64 y.validator) sy) :: blkI g8 T.api_Vote (voteC (.int .i64 x.kind) (.int .i64 x.height) (.int .i64 x.round) (u8s x.block) (.int .i64 x.validator) sx) :: blkI g7 T.api_Params [.int .i64 dg, .int .i64 dp] :: L)) ?_ ?_
  · by_cases hq : verifyVote chain l dg dp x = 0
    · rw [decide_eq_true hq, if_neg (by simpa using hq)]
      refine br_t ?_
      repeat with_reducible refine mv.mk ?_
      refine sp_loadall hs (.tl (.tl .hd)) (by kernel_rfl) rfl ?_
      refine sp_loadall hs .hd (by kernel_rfl) hvy.1 ?_
      refine cl (isthmusref11_VerifyVote (l := l) (v := y) (chain := chain) hs (.tl (.tl (.tl hl))) (.tl (.tl (.tl hy))) hsy hcy) ?_
      rintro _ w ⟨rfl, hs⟩
      repeat with_reducible refine mv.mk ?_
      exact ⟨rfl, hs⟩
    · rw [decide_eq_false hq, if_pos hq]
      exact br_f ⟨rfl, hs⟩
  clear hs
  rintro x1 w ⟨he, hs⟩
  simp only [List.cons.injEq, and_true] at he
  simp only [he]
  repeat with_reducible refine mv.mk ?_
  refine st_of (n_neq _) ?_
  have hfin : ∀ (e : Int), twoWays chain l dg dp x y = e → (Value.int .i64 e = .int .i64 (twoWays chain l dg dp x y) ∧ Isk.Sep b w L) := fun e h => ⟨by rw [h], hs.sbl (.drop (.drop (.drop .all)))⟩
  by_cases hq : verifyVote chain l dg dp x = 0
  rotate_left
  · rw [if_pos hq, decide_eq_false hq, Bool.not_false]
    repeat (first
     | (with_reducible (first | refine st_eqls ?_ | refine st_nels ?_ | refine mv.mk ?_ | refine gd_u ?_ | refine gd_ft ?_ | refine gd_tf ?_ | refine gd_i ?_ | refine pk_t ?_ | refine pk_f ?_ | refine br_t ?_ | refine br_f ?_ | refine sp_boxa hs fun g w hs => ?_))
     | (with_reducible ((first | apply st_bin); intro k' hk; simp [go_sem, thenR_ok, bin]; refine hk _ _ ?_; clear hk k')))
    exact hfin _ (by rw [twoWays, if_pos hq])
  rw [if_neg (by simpa using hq)]
  by_cases hq2 : verifyVote chain l dg dp y = 0
  rotate_left
  · rw [decide_eq_false hq2, Bool.not_false]
    repeat (first
     | (with_reducible (first | refine st_eqls ?_ | refine st_nels ?_ | refine mv.mk ?_ | refine gd_u ?_ | refine gd_ft ?_ | refine gd_tf ?_ | refine gd_i ?_ | refine pk_t ?_ | refine pk_f ?_ | refine br_t ?_ | refine br_f ?_ | refine sp_boxa hs fun g w hs => ?_))
     | (with_reducible ((first | apply st_bin); intro k' hk; simp [go_sem, thenR_ok, bin]; refine hk _ _ ?_; clear hk k')))
    exact hfin _ (by rw [twoWays, if_neg (by simpa using hq), if_pos hq2])
  rw [decide_eq_true hq2, Bool.not_true]
  have hV : twoWays chain l dg dp x y = if twoNo x y then 31 else 0 := by rw [twoWays, if_neg (by simpa using hq), if_neg (by simpa using hq2)]
  have hbad : twoNo x y → (Value.int .i64 31 = .int .i64 (twoWays chain l dg dp x y) ∧ Isk.Sep b w L) := fun h => hfin 31 (by rw [hV, if_pos h])
  repeat (first
   | (with_reducible refine vote.a0 ?_)
   | ((with_reducible apply vote.r0 hs); (· (with_reducible (repeat (first | exact .blk | exact .rng | apply Rng.tl)))))
   | (with_reducible refine vote.a1 ?_)
   | ((with_reducible apply vote.r1 hs); (· (with_reducible (repeat (first | exact .blk | exact .rng | apply Rng.tl)))))
   | (with_reducible refine vote.a2 ?_)
   | ((with_reducible apply vote.r2 hs); (· (with_reducible (repeat (first | exact .blk | exact .rng | apply Rng.tl)))))
   | (with_reducible refine vote.a3 ?_)
   | ((with_reducible apply vote.r3 hs); (· (with_reducible (repeat (first | exact .blk | exact .rng | apply Rng.tl)))); (· (with_reducible (first | assumption | exact z32 | exact u8s_len (by assumption)))))
   | (with_reducible refine vote.a4 ?_)
   | ((with_reducible apply vote.r4 hs); (· (with_reducible (repeat (first | exact .blk | exact .rng | apply Rng.tl)))); (· (with_reducible (first | assumption | exact z32 | exact u8s_len (by assumption)))))
   | (with_reducible (first | refine st_eqls ?_ | refine st_nels ?_ | refine mv.mk ?_ | refine gd_u ?_ | refine gd_ft ?_ | refine gd_tf ?_ | refine gd_i ?_ | refine pk_t ?_ | refine pk_f ?_ | refine br_t ?_ | refine br_f ?_ | refine sp_boxa hs fun g w hs => ?_))
   | (with_reducible ((first | apply st_bin); intro k' hk; simp [go_sem, thenR_ok, bin]; refine hk _ _ ?_; clear hk k')))
  by_cases c1 : x.kind = y.kind
  rotate_left
  · rw [show (x.kind != y.kind) = true by simpa using c1]
    repeat (first
     | (with_reducible (first | refine st_eqls ?_ | refine st_nels ?_ | refine mv.mk ?_ | refine gd_u ?_ | refine gd_ft ?_ | refine gd_tf ?_ | refine gd_i ?_ | refine pk_t ?_ | refine pk_f ?_ | refine br_t ?_ | refine br_f ?_ | refine sp_boxa hs fun g w hs => ?_))
     | (with_reducible ((first | apply st_bin); intro k' hk; simp [go_sem, thenR_ok, bin]; refine hk _ _ ?_; clear hk k')))
    exact hbad (.inl c1)
  rw [show (x.kind != y.kind) = false by simpa using c1]
  repeat (first
   | (with_reducible refine vote.a0 ?_)
   | ((with_reducible apply vote.r0 hs); (· (with_reducible (repeat (first | exact .blk | exact .rng | apply Rng.tl)))))
   | (with_reducible refine vote.a1 ?_)
   | ((with_reducible apply vote.r1 hs); (· (with_reducible (repeat (first | exact .blk | exact .rng | apply Rng.tl)))))
   | (with_reducible refine vote.a2 ?_)
   | ((with_reducible apply vote.r2 hs); (· (with_reducible (repeat (first | exact .blk | exact .rng | apply Rng.tl)))))
   | (with_reducible refine vote.a3 ?_)
   | ((with_reducible apply vote.r3 hs); (· (with_reducible (repeat (first | exact .blk | exact .rng | apply Rng.tl)))); (· (with_reducible (first | assumption | exact z32 | exact u8s_len (by assumption)))))
   | (with_reducible refine vote.a4 ?_)
   | ((with_reducible apply vote.r4 hs); (· (with_reducible (repeat (first | exact .blk | exact .rng | apply Rng.tl)))); (· (with_reducible (first | assumption | exact z32 | exact u8s_len (by assumption)))))
   | (with_reducible (first | refine st_eqls ?_ | refine st_nels ?_ | refine mv.mk ?_ | refine gd_u ?_ | refine gd_ft ?_ | refine gd_tf ?_ | refine gd_i ?_ | refine pk_t ?_ | refine pk_f ?_ | refine br_t ?_ | refine br_f ?_ | refine sp_boxa hs fun g w hs => ?_))
   | (with_reducible ((first | apply st_bin); intro k' hk; simp [go_sem, thenR_ok, bin]; refine hk _ _ ?_; clear hk k')))
  by_cases c2 : x.height = y.height
  rotate_left
  · rw [show (x.height != y.height) = true by simpa using c2]
    repeat (first
     | (with_reducible (first | refine st_eqls ?_ | refine st_nels ?_ | refine mv.mk ?_ | refine gd_u ?_ | refine gd_ft ?_ | refine gd_tf ?_ | refine gd_i ?_ | refine pk_t ?_ | refine pk_f ?_ | refine br_t ?_ | refine br_f ?_ | refine sp_boxa hs fun g w hs => ?_))
     | (with_reducible ((first | apply st_bin); intro k' hk; simp [go_sem, thenR_ok, bin]; refine hk _ _ ?_; clear hk k')))
    exact hbad (.inr (.inl c2))
  rw [show (x.height != y.height) = false by simpa using c2]
  repeat (first
   | (with_reducible refine vote.a0 ?_)
   | ((with_reducible apply vote.r0 hs); (· (with_reducible (repeat (first | exact .blk | exact .rng | apply Rng.tl)))))
   | (with_reducible refine vote.a1 ?_)
   | ((with_reducible apply vote.r1 hs); (· (with_reducible (repeat (first | exact .blk | exact .rng | apply Rng.tl)))))
   | (with_reducible refine vote.a2 ?_)
   | ((with_reducible apply vote.r2 hs); (· (with_reducible (repeat (first | exact .blk | exact .rng | apply Rng.tl)))))
   | (with_reducible refine vote.a3 ?_)
   | ((with_reducible apply vote.r3 hs); (· (with_reducible (repeat (first | exact .blk | exact .rng | apply Rng.tl)))); (· (with_reducible (first | assumption | exact z32 | exact u8s_len (by assumption)))))
   | (with_reducible refine vote.a4 ?_)
   | ((with_reducible apply vote.r4 hs); (· (with_reducible (repeat (first | exact .blk | exact .rng | apply Rng.tl)))); (· (with_reducible (first | assumption | exact z32 | exact u8s_len (by assumption)))))
   | (with_reducible (first | refine st_eqls ?_ | refine st_nels ?_ | refine mv.mk ?_ | refine gd_u ?_ | refine gd_ft ?_ | refine gd_tf ?_ | refine gd_i ?_ | refine pk_t ?_ | refine pk_f ?_ | refine br_t ?_ | refine br_f ?_ | refine sp_boxa hs fun g w hs => ?_))
   | (with_reducible ((first | apply st_bin); intro k' hk; simp [go_sem, thenR_ok, bin]; refine hk _ _ ?_; clear hk k')))
  by_cases c3 : x.round = y.round
  rotate_left
  · rw [show (x.round != y.round) = true by simpa using c3]
    repeat (first
     | (with_reducible (first | refine st_eqls ?_ | refine st_nels ?_ | refine mv.mk ?_ | refine gd_u ?_ | refine gd_ft ?_ | refine gd_tf ?_ | refine gd_i ?_ | refine pk_t ?_ | refine pk_f ?_ | refine br_t ?_ | refine br_f ?_ | refine sp_boxa hs fun g w hs => ?_))
     | (with_reducible ((first | apply st_bin); intro k' hk; simp [go_sem, thenR_ok, bin]; refine hk _ _ ?_; clear hk k')))
    exact hbad (.inr (.inr (.inl c3)))
  rw [show (x.round != y.round) = false by simpa using c3]
  repeat (first
   | (with_reducible refine vote.a0 ?_)
   | ((with_reducible apply vote.r0 hs); (· (with_reducible (repeat (first | exact .blk | exact .rng | apply Rng.tl)))))
   | (with_reducible refine vote.a1 ?_)
   | ((with_reducible apply vote.r1 hs); (· (with_reducible (repeat (first | exact .blk | exact .rng | apply Rng.tl)))))
   | (with_reducible refine vote.a2 ?_)
   | ((with_reducible apply vote.r2 hs); (· (with_reducible (repeat (first | exact .blk | exact .rng | apply Rng.tl)))))
   | (with_reducible refine vote.a3 ?_)
   | ((with_reducible apply vote.r3 hs); (· (with_reducible (repeat (first | exact .blk | exact .rng | apply Rng.tl)))); (· (with_reducible (first | assumption | exact z32 | exact u8s_len (by assumption)))))
   | (with_reducible refine vote.a4 ?_)
   | ((with_reducible apply vote.r4 hs); (· (with_reducible (repeat (first | exact .blk | exact .rng | apply Rng.tl)))); (· (with_reducible (first | assumption | exact z32 | exact u8s_len (by assumption)))))
   | (with_reducible (first | refine st_eqls ?_ | refine st_nels ?_ | refine mv.mk ?_ | refine gd_u ?_ | refine gd_ft ?_ | refine gd_tf ?_ | refine gd_i ?_ | refine pk_t ?_ | refine pk_f ?_ | refine br_t ?_ | refine br_f ?_ | refine sp_boxa hs fun g w hs => ?_))
   | (with_reducible ((first | apply st_bin); intro k' hk; simp [go_sem, thenR_ok, bin]; refine hk _ _ ?_; clear hk k')))
  by_cases c4 : x.validator = y.validator
  rotate_left
  · rw [show (x.validator != y.validator) = true by simpa using c4]
    repeat (first
     | (with_reducible (first | refine st_eqls ?_ | refine st_nels ?_ | refine mv.mk ?_ | refine gd_u ?_ | refine gd_ft ?_ | refine gd_tf ?_ | refine gd_i ?_ | refine pk_t ?_ | refine pk_f ?_ | refine br_t ?_ | refine br_f ?_ | refine sp_boxa hs fun g w hs => ?_))
     | (with_reducible ((first | apply st_bin); intro k' hk; simp [go_sem, thenR_ok, bin]; refine hk _ _ ?_; clear hk k')))
    exact hbad (.inr (.inr (.inr (.inl c4))))
  rw [show (x.validator != y.validator) = false by simpa using c4]
  repeat (first
   | (with_reducible refine vote.a0 ?_)
   | ((with_reducible apply vote.r0 hs); (· (with_reducible (repeat (first | exact .blk | exact .rng | apply Rng.tl)))))
   | (with_reducible refine vote.a1 ?_)
   | ((with_reducible apply vote.r1 hs); (· (with_reducible (repeat (first | exact .blk | exact .rng | apply Rng.tl)))))
   | (with_reducible refine vote.a2 ?_)
   | ((with_reducible apply vote.r2 hs); (· (with_reducible (repeat (first | exact .blk | exact .rng | apply Rng.tl)))))
   | (with_reducible refine vote.a3 ?_)
   | ((with_reducible apply vote.r3 hs); (· (with_reducible (repeat (first | exact .blk | exact .rng | apply Rng.tl)))); (· (with_reducible (first | assumption | exact z32 | exact u8s_len (by assumption)))))
   | (with_reducible refine vote.a4 ?_)
   | ((with_reducible apply vote.r4 hs); (· (with_reducible (repeat (first | exact .blk | exact .rng | apply Rng.tl)))); (· (with_reducible (first | assumption | exact z32 | exact u8s_len (by assumption)))))
   | (with_reducible (first | refine st_eqls ?_ | refine st_nels ?_ | refine mv.mk ?_ | refine gd_u ?_ | refine gd_ft ?_ | refine gd_tf ?_ | refine gd_i ?_ | refine pk_t ?_ | refine pk_f ?_ | refine br_t ?_ | refine br_f ?_ | refine sp_boxa hs fun g w hs => ?_))
   | (with_reducible ((first | apply st_bin); intro k' hk; simp [go_sem, thenR_ok, bin]; refine hk _ _ ?_; clear hk k')))
  refine st_of (hash_eq hbx hby _ _ _) ?_
  by_cases c5 : x.block = y.block
  · rw [decide_eq_true c5]
    repeat (first
     | (with_reducible (first | refine st_eqls ?_ | refine st_nels ?_ | refine mv.mk ?_ | refine gd_u ?_ | refine gd_ft ?_ | refine gd_tf ?_ | refine gd_i ?_ | refine pk_t ?_ | refine pk_f ?_ | refine br_t ?_ | refine br_f ?_ | refine sp_boxa hs fun g w hs => ?_))
     | (with_reducible ((first | apply st_bin); intro k' hk; simp [go_sem, thenR_ok, bin]; refine hk _ _ ?_; clear hk k')))
    exact hbad (.inr (.inr (.inr (.inr c5))))
  rw [decide_eq_false c5]
  repeat (first
   | (with_reducible (first | refine st_eqls ?_ | refine st_nels ?_ | refine mv.mk ?_ | refine gd_u ?_ | refine gd_ft ?_ | refine gd_tf ?_ | refine gd_i ?_ | refine pk_t ?_ | refine pk_f ?_ | refine br_t ?_ | refine br_f ?_ | refine sp_boxa hs fun g w hs => ?_))
   | (with_reducible ((first | apply st_bin); intro k' hk; simp [go_sem, thenR_ok, bin]; refine hk _ _ ?_; clear hk k')))
  exact hfin 0 (by rw [hV, if_neg]; unfold twoNo; simp only [c1, c2, c3, c4, c5, not_true, or_false, not_false_eq_true])
theorem types_TwoWays (hs : Isk.Sep b w L) (hR : Ins L rndF.it) (hl : Ins L (listF valiF 34 lv l).it) (hx : Ins L (voteF cs x).it) (hy : Ins L (voteF ds y).it) (hsx : x.sign.length ≤ 2147483648) (hsy : y.sign.length ≤ 2147483648)
    (hcx : (encVoteBytes chain x).length + 10 ≤ 2147483648) (hcy : (encVoteBytes chain y).length + 10 ≤ 2147483648) :
    C Tryz.prog N.types_TwoWays #[str chain, lv, .agg #[.int .i64 dg, .int .i64 dp], .agg cs.toArray, .agg ds.toArray] w fun r w' => Isk.Sep b w' ((errF r (twoWays chain l dg dp x y)).it :: L) := by
  have hvx := hs.ok voteF_ok hx
  have hvy := hs.ok voteF_ok hy
  obtain ⟨sx, rfl, hox, _⟩ : VoteS _ _ cs x := hs.get hx
  obtain ⟨sy, rfl, hoy, _⟩ : VoteS _ _ ds y := hs.get hy
  have hbx := hox.block
  have hby := hoy.block
  refine C.types_TwoWays ?_
  unfold F.types_TwoWays
  refine sp_box (cs := [.int .i64 dg, .int .i64 dp]) hs rfl fun g7 w hs => ?_
  refine sp_boxa hs fun g8 w hs => ?_
  refine sp_boxa hs fun g9 w hs => ?_
  repeat with_reducible refine mv.mk ?_
  refine sp_loadall hs (.tl .hd) (by kernel_rfl) hvx.1 ?_
  refine sp_loadall hs .hd (by kernel_rfl) hvy.1 ?_
  have fx := hs.get (.tl (.tl (.tl hx)))
  have fy := hs.get (.tl (.tl (.tl hy)))
  refine sp_litF (F := voteF) hs tVotes [_, _] [x, y] rfl (by
    intro u hu
    simp only [List.mem_cons, List.not_mem_nil, or_false] at hu
    rcases hu with rfl | rfl
    · exact hvx.1
    · exact hvy.1) rfl (by decide) (by decide) ⟨rfl, fun i hi u hu => by
      match i, hi, hu with
      | 0, _, hu => simp only [List.getElem?_cons_zero, Option.some.injEq] at hu; subst hu; exact fx
      | 1, _, hu => simp only [List.getElem?_cons_succ, List.getElem?_cons_zero, Option.some.injEq] at hu; subst hu; exact fy⟩ fun tv w hs => ?_
  obtain ⟨A, c, htv⟩ := hs.lst_len (F := voteF) (sz := 37) (sv := tv) (ls := [x, y]) .lst
  subst htv
  repeat (first
   | (with_reducible (first | refine st_lens ?_ | refine st_eqls ?_ | refine st_nels ?_ | refine mv.mk ?_ | refine gd_u ?_ | refine gd_ft ?_ | refine gd_tf ?_ | refine gd_i ?_ | refine pk_t ?_ | refine pk_f ?_ | refine br_t ?_ | refine br_f ?_ | refine sp_boxa hs fun g w hs => ?_))
   | (with_reducible ((first | apply st_bin | apply st_len | apply st_un); intro k' hk; simp [go_sem, thenR_ok, bin]; refine hk _ _ ?_; clear hk k'))
   | ((with_reducible apply sp_newr hs); (· kernel_rfl); intro g w hs))
  generalize hLL : (_ : It) :: blkI g9 _ _ :: _ = LL at hs
  refine lp_by (fun us w' => ∃ (i : Nat) (y1 y2 : Value), us = [y1, y2, .int .i64 (i : Int)] ∧ i ≤ 2 ∧ (∀ j (h : j < [x, y].length), j < i → verifyVote chain l dg dp [x, y][j] = 0) ∧ Isk.Sep b w' LL) (fun us _ => match us with | [_, _, .int _ m] => 2 - m.toNat | _ => 0) ⟨0, _, _, rfl, by omega, fun j h hj => by omega, hs⟩ ?_
  clear hs
  rintro x1 w ⟨i, y1, y2, hx1, hi, hok, hs⟩
  simp only [List.cons.injEq, and_true] at hx1
  simp only [hx1.1, hx1.2.1, hx1.2.2]
  subst hLL
  repeat (first
   | (with_reducible (first | refine st_lens ?_ | refine st_eqls ?_ | refine st_nels ?_ | refine mv.mk ?_ | refine gd_u ?_ | refine gd_ft ?_ | refine gd_tf ?_ | refine gd_i ?_ | refine pk_t ?_ | refine pk_f ?_ | refine br_t ?_ | refine br_f ?_ | refine sp_boxa hs fun g w hs => ?_))
   | (with_reducible ((first | apply st_bin | apply st_len | apply st_un); intro k' hk; simp [go_sem, thenR_ok, bin]; refine hk _ _ ?_; clear hk k'))
   | ((with_reducible apply sp_newr hs); (· kernel_rfl); intro g w hs))
  refine br_split (fun hq => ?_) (fun hq => ?_)
  · have hi' : i < [x, y].length := by have := of_decide_eq_true hq; simp only [List.length_cons, List.length_nil]; omega
    refine sp_eln hs (F := voteF) (ls := [x, y]) .lst tVotes (by kernel_rfl) i rfl hi' fun us hyl hs => ?_
    have hvs2 : [x, y][i].sign.length ≤ 2147483648 ∧ (encVoteBytes chain [x, y][i]).length + 10 ≤ 2147483648 := by
      have : i = 0 ∨ i = 1 := by simp only [List.length_cons, List.length_nil] at hi'; omega
      rcases this with rfl | rfl
      · exact ⟨hsx, hcx⟩
      · exact ⟨hsy, hcy⟩
    generalize hv : [x, y][i] = v at hs hvs2
    have hvo := hs.ok voteF_ok (cs := us) .hd
    refine sp_newr hs (by kernel_rfl) fun g13 w hs => ?_
    refine sp_setr hs (by first | ((repeat (first | with_reducible exact Has.hd | with_reducible apply Has.tl)); done) | (repeat (first | exact Has.hd | with_reducible apply Has.tl))) (by kernel_rfl) hvo.1 hvo.2 fun w hs => ?_
    repeat with_reducible refine mv.mk ?_
    refine sp_loadall hs (t := T.api_Params) (by first | ((repeat (first | with_reducible exact Has.hd | with_reducible apply Has.tl)); done) | (repeat (first | exact Has.hd | with_reducible apply Has.tl))) (by kernel_rfl) rfl ?_
    refine sp_loadall hs .hd (by kernel_rfl) hvo.1 ?_
    refine cl (types_VerifyVote (l := l) (v := v) (chain := chain) hs (by repeat (first | exact hR | apply Ins.tl)) (by repeat (first | exact hl | apply Ins.tl)) (.tl .hd) hvs2.1 hvs2.2) ?_
    rintro e w hs
    repeat with_reducible refine mv.mk ?_
    refine st_of (err_neq hs .hd) ?_
    by_cases hz : verifyVote chain l dg dp v = 0
    · rw [decide_eq_true hz]
      refine br_f ?_
      repeat (first
       | (with_reducible (first | refine st_lens ?_ | refine st_eqls ?_ | refine st_nels ?_ | refine mv.mk ?_ | refine gd_u ?_ | refine gd_ft ?_ | refine gd_tf ?_ | refine gd_i ?_ | refine pk_t ?_ | refine pk_f ?_ | refine br_t ?_ | refine br_f ?_ | refine sp_boxa hs fun g w hs => ?_))
       | (with_reducible ((first | apply st_bin | apply st_len | apply st_un); intro k' hk; simp [go_sem, thenR_ok, bin]; refine hk _ _ ?_; clear hk k'))
       | ((with_reducible apply sp_newr hs); (· kernel_rfl); intro g w hs))
      rw [i64_succ (by omega)]
      refine ⟨⟨i + 1, _, _, rfl, by simp only [List.length_cons, List.length_nil] at hi'; omega, fun j h hj => ?_, hs.sbl (.drop (.drop (.drop .all)))⟩, by simp only [List.length_cons, List.length_nil] at hi'; simp; omega⟩
      rcases Nat.lt_or_ge j i with h1 | h1
      · exact hok j h h1
      · obtain rfl : j = i := by omega
        rw [hv]; exact hz
    · rw [decide_eq_false hz]
      refine br_t ?_
      repeat with_reducible refine mv.mk ?_
      have e2 : twoWays chain l dg dp x y = verifyVote chain l dg dp v := by
        have : i = 0 ∨ i = 1 := by simp only [List.length_cons, List.length_nil] at hi'; omega
        rcases this with rfl | rfl
        · have : x = v := hv
          subst this
          rw [twoWays, if_pos hz]
        · have : y = v := hv
          subst this
          have h0 : verifyVote chain l dg dp x = 0 := hok 0 (by simp) (by omega)
          rw [twoWays, if_neg (by simpa using h0), if_pos hz]
      rw [e2]
      exact hs.sbl (.cons .hd (.drop (.drop (.drop (.drop (.drop (.drop .all)))))))
  have hq := of_decide_eq_false hq
  have hi2 : i = 2 := by omega
  subst hi2
  have h0 : verifyVote chain l dg dp x = 0 := hok 0 (by simp) (by omega)
  have h1 : verifyVote chain l dg dp y = 0 := hok 1 (by simp) (by omega)
  have hV : twoWays chain l dg dp x y = if twoNo x y then 31 else 0 := by rw [twoWays, if_neg (by simpa using h0), if_neg (by simpa using h1)]
  rw [hV]
  have hbad : ∀ {K : Value → World → Prop}, twoNo x y → (∀ r w', Isk.Sep b w' ((errF r (if twoNo x y then 31 else 0)).it :: L) → K r w') →
      C Tryz.prog N.types_fault #[.string ⟨#[101, 118, 105, 100, 101, 110, 99, 101]⟩, .int .i64 31] w K := by
    intro K hb hK
    rw [if_pos hb] at hK
    refine cl (types_fault (by decide) (by decide) (by decide) hs) ?_
    rintro r w hs
    exact hK r w (hs.sbl (.cons .hd (.drop (.drop (.drop (.drop .all))))))
  repeat (first
   | (with_reducible refine vote.a0 ?_)
   | ((with_reducible apply vote.r0 hs); (· (with_reducible (repeat (first | exact .blk | exact .rng | apply Rng.tl)))))
   | (with_reducible refine vote.a1 ?_)
   | ((with_reducible apply vote.r1 hs); (· (with_reducible (repeat (first | exact .blk | exact .rng | apply Rng.tl)))))
   | (with_reducible refine vote.a2 ?_)
   | ((with_reducible apply vote.r2 hs); (· (with_reducible (repeat (first | exact .blk | exact .rng | apply Rng.tl)))))
   | (with_reducible refine vote.a3 ?_)
   | ((with_reducible apply vote.r3 hs); (· (with_reducible (repeat (first | exact .blk | exact .rng | apply Rng.tl)))); (· (with_reducible (first | assumption | exact z32 | exact u8s_len (by assumption)))))
   | (with_reducible refine vote.a4 ?_)
   | ((with_reducible apply vote.r4 hs); (· (with_reducible (repeat (first | exact .blk | exact .rng | apply Rng.tl)))); (· (with_reducible (first | assumption | exact z32 | exact u8s_len (by assumption)))))
   | (with_reducible (first | refine st_lens ?_ | refine st_eqls ?_ | refine st_nels ?_ | refine mv.mk ?_ | refine gd_u ?_ | refine gd_ft ?_ | refine gd_tf ?_ | refine gd_i ?_ | refine pk_t ?_ | refine pk_f ?_ | refine br_t ?_ | refine br_f ?_ | refine sp_boxa hs fun g w hs => ?_))
   | (with_reducible ((first | apply st_bin | apply st_len | apply st_un); intro k' hk; simp [go_sem, thenR_ok, bin]; refine hk _ _ ?_; clear hk k'))
   | ((with_reducible apply sp_newr hs); (· kernel_rfl); intro g w hs))
  by_cases c1 : x.kind = y.kind
  rotate_left
  · rw [show (x.kind == y.kind) = false by simpa using c1]
    repeat (first
     | (with_reducible (first | refine st_lens ?_ | refine st_eqls ?_ | refine st_nels ?_ | refine mv.mk ?_ | refine gd_u ?_ | refine gd_ft ?_ | refine gd_tf ?_ | refine gd_i ?_ | refine pk_t ?_ | refine pk_f ?_ | refine br_t ?_ | refine br_f ?_ | refine sp_boxa hs fun g w hs => ?_))
     | (with_reducible ((first | apply st_bin | apply st_len | apply st_un); intro k' hk; simp [go_sem, thenR_ok, bin]; refine hk _ _ ?_; clear hk k'))
     | ((with_reducible apply sp_newr hs); (· kernel_rfl); intro g w hs))
    exact hbad (.inl c1) fun r w hs => mv.mk hs
  rw [show (x.kind == y.kind) = true by simpa using c1]
  repeat (first
   | (with_reducible refine vote.a0 ?_)
   | ((with_reducible apply vote.r0 hs); (· (with_reducible (repeat (first | exact .blk | exact .rng | apply Rng.tl)))))
   | (with_reducible refine vote.a1 ?_)
   | ((with_reducible apply vote.r1 hs); (· (with_reducible (repeat (first | exact .blk | exact .rng | apply Rng.tl)))))
   | (with_reducible refine vote.a2 ?_)
   | ((with_reducible apply vote.r2 hs); (· (with_reducible (repeat (first | exact .blk | exact .rng | apply Rng.tl)))))
   | (with_reducible refine vote.a3 ?_)
   | ((with_reducible apply vote.r3 hs); (· (with_reducible (repeat (first | exact .blk | exact .rng | apply Rng.tl)))); (· (with_reducible (first | assumption | exact z32 | exact u8s_len (by assumption)))))
   | (with_reducible refine vote.a4 ?_)
   | ((with_reducible apply vote.r4 hs); (· (with_reducible (repeat (first | exact .blk | exact .rng | apply Rng.tl)))); (· (with_reducible (first | assumption | exact z32 | exact u8s_len (by assumption)))))
   | (with_reducible (first | refine st_lens ?_ | refine st_eqls ?_ | refine st_nels ?_ | refine mv.mk ?_ | refine gd_u ?_ | refine gd_ft ?_ | refine gd_tf ?_ | refine gd_i ?_ | refine pk_t ?_ | refine pk_f ?_ | refine br_t ?_ | refine br_f ?_ | refine sp_boxa hs fun g w hs => ?_))
   | (with_reducible ((first | apply st_bin | apply st_len | apply st_un); intro k' hk; simp [go_sem, thenR_ok, bin]; refine hk _ _ ?_; clear hk k'))
   | ((with_reducible apply sp_newr hs); (· kernel_rfl); intro g w hs))
  by_cases c2 : x.height = y.height
  rotate_left
  · rw [show (x.height == y.height) = false by simpa using c2]
    repeat (first
     | (with_reducible (first | refine st_lens ?_ | refine st_eqls ?_ | refine st_nels ?_ | refine mv.mk ?_ | refine gd_u ?_ | refine gd_ft ?_ | refine gd_tf ?_ | refine gd_i ?_ | refine pk_t ?_ | refine pk_f ?_ | refine br_t ?_ | refine br_f ?_ | refine sp_boxa hs fun g w hs => ?_))
     | (with_reducible ((first | apply st_bin | apply st_len | apply st_un); intro k' hk; simp [go_sem, thenR_ok, bin]; refine hk _ _ ?_; clear hk k'))
     | ((with_reducible apply sp_newr hs); (· kernel_rfl); intro g w hs))
    exact hbad (.inr (.inl c2)) fun r w hs => mv.mk hs
  rw [show (x.height == y.height) = true by simpa using c2]
  repeat (first
   | (with_reducible refine vote.a0 ?_)
   | ((with_reducible apply vote.r0 hs); (· (with_reducible (repeat (first | exact .blk | exact .rng | apply Rng.tl)))))
   | (with_reducible refine vote.a1 ?_)
   | ((with_reducible apply vote.r1 hs); (· (with_reducible (repeat (first | exact .blk | exact .rng | apply Rng.tl)))))
   | (with_reducible refine vote.a2 ?_)
   | ((with_reducible apply vote.r2 hs); (· (with_reducible (repeat (first | exact .blk | exact .rng | apply Rng.tl)))))
   | (with_reducible refine vote.a3 ?_)
   | ((with_reducible apply vote.r3 hs); (· (with_reducible (repeat (first | exact .blk | exact .rng | apply Rng.tl)))); (· (with_reducible (first | assumption | exact z32 | exact u8s_len (by assumption)))))
   | (with_reducible refine vote.a4 ?_)
   | ((with_reducible apply vote.r4 hs); (· (with_reducible (repeat (first | exact .blk | exact .rng | apply Rng.tl)))); (· (with_reducible (first | assumption | exact z32 | exact u8s_len (by assumption)))))
   | (with_reducible (first | refine st_lens ?_ | refine st_eqls ?_ | refine st_nels ?_ | refine mv.mk ?_ | refine gd_u ?_ | refine gd_ft ?_ | refine gd_tf ?_ | refine gd_i ?_ | refine pk_t ?_ | refine pk_f ?_ | refine br_t ?_ | refine br_f ?_ | refine sp_boxa hs fun g w hs => ?_))
   | (with_reducible ((first | apply st_bin | apply st_len | apply st_un); intro k' hk; simp [go_sem, thenR_ok, bin]; refine hk _ _ ?_; clear hk k'))
   | ((with_reducible apply sp_newr hs); (· kernel_rfl); intro g w hs))
  by_cases c3 : x.round = y.round
  rotate_left
  · rw [show (x.round == y.round) = false by simpa using c3]
    repeat (first
     | (with_reducible (first | refine st_lens ?_ | refine st_eqls ?_ | refine st_nels ?_ | refine mv.mk ?_ | refine gd_u ?_ | refine gd_ft ?_ | refine gd_tf ?_ | refine gd_i ?_ | refine pk_t ?_ | refine pk_f ?_ | refine br_t ?_ | refine br_f ?_ | refine sp_boxa hs fun g w hs => ?_))
     | (with_reducible ((first | apply st_bin | apply st_len | apply st_un); intro k' hk; simp [go_sem, thenR_ok, bin]; refine hk _ _ ?_; clear hk k'))
     | ((with_reducible apply sp_newr hs); (· kernel_rfl); intro g w hs))
    exact hbad (.inr (.inr (.inl c3))) fun r w hs => mv.mk hs
  rw [show (x.round == y.round) = true by simpa using c3]
  repeat (first
   | (with_reducible refine vote.a0 ?_)
   | ((with_reducible apply vote.r0 hs); (· (with_reducible (repeat (first | exact .blk | exact .rng | apply Rng.tl)))))
   | (with_reducible refine vote.a1 ?_)
   | ((with_reducible apply vote.r1 hs); (· (with_reducible (repeat (first | exact .blk | exact .rng | apply Rng.tl)))))
   | (with_reducible refine vote.a2 ?_)
   | ((with_reducible apply vote.r2 hs); (· (with_reducible (repeat (first | exact .blk | exact .rng | apply Rng.tl)))))
   | (with_reducible refine vote.a3 ?_)
   | ((with_reducible apply vote.r3 hs); (· (with_reducible (repeat (first | exact .blk | exact .rng | apply Rng.tl)))); (· (with_reducible (first | assumption | exact z32 | exact u8s_len (by assumption)))))
   | (with_reducible refine vote.a4 ?_)
   | ((with_reducible apply vote.r4 hs); (· (with_reducible (repeat (first | exact .blk | exact .rng | apply Rng.tl)))); (· (with_reducible (first | assumption | exact z32 | exact u8s_len (by assumption)))))
   | (with_reducible (first | refine st_lens ?_ | refine st_eqls ?_ | refine st_nels ?_ | refine mv.mk ?_ | refine gd_u ?_ | refine gd_ft ?_ | refine gd_tf ?_ | refine gd_i ?_ | refine pk_t ?_ | refine pk_f ?_ | refine br_t ?_ | refine br_f ?_ | refine sp_boxa hs fun g w hs => ?_))
   | (with_reducible ((first | apply st_bin | apply st_len | apply st_un); intro k' hk; simp [go_sem, thenR_ok, bin]; refine hk _ _ ?_; clear hk k'))
   | ((with_reducible apply sp_newr hs); (· kernel_rfl); intro g w hs))
  by_cases c4 : x.validator = y.validator
  rotate_left
  · rw [show (x.validator == y.validator) = false by simpa using c4, Bool.not_false]
    repeat (first
     | (with_reducible (first | refine st_lens ?_ | refine st_eqls ?_ | refine st_nels ?_ | refine mv.mk ?_ | refine gd_u ?_ | refine gd_ft ?_ | refine gd_tf ?_ | refine gd_i ?_ | refine pk_t ?_ | refine pk_f ?_ | refine br_t ?_ | refine br_f ?_ | refine sp_boxa hs fun g w hs => ?_))
     | (with_reducible ((first | apply st_bin | apply st_len | apply st_un); intro k' hk; simp [go_sem, thenR_ok, bin]; refine hk _ _ ?_; clear hk k'))
     | ((with_reducible apply sp_newr hs); (· kernel_rfl); intro g w hs))
    exact hbad (.inr (.inr (.inr (.inl c4)))) fun r w hs => mv.mk hs
  rw [show (x.validator == y.validator) = true by simpa using c4, Bool.not_true]
  repeat (first
   | (with_reducible refine vote.a0 ?_)
   | ((with_reducible apply vote.r0 hs); (· (with_reducible (repeat (first | exact .blk | exact .rng | apply Rng.tl)))))
   | (with_reducible refine vote.a1 ?_)
   | ((with_reducible apply vote.r1 hs); (· (with_reducible (repeat (first | exact .blk | exact .rng | apply Rng.tl)))))
   | (with_reducible refine vote.a2 ?_)
   | ((with_reducible apply vote.r2 hs); (· (with_reducible (repeat (first | exact .blk | exact .rng | apply Rng.tl)))))
   | (with_reducible refine vote.a3 ?_)
   | ((with_reducible apply vote.r3 hs); (· (with_reducible (repeat (first | exact .blk | exact .rng | apply Rng.tl)))); (· (with_reducible (first | assumption | exact z32 | exact u8s_len (by assumption)))))
   | (with_reducible refine vote.a4 ?_)
   | ((with_reducible apply vote.r4 hs); (· (with_reducible (repeat (first | exact .blk | exact .rng | apply Rng.tl)))); (· (with_reducible (first | assumption | exact z32 | exact u8s_len (by assumption)))))
   | (with_reducible (first | refine st_lens ?_ | refine st_eqls ?_ | refine st_nels ?_ | refine mv.mk ?_ | refine gd_u ?_ | refine gd_ft ?_ | refine gd_tf ?_ | refine gd_i ?_ | refine pk_t ?_ | refine pk_f ?_ | refine br_t ?_ | refine br_f ?_ | refine sp_boxa hs fun g w hs => ?_))
   | (with_reducible ((first | apply st_bin | apply st_len | apply st_un); intro k' hk; simp [go_sem, thenR_ok, bin]; refine hk _ _ ?_; clear hk k'))
   | ((with_reducible apply sp_newr hs); (· kernel_rfl); intro g w hs))
  refine st_of (hash_eq hbx hby _ _ _) ?_
  by_cases c5 : x.block = y.block
  · rw [decide_eq_true c5]
    repeat (first
     | (with_reducible (first | refine st_lens ?_ | refine st_eqls ?_ | refine st_nels ?_ | refine mv.mk ?_ | refine gd_u ?_ | refine gd_ft ?_ | refine gd_tf ?_ | refine gd_i ?_ | refine pk_t ?_ | refine pk_f ?_ | refine br_t ?_ | refine br_f ?_ | refine sp_boxa hs fun g w hs => ?_))
     | (with_reducible ((first | apply st_bin | apply st_len | apply st_un); intro k' hk; simp [go_sem, thenR_ok, bin]; refine hk _ _ ?_; clear hk k'))
     | ((with_reducible apply sp_newr hs); (· kernel_rfl); intro g w hs))
    exact hbad (.inr (.inr (.inr (.inr c5)))) fun r w hs => mv.mk hs
  rw [decide_eq_false c5]
  repeat (first
   | (with_reducible (first | refine st_lens ?_ | refine st_eqls ?_ | refine st_nels ?_ | refine mv.mk ?_ | refine gd_u ?_ | refine gd_ft ?_ | refine gd_tf ?_ | refine gd_i ?_ | refine pk_t ?_ | refine pk_f ?_ | refine br_t ?_ | refine br_f ?_ | refine sp_boxa hs fun g w hs => ?_))
   | (with_reducible ((first | apply st_bin | apply st_len | apply st_un); intro k' hk; simp [go_sem, thenR_ok, bin]; refine hk _ _ ?_; clear hk k'))
   | ((with_reducible apply sp_newr hs); (· kernel_rfl); intro g w hs))
  rw [if_neg (by unfold twoNo; simp only [c1, c2, c3, c4, c5, not_true, or_false, not_false_eq_true])]
  exact (errF_nil hs).sbl (.cons .hd (.drop (.drop (.drop (.drop .all)))))
end
end Go.Proofs.YtlfelmikcdmkhaaGreatDoor
