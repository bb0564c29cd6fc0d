/- Votes: is a vote one of a set's, in the program. -/
import Derived.Test.YtlfelmikcdmkhaaGreatDoorY3
import Derived.Test.YtlfelmikcdmkhaaGreatDoorL2
set_option linter.unusedVariables false
set_option linter.unusedSimpArgs false
set_option linter.unusedSectionVars false
namespace Go.Proofs.YtlfelmikcdmkhaaGreatDoor
open Go Go.Isk Go.RowKit
set_option maxRecDepth 20000
def F.types_VerifyVote_r1 (k : Value → World → Prop) (a0 a1 t6 t7 t22 : Value) (w : World) : Prop :=
  gd t22 false (fun k4 => o1 Tryz.prog (Instr.fieldAt 49 t7 1) w k4) w fun t23 w =>
  gd t22 false (fun k5 => o1 Tryz.prog (Instr.loadAt 3 t23) w k5) w fun t24 w =>
  gd t22 false (fun k6 => o1 Tryz.prog (bin .lss 3 (.tmp 24) (.const (.int .i64 1)) t24 (.int .i64 1)) w k6) w fun t25 w =>
  pk t22 (.bool true) t25 fun t26 =>
  mv t26 fun t27 =>
  gd t27 false (fun k7 => o1 Tryz.prog (Instr.fieldAt 49 t7 1) w k7) w fun t28 w =>
  gd t27 false (fun k8 => o1 Tryz.prog (Instr.loadAt 3 t28) w k8) w fun t29 w =>
  gd t27 false (fun k9 => o1 Tryz.prog (bin .gtr 3 (.tmp 29) (.const (.int .i64 1099511627776)) t29 (.int .i64 1099511627776)) w k9) w fun t30 w =>
  pk t27 (.bool true) t30 fun t31 =>
  mv t31 fun t32 =>
  gd t32 false (fun k10 => o1 Tryz.prog (Instr.fieldAt 49 t7 2) w k10) w fun t33 w =>
  gd t32 false (fun k11 => o1 Tryz.prog (Instr.loadAt 3 t33) w k11) w fun t34 w =>
  gd t32 false (fun k12 => o1 Tryz.prog (bin .lss 3 (.tmp 34) (.const (.int .i64 0)) t34 (.int .i64 0)) w k12) w fun t35 w =>
  pk t32 (.bool true) t35 fun t36 =>
  mv t36 fun t37 =>
  gd t37 false (fun k13 => o1 Tryz.prog (Instr.fieldAt 49 t7 2) w k13) w fun t38 w =>
  gd t37 false (fun k14 => o1 Tryz.prog (Instr.loadAt 3 t38) w k14) w fun t39 w =>
  gd t37 false (fun k15 => o1 Tryz.prog (bin .gtr 3 (.tmp 39) (.const (.int .i64 1073741824)) t39 (.int .i64 1073741824)) w k15) w fun t40 w =>
  pk t37 (.bool true) t40 fun t41 =>
  mv t41 fun t42 =>
  gd t42 false (fun k16 => o1 Tryz.prog (Instr.fieldAt 49 t7 4) w k16) w fun t43 w =>
  gd t42 false (fun k17 => o1 Tryz.prog (Instr.loadAt 3 t43) w k17) w fun t44 w =>
  gd t42 false (fun k18 => o1 Tryz.prog (bin .lss 3 (.tmp 44) (.const (.int .i64 0)) t44 (.int .i64 0)) w k18) w fun t45 w =>
  pk t42 (.bool true) t45 fun t46 =>
  mv t46 fun t47 =>
  gd t47 false (fun k19 => o1 Tryz.prog (Instr.fieldAt 49 t7 4) w k19) w fun t48 w =>
  gd t47 false (fun k20 => o1 Tryz.prog (Instr.loadAt 3 t48) w k20) w fun t49 w =>
  gd t47 false (fun k21 => mv a1 fun v => k21 v w) w fun t50 w =>
  gd t47 false (fun k22 => o1 Tryz.prog (Builtin.len_ #[70] 3 #[t50]) w k22) w fun t51 w =>
  gd t47 false (fun k23 => o1 Tryz.prog (bin .geq 3 (.tmp 49) (.tmp 51) t49 t51) w k23) w fun t52 w =>
  pk t47 (.bool true) t52 fun t53 =>
  br t53 (fun _ =>
  C Tryz.prog N.types_fault #[.string ⟨#[118, 111, 116, 101]⟩, .int .i64 31] w fun t54 w =>
  mv t54 fun t8_1 =>
  k t8_1 w) (fun _ =>
  o1 Tryz.prog (Instr.loadAt 83 t6) w fun t55 w =>
  C Tryz.prog N.keys_Check #[t55] w fun t56 w =>
  mv t56 fun t10 =>
  mv t10 fun t57 =>
  o1 Tryz.prog (bin .neq 34 (.tmp 57) (.const .nilIface) t57 .nilIface) w fun t58 w =>
  br t58 (fun _ =>
  mv t10 fun t59 =>
  mv t59 fun t8_2 =>
  k t8_2 w) (fun _ =>
  dr w.drew fun S1 =>
  mv a1 fun t60 =>
  tk Tryz.prog S1 (Instr.fieldAt 49 t7 4) fun t61 =>
  tk Tryz.prog S1 (Instr.loadAt 3 t61) fun t62 =>
  tk Tryz.prog S1 (Instr.indexAt 70 t60 t62) fun t63 =>
  tk Tryz.prog S1 (Instr.fieldAt 76 t63 1) fun t64 =>
  tk Tryz.prog S1 (Instr.loadAt 23 t64) fun t65 =>
  tk Tryz.prog S1 (Instr.loadAt 83 t6) fun t66 =>
  mv a0 fun t67 =>
  tk Tryz.prog S1 (Instr.loadAt 49 t7) fun t68 =>
  tk Tryz.prog S1 (Instr.fieldAt 49 t7 5) fun t70 =>
  tk Tryz.prog S1 (Instr.loadAt 39 t70) fun t71 =>
  C Tryz.prog N.types_VoteBytes #[t67, t68] w.drew fun t69 w =>
  S1 w ∧
  C Tryz.prog N.keys_Verify #[t65, t66, t69, t71] w fun t72 w =>
  S1 w ∧
  mv t72 fun t11 =>
  mv t11 fun t73 =>
  o1 Tryz.prog (bin .neq 34 (.tmp 73) (.const .nilIface) t73 .nilIface) w fun t74 w =>
  br t74 (fun _ =>
  C Tryz.prog N.types_fault #[.string ⟨#[118, 111, 116, 101]⟩, .int .i64 21] w fun t75 w =>
  mv t75 fun t8_3 =>
  k t8_3 w) (fun _ =>
  mv .nilIface fun t8_4 =>
  k t8_4 w)))
def F.types_VerifyVote_r2 (k : Value → World → Prop) (a0 a1 t6 t7 t53 : Value) (w : World) : Prop :=
  br t53 (fun _ =>
  C Tryz.prog N.types_fault #[.string ⟨#[118, 111, 116, 101]⟩, .int .i64 31] w fun t54 w =>
  mv t54 fun t8_1 =>
  k t8_1 w) (fun _ =>
  o1 Tryz.prog (Instr.loadAt 83 t6) w fun t55 w =>
  C Tryz.prog N.keys_Check #[t55] w fun t56 w =>
  mv t56 fun t10 =>
  mv t10 fun t57 =>
  o1 Tryz.prog (bin .neq 34 (.tmp 57) (.const .nilIface) t57 .nilIface) w fun t58 w =>
  br t58 (fun _ =>
  mv t10 fun t59 =>
  mv t59 fun t8_2 =>
  k t8_2 w) (fun _ =>
  dr w.drew fun S1 =>
  mv a1 fun t60 =>
  tk Tryz.prog S1 (Instr.fieldAt 49 t7 4) fun t61 =>
  tk Tryz.prog S1 (Instr.loadAt 3 t61) fun t62 =>
  tk Tryz.prog S1 (Instr.indexAt 70 t60 t62) fun t63 =>
  tk Tryz.prog S1 (Instr.fieldAt 76 t63 1) fun t64 =>
  tk Tryz.prog S1 (Instr.loadAt 23 t64) fun t65 =>
  tk Tryz.prog S1 (Instr.loadAt 83 t6) fun t66 =>
  mv a0 fun t67 =>
  tk Tryz.prog S1 (Instr.loadAt 49 t7) fun t68 =>
  tk Tryz.prog S1 (Instr.fieldAt 49 t7 5) fun t70 =>
  tk Tryz.prog S1 (Instr.loadAt 39 t70) fun t71 =>
  C Tryz.prog N.types_VoteBytes #[t67, t68] w.drew fun t69 w =>
  S1 w ∧
  C Tryz.prog N.keys_Verify #[t65, t66, t69, t71] w fun t72 w =>
  S1 w ∧
  mv t72 fun t11 =>
  mv t11 fun t73 =>
  o1 Tryz.prog (bin .neq 34 (.tmp 73) (.const .nilIface) t73 .nilIface) w fun t74 w =>
  br t74 (fun _ =>
  C Tryz.prog N.types_fault #[.string ⟨#[118, 111, 116, 101]⟩, .int .i64 21] w fun t75 w =>
  mv t75 fun t8_3 =>
  k t8_3 w) (fun _ =>
  mv .nilIface fun t8_4 =>
  k t8_4 w)))
def kindOk (v : Vote) : Bool := decide (v.kind = 1) || decide (v.kind = 2)
def voteBad (n : Nat) (v : Vote) : Prop := kindOk v = false ∨ v.height < 1 ∨ 1099511627776 < v.height ∨ v.round < 0 ∨ 1073741824 < v.round ∨ v.validator < 0 ∨ (n : Int) ≤ v.validator
instance {n : Nat} {v : Vote} : Decidable (voteBad n v) := by unfold voteBad; infer_instance
def keyOf (l : List Validator) (i : Int) : Bytes := match l[i.toNat]? with | some x => x.key | none => []
/-- 0 or the error's number -/
def verifyVote (chain : Bytes) (l : List Validator) (dg dp : Int) (v : Vote) : Int :=
  if voteBad l.length v then 31 else if kCheck dg dp ≠ 0 then kCheck dg dp
  else if verifyK (keyOf l v.validator) dg dp (encVoteBytes chain v) v.sign ≠ 0 then 21 else 0
section
variable {b : Base} {w : World} {L R : List It} {g6 g7 : Nat} {sv : Value} {cs : List Value} {chain : Bytes} {l : List Validator} {dg dp : Int} {v : Vote} {A : Option Addr} {c : Nat}
theorem vote_sign (hs : Isk.Sep b w L) (hv : Ins L (voteF (voteC (.int .i64 v.kind) (.int .i64 v.height) (.int .i64 v.round) (u8s v.block) (.int .i64 v.validator) sv) v).it) : Isk.Sep b w ((byF sv v.sign).it :: L) := by
  have hvs : VoteS _ _ _ v := hs.get hv
  obtain ⟨sv', e, ho, h2⟩ := hvs
  simp only [voteC, List.cons.injEq, true_and, List.append_cancel_left_eq, and_true] at e
  subst e
  exact hs.fact h2
theorem vv_r2 {K : Value → World → Prop} (hs : Isk.Sep b w (blkI g7 T.api_Vote (voteC (.int .i64 v.kind) (.int .i64 v.height) (.int .i64 v.round) (u8s v.block) (.int .i64 v.validator) sv) :: blkI g6 T.api_Params [.int .i64 dg, .int .i64 dp] :: (byF sv v.sign).it :: (voteF (voteC (.int .i64 v.kind) (.int .i64 v.height) (.int .i64 v.round) (u8s v.block) (.int .i64 v.validator) sv) v).it :: L))
    (hR : Ins L rndF.it) (hl : Ins L (listF valiF 34 (.slice A l.length c) l).it) (hsl : v.sign.length ≤ 2147483648) (hch : (encVoteBytes chain v).length + 10 ≤ 2147483648)
    (hK : ∀ r w', Isk.Sep b w' ((errF r (verifyVote chain l dg dp v)).it :: L) → K r w') :
    F.types_VerifyVote_r2 K (str chain) (.slice A l.length c) (.pointer (some ⟨g6, 0, none⟩)) (.pointer (some ⟨g7, 0, none⟩)) (.bool (decide (voteBad l.length v))) w := by
  obtain ⟨_, _, hvo, _⟩ : VoteS _ _ _ _ := hs.get (.tl (.tl (.tl .hd)))
  have hblock := hvo.block
  have hvl := voteC_len (a0 := .int .i64 v.kind) (a1 := .int .i64 v.height) (a2 := .int .i64 v.round) (a3 := u8s v.block) (a4 := .int .i64 v.validator) (a5 := sv) (u8s_len hblock)
  unfold F.types_VerifyVote_r2
  by_cases hb : voteBad l.length v
  · rw [decide_eq_true hb]
    refine br_t ?_
    rw [verifyVote, if_pos hb] at hK
    refine cl (types_fault (by decide) (by decide) (by decide) hs) ?_
    rintro r w hs
    repeat with_reducible refine mv.mk ?_
    exact hK r w (hs.sbl (.cons .hd (.drop (.drop (.drop (.drop .all))))))
  rw [decide_eq_false hb]
  rw [verifyVote, if_neg hb] at hK
  have hlt : v.validator.toNat < l.length := by unfold voteBad at hb; omega
  have hlt2 : v.validator = (v.validator.toNat : Int) := by unfold voteBad at hb; omega
  refine br_f ?_
  refine sp_loadall hs (.tl .hd) (by kernel_rfl) rfl ?_
  refine cl (keys_Check hs) ?_
  rintro e w hs
  repeat with_reducible refine mv.mk ?_
  refine st_of (err_neq hs .hd) ?_
  by_cases hc : kCheck dg dp = 0
  rotate_left
  · rw [show decide (kCheck dg dp = 0) = false from decide_eq_false hc]
    rw [if_pos hc] at hK
    refine br_t ?_
    repeat with_reducible refine mv.mk ?_
    exact hK _ _ (hs.sbl (.cons .hd (.drop (.drop (.drop (.drop .all))))))
  rw [show decide (kCheck dg dp = 0) = true from decide_eq_true hc]
  rw [if_neg (by simpa using hc)] at hK
  refine br_f ?_
  obtain ⟨g3, o3, xs, hrun, hxl, hs2⟩ := hs.drew.el (F := valiF) (sv := .slice A l.length c) (ls := l) (.tl (.tl (.tl (.tl (.tl hl))))) tVals _ hlt
  obtain ⟨rfl, hxo⟩ := vali_of hs2 (x := l[v.validator.toNat]) (by repeat (first | with_reducible exact Ins.hd | with_reducible apply Ins.tl))
  have hxk := hxo.key
  have hkey : keyOf l v.validator = l[v.validator.toNat].key := by unfold keyOf; rw [List.getElem?_eq_getElem hlt]
  rw [← hlt2] at hrun
  clear hs
  refine dr_can hs2 .all ?_
  generalize hLL : ((_ : It) :: (valiF _ l[v.validator.toNat]).it :: _) = LL at hs2
  have hS := hid (L := LL)
  subst hLL
  obtain ⟨A3, c3, hsv⟩ := bytesF_slice (hs2) (v := sv) (l := v.sign) (by repeat (first | with_reducible exact Ins.hd | with_reducible apply Ins.tl))
  subst hsv
  repeat (first
   | (with_reducible refine vote.a1 ?_)
   | ((with_reducible apply vote.r1 hs); (· (with_reducible (repeat (first | exact .blk | exact .rng | apply Rng.tl)))))
   | (with_reducible refine vote.c1 ?_)
   | ((with_reducible apply vote.e1); (· first | exact hS | exact hid); (· (with_reducible (repeat (first | exact .blk | exact .rng | apply Rng.tl)))))
   | (with_reducible refine vote.a4 ?_)
   | ((with_reducible apply vote.r4 hs); (· (with_reducible (repeat (first | exact .blk | exact .rng | apply Rng.tl)))); (· (with_reducible (first | assumption | exact z32 | exact u8s_len (by assumption)))))
   | (with_reducible refine vote.c4 ?_)
   | ((with_reducible apply vote.e4); (· first | exact hS | exact hid); (· (with_reducible (repeat (first | exact .blk | exact .rng | apply Rng.tl)))); (· (with_reducible (first | assumption | exact z32 | exact u8s_len (by assumption)))))
   | (with_reducible refine vote.a5 ?_)
   | ((with_reducible apply vote.r5 hs); (· (with_reducible (repeat (first | exact .blk | exact .rng | apply Rng.tl)))); (· (with_reducible (first | assumption | exact z32 | exact u8s_len (by assumption)))))
   | (with_reducible refine vote.c5 ?_)
   | ((with_reducible apply vote.e5); (· first | exact hS | exact hid); (· (with_reducible (repeat (first | exact .blk | exact .rng | apply Rng.tl)))); (· (with_reducible (first | assumption | exact z32 | exact u8s_len (by assumption)))))
   | (with_reducible (first | refine st_nels ?_ | refine mv.mk ?_ | refine br_t ?_ | refine br_f ?_))
   | (with_reducible ((first | apply st_bin); intro k' hk; simp [go_sem, thenR_ok, bin]; refine hk _ _ ?_; clear hk k')))
  refine tk_run (hrun .i64) ?_
  repeat (first
   | (with_reducible refine vali.a1 ?_)
   | ((with_reducible apply vali.r1 hs); (· (with_reducible (repeat (first | exact .blk | exact .rng | apply Rng.tl)))); (· (with_reducible (first | assumption | exact z32 | exact u8s_len (by assumption)))))
   | (with_reducible refine vali.c1 ?_)
   | ((with_reducible apply vali.e1); (· first | exact hS | exact hid); (· (with_reducible (repeat (first | exact .blk | exact .rng | apply Rng.tl)))); (· (with_reducible (first | assumption | exact z32 | exact u8s_len (by assumption)))))
   | (with_reducible (first | refine st_nels ?_ | refine mv.mk ?_ | refine br_t ?_ | refine br_f ?_))
   | (with_reducible ((first | apply st_bin); intro k' hk; simp [go_sem, thenR_ok, bin]; refine hk _ _ ?_; clear hk k')))
  refine tk_ldn hS (.tl (.tl (.tl (.tl (by repeat (first | with_reducible exact Rng.blk | with_reducible exact Rng.rng | with_reducible apply Rng.tl)))))) (by kernel_rfl) rfl ?_
  repeat (first
   | (with_reducible (first | refine st_nels ?_ | refine mv.mk ?_ | refine br_t ?_ | refine br_f ?_))
   | (with_reducible ((first | apply st_bin); intro k' hk; simp [go_sem, thenR_ok, bin]; refine hk _ _ ?_; clear hk k')))
  refine tk_ldn hS (.tl (.tl (.tl (by repeat (first | with_reducible exact Rng.blk | with_reducible exact Rng.rng | with_reducible apply Rng.tl))))) (by kernel_rfl) hvl ?_
  repeat (first
   | (with_reducible refine vote.a1 ?_)
   | ((with_reducible apply vote.r1 hs); (· (with_reducible (repeat (first | exact .blk | exact .rng | apply Rng.tl)))))
   | (with_reducible refine vote.c1 ?_)
   | ((with_reducible apply vote.e1); (· first | exact hS | exact hid); (· (with_reducible (repeat (first | exact .blk | exact .rng | apply Rng.tl)))))
   | (with_reducible refine vote.a4 ?_)
   | ((with_reducible apply vote.r4 hs); (· (with_reducible (repeat (first | exact .blk | exact .rng | apply Rng.tl)))); (· (with_reducible (first | assumption | exact z32 | exact u8s_len (by assumption)))))
   | (with_reducible refine vote.c4 ?_)
   | ((with_reducible apply vote.e4); (· first | exact hS | exact hid); (· (with_reducible (repeat (first | exact .blk | exact .rng | apply Rng.tl)))); (· (with_reducible (first | assumption | exact z32 | exact u8s_len (by assumption)))))
   | (with_reducible refine vote.a5 ?_)
   | ((with_reducible apply vote.r5 hs); (· (with_reducible (repeat (first | exact .blk | exact .rng | apply Rng.tl)))); (· (with_reducible (first | assumption | exact z32 | exact u8s_len (by assumption)))))
   | (with_reducible refine vote.c5 ?_)
   | ((with_reducible apply vote.e5); (· first | exact hS | exact hid); (· (with_reducible (repeat (first | exact .blk | exact .rng | apply Rng.tl)))); (· (with_reducible (first | assumption | exact z32 | exact u8s_len (by assumption)))))
   | (with_reducible (first | refine st_nels ?_ | refine mv.mk ?_ | refine br_t ?_ | refine br_f ?_))
   | (with_reducible ((first | apply st_bin); intro k' hk; simp [go_sem, thenR_ok, bin]; refine hk _ _ ?_; clear hk k')))
  have hvs : VoteS _ _ _ v := hs2.get (I := (voteF _ v).it) (.tl (.tl (.tl (.tl (.tl (.tl .hd))))))
  refine cl (types_VoteBytes hvs.is hch) ?_
  rintro rv w' hN
  replace hs2 := newB_sep hs2 hN
  clear hN hvs
  refine ⟨hs2.mayr (.drop .all), ?_⟩
  refine cl (keys_Verify (root := l[v.validator.toNat].key) (text := encVoteBytes chain v) (sign := v.sign) hs2 (by repeat (first | exact hR | apply Ins.tl)) .hd (.tl (.tl (.tl (.tl (.tl (.tl .hd)))))) hsl (by omega) hxk) ?_
  rintro e2 w2 hs
  refine ⟨hs.mayr (.drop (.drop .all)), ?_⟩
  rw [← hkey] at hs
  repeat with_reducible refine mv.mk ?_
  refine st_of (err_neq hs .hd) ?_
  by_cases hv : verifyK (keyOf l v.validator) dg dp (encVoteBytes chain v) v.sign = 0
  · rw [decide_eq_true hv]
    rw [if_neg (by simpa using hv)] at hK
    refine br_f ?_
    repeat with_reducible refine mv.mk ?_
    exact hK _ _ ((errF_nil hs).sbl (.cons .hd (.drop (.drop (.drop (.drop (.drop (.drop (.drop (.drop (.drop .all)))))))))))
  · rw [decide_eq_false hv]
    rw [if_pos hv] at hK
    refine br_t ?_
    refine cl (types_fault (by decide) (by decide) (by decide) hs) ?_
    rintro r w hs
    repeat with_reducible refine mv.mk ?_
    exact hK r w (hs.sbl (.cons .hd (.drop (.drop (.drop (.drop (.drop (.drop (.drop (.drop (.drop .all)))))))))))
theorem vv_r1 {K : Value → World → Prop} (hs : Isk.Sep b w (blkI g7 T.api_Vote (voteC (.int .i64 v.kind) (.int .i64 v.height) (.int .i64 v.round) (u8s v.block) (.int .i64 v.validator) sv) :: blkI g6 T.api_Params [.int .i64 dg, .int .i64 dp] :: (byF sv v.sign).it :: (voteF (voteC (.int .i64 v.kind) (.int .i64 v.height) (.int .i64 v.round) (u8s v.block) (.int .i64 v.validator) sv) v).it :: L))
    (hR : Ins L rndF.it) (hl : Ins L (listF valiF 34 (.slice A l.length c) l).it) (hsl : v.sign.length ≤ 2147483648) (hch : (encVoteBytes chain v).length + 10 ≤ 2147483648)
    (hK : ∀ r w', Isk.Sep b w' ((errF r (verifyVote chain l dg dp v)).it :: L) → K r w') :
    F.types_VerifyVote_r1 K (str chain) (.slice A l.length c) (.pointer (some ⟨g6, 0, none⟩)) (.pointer (some ⟨g7, 0, none⟩)) (.bool (!kindOk v)) w := by
  obtain ⟨_, _, hvo, _⟩ : VoteS _ _ _ _ := hs.get (.tl (.tl (.tl .hd)))
  have hblock := hvo.block
  unfold F.types_VerifyVote_r1
  have hend : ∀ (bb : Bool), decide (voteBad l.length v) = bb → F.types_VerifyVote_r2 K (str chain) (.slice A l.length c) (.pointer (some ⟨g6, 0, none⟩)) (.pointer (some ⟨g7, 0, none⟩)) (.bool bb) w := fun bb e => by
    subst e; exact vv_r2 hs hR hl hsl hch hK
  cases c0 : kindOk v with
  | false =>
    simp only [Bool.not_false]
    repeat (first
     | (with_reducible (first | refine st_lens ?_ | refine st_nels ?_ | refine mv.mk ?_ | refine gd_u ?_ | refine gd_ft ?_ | refine gd_tf ?_ | refine gd_i ?_ | refine pk_t ?_ | refine pk_f ?_ | refine br_t ?_ | refine br_f ?_))
     | (with_reducible ((first | apply st_bin | apply st_len); intro k' hk; simp [go_sem, thenR_ok, bin]; refine hk _ _ ?_; clear hk k')))
    exact (show br _ _ _ from hend true (decide_eq_true (.inl c0))).out
  | true =>
  simp only [Bool.not_true]
  repeat (first
   | (with_reducible refine vote.a1 ?_)
   | ((with_reducible apply vote.r1 hs); (· (with_reducible (repeat (first | exact .blk | exact .rng | apply Rng.tl)))))
   | (with_reducible refine vote.c1 ?_)
   | ((with_reducible apply vote.e1); (· first | exact hS | exact hid); (· (with_reducible (repeat (first | exact .blk | exact .rng | apply Rng.tl)))))
   | (with_reducible refine vote.a2 ?_)
   | ((with_reducible apply vote.r2 hs); (· (with_reducible (repeat (first | exact .blk | exact .rng | apply Rng.tl)))))
   | (with_reducible refine vote.c2 ?_)
   | ((with_reducible apply vote.e2); (· first | exact hS | exact hid); (· (with_reducible (repeat (first | exact .blk | exact .rng | apply Rng.tl)))))
   | (with_reducible refine vote.a4 ?_)
   | ((with_reducible apply vote.r4 hs); (· (with_reducible (repeat (first | exact .blk | exact .rng | apply Rng.tl)))); (· (with_reducible (first | assumption | exact z32 | exact u8s_len (by assumption)))))
   | (with_reducible refine vote.c4 ?_)
   | ((with_reducible apply vote.e4); (· first | exact hS | exact hid); (· (with_reducible (repeat (first | exact .blk | exact .rng | apply Rng.tl)))); (· (with_reducible (first | assumption | exact z32 | exact u8s_len (by assumption)))))
   | (with_reducible refine vote.a5 ?_)
   | ((with_reducible apply vote.r5 hs); (· (with_reducible (repeat (first | exact .blk | exact .rng | apply Rng.tl)))); (· (with_reducible (first | assumption | exact z32 | exact u8s_len (by assumption)))))
   | (with_reducible refine vote.c5 ?_)
   | ((with_reducible apply vote.e5); (· first | exact hS | exact hid); (· (with_reducible (repeat (first | exact .blk | exact .rng | apply Rng.tl)))); (· (with_reducible (first | assumption | exact z32 | exact u8s_len (by assumption)))))
   | (with_reducible (first | refine st_lens ?_ | refine st_nels ?_ | refine mv.mk ?_ | refine gd_u ?_ | refine gd_ft ?_ | refine gd_tf ?_ | refine gd_i ?_ | refine pk_t ?_ | refine pk_f ?_ | refine br_t ?_ | refine br_f ?_))
   | (with_reducible ((first | apply st_bin | apply st_len); intro k' hk; simp [go_sem, thenR_ok, bin]; refine hk _ _ ?_; clear hk k')))
  by_cases c1 : v.height < 1
  · rw [decide_eq_true c1]
    repeat (first
     | (with_reducible (first | refine st_lens ?_ | refine st_nels ?_ | refine mv.mk ?_ | refine gd_u ?_ | refine gd_ft ?_ | refine gd_tf ?_ | refine gd_i ?_ | refine pk_t ?_ | refine pk_f ?_ | refine br_t ?_ | refine br_f ?_))
     | (with_reducible ((first | apply st_bin | apply st_len); intro k' hk; simp [go_sem, thenR_ok, bin]; refine hk _ _ ?_; clear hk k')))
    exact (show br _ _ _ from hend true (decide_eq_true (.inr (.inl c1)))).out
  rw [decide_eq_false c1]
  repeat (first
   | (with_reducible refine vote.a1 ?_)
   | ((with_reducible apply vote.r1 hs); (· (with_reducible (repeat (first | exact .blk | exact .rng | apply Rng.tl)))))
   | (with_reducible refine vote.c1 ?_)
   | ((with_reducible apply vote.e1); (· first | exact hS | exact hid); (· (with_reducible (repeat (first | exact .blk | exact .rng | apply Rng.tl)))))
   | (with_reducible refine vote.a2 ?_)
   | ((with_reducible apply vote.r2 hs); (· (with_reducible (repeat (first | exact .blk | exact .rng | apply Rng.tl)))))
   | (with_reducible refine vote.c2 ?_)
   | ((with_reducible apply vote.e2); (· first | exact hS | exact hid); (· (with_reducible (repeat (first | exact .blk | exact .rng | apply Rng.tl)))))
   | (with_reducible refine vote.a4 ?_)
   | ((with_reducible apply vote.r4 hs); (· (with_reducible (repeat (first | exact .blk | exact .rng | apply Rng.tl)))); (· (with_reducible (first | assumption | exact z32 | exact u8s_len (by assumption)))))
   | (with_reducible refine vote.c4 ?_)
   | ((with_reducible apply vote.e4); (· first | exact hS | exact hid); (· (with_reducible (repeat (first | exact .blk | exact .rng | apply Rng.tl)))); (· (with_reducible (first | assumption | exact z32 | exact u8s_len (by assumption)))))
   | (with_reducible refine vote.a5 ?_)
   | ((with_reducible apply vote.r5 hs); (· (with_reducible (repeat (first | exact .blk | exact .rng | apply Rng.tl)))); (· (with_reducible (first | assumption | exact z32 | exact u8s_len (by assumption)))))
   | (with_reducible refine vote.c5 ?_)
   | ((with_reducible apply vote.e5); (· first | exact hS | exact hid); (· (with_reducible (repeat (first | exact .blk | exact .rng | apply Rng.tl)))); (· (with_reducible (first | assumption | exact z32 | exact u8s_len (by assumption)))))
   | (with_reducible (first | refine st_lens ?_ | refine st_nels ?_ | refine mv.mk ?_ | refine gd_u ?_ | refine gd_ft ?_ | refine gd_tf ?_ | refine gd_i ?_ | refine pk_t ?_ | refine pk_f ?_ | refine br_t ?_ | refine br_f ?_))
   | (with_reducible ((first | apply st_bin | apply st_len); intro k' hk; simp [go_sem, thenR_ok, bin]; refine hk _ _ ?_; clear hk k')))
  by_cases c2 : 1099511627776 < v.height
  · rw [decide_eq_true c2]
    repeat (first
     | (with_reducible (first | refine st_lens ?_ | refine st_nels ?_ | refine mv.mk ?_ | refine gd_u ?_ | refine gd_ft ?_ | refine gd_tf ?_ | refine gd_i ?_ | refine pk_t ?_ | refine pk_f ?_ | refine br_t ?_ | refine br_f ?_))
     | (with_reducible ((first | apply st_bin | apply st_len); intro k' hk; simp [go_sem, thenR_ok, bin]; refine hk _ _ ?_; clear hk k')))
    exact (show br _ _ _ from hend true (decide_eq_true (.inr (.inr (.inl c2))))).out
  rw [decide_eq_false c2]
  repeat (first
   | (with_reducible refine vote.a1 ?_)
   | ((with_reducible apply vote.r1 hs); (· (with_reducible (repeat (first | exact .blk | exact .rng | apply Rng.tl)))))
   | (with_reducible refine vote.c1 ?_)
   | ((with_reducible apply vote.e1); (· first | exact hS | exact hid); (· (with_reducible (repeat (first | exact .blk | exact .rng | apply Rng.tl)))))
   | (with_reducible refine vote.a2 ?_)
   | ((with_reducible apply vote.r2 hs); (· (with_reducible (repeat (first | exact .blk | exact .rng | apply Rng.tl)))))
   | (with_reducible refine vote.c2 ?_)
   | ((with_reducible apply vote.e2); (· first | exact hS | exact hid); (· (with_reducible (repeat (first | exact .blk | exact .rng | apply Rng.tl)))))
   | (with_reducible refine vote.a4 ?_)
   | ((with_reducible apply vote.r4 hs); (· (with_reducible (repeat (first | exact .blk | exact .rng | apply Rng.tl)))); (· (with_reducible (first | assumption | exact z32 | exact u8s_len (by assumption)))))
   | (with_reducible refine vote.c4 ?_)
   | ((with_reducible apply vote.e4); (· first | exact hS | exact hid); (· (with_reducible (repeat (first | exact .blk | exact .rng | apply Rng.tl)))); (· (with_reducible (first | assumption | exact z32 | exact u8s_len (by assumption)))))
   | (with_reducible refine vote.a5 ?_)
   | ((with_reducible apply vote.r5 hs); (· (with_reducible (repeat (first | exact .blk | exact .rng | apply Rng.tl)))); (· (with_reducible (first | assumption | exact z32 | exact u8s_len (by assumption)))))
   | (with_reducible refine vote.c5 ?_)
   | ((with_reducible apply vote.e5); (· first | exact hS | exact hid); (· (with_reducible (repeat (first | exact .blk | exact .rng | apply Rng.tl)))); (· (with_reducible (first | assumption | exact z32 | exact u8s_len (by assumption)))))
   | (with_reducible (first | refine st_lens ?_ | refine st_nels ?_ | refine mv.mk ?_ | refine gd_u ?_ | refine gd_ft ?_ | refine gd_tf ?_ | refine gd_i ?_ | refine pk_t ?_ | refine pk_f ?_ | refine br_t ?_ | refine br_f ?_))
   | (with_reducible ((first | apply st_bin | apply st_len); intro k' hk; simp [go_sem, thenR_ok, bin]; refine hk _ _ ?_; clear hk k')))
  by_cases c3 : v.round < 0
  · rw [decide_eq_true c3]
    repeat (first
     | (with_reducible (first | refine st_lens ?_ | refine st_nels ?_ | refine mv.mk ?_ | refine gd_u ?_ | refine gd_ft ?_ | refine gd_tf ?_ | refine gd_i ?_ | refine pk_t ?_ | refine pk_f ?_ | refine br_t ?_ | refine br_f ?_))
     | (with_reducible ((first | apply st_bin | apply st_len); intro k' hk; simp [go_sem, thenR_ok, bin]; refine hk _ _ ?_; clear hk k')))
    exact (show br _ _ _ from hend true (decide_eq_true (.inr (.inr (.inr (.inl c3)))))).out
  rw [decide_eq_false c3]
  repeat (first
   | (with_reducible refine vote.a1 ?_)
   | ((with_reducible apply vote.r1 hs); (· (with_reducible (repeat (first | exact .blk | exact .rng | apply Rng.tl)))))
   | (with_reducible refine vote.c1 ?_)
   | ((with_reducible apply vote.e1); (· first | exact hS | exact hid); (· (with_reducible (repeat (first | exact .blk | exact .rng | apply Rng.tl)))))
   | (with_reducible refine vote.a2 ?_)
   | ((with_reducible apply vote.r2 hs); (· (with_reducible (repeat (first | exact .blk | exact .rng | apply Rng.tl)))))
   | (with_reducible refine vote.c2 ?_)
   | ((with_reducible apply vote.e2); (· first | exact hS | exact hid); (· (with_reducible (repeat (first | exact .blk | exact .rng | apply Rng.tl)))))
   | (with_reducible refine vote.a4 ?_)
   | ((with_reducible apply vote.r4 hs); (· (with_reducible (repeat (first | exact .blk | exact .rng | apply Rng.tl)))); (· (with_reducible (first | assumption | exact z32 | exact u8s_len (by assumption)))))
   | (with_reducible refine vote.c4 ?_)
   | ((with_reducible apply vote.e4); (· first | exact hS | exact hid); (· (with_reducible (repeat (first | exact .blk | exact .rng | apply Rng.tl)))); (· (with_reducible (first | assumption | exact z32 | exact u8s_len (by assumption)))))
   | (with_reducible refine vote.a5 ?_)
   | ((with_reducible apply vote.r5 hs); (· (with_reducible (repeat (first | exact .blk | exact .rng | apply Rng.tl)))); (· (with_reducible (first | assumption | exact z32 | exact u8s_len (by assumption)))))
   | (with_reducible refine vote.c5 ?_)
   | ((with_reducible apply vote.e5); (· first | exact hS | exact hid); (· (with_reducible (repeat (first | exact .blk | exact .rng | apply Rng.tl)))); (· (with_reducible (first | assumption | exact z32 | exact u8s_len (by assumption)))))
   | (with_reducible (first | refine st_lens ?_ | refine st_nels ?_ | refine mv.mk ?_ | refine gd_u ?_ | refine gd_ft ?_ | refine gd_tf ?_ | refine gd_i ?_ | refine pk_t ?_ | refine pk_f ?_ | refine br_t ?_ | refine br_f ?_))
   | (with_reducible ((first | apply st_bin | apply st_len); intro k' hk; simp [go_sem, thenR_ok, bin]; refine hk _ _ ?_; clear hk k')))
  by_cases c4 : 1073741824 < v.round
  · rw [decide_eq_true c4]
    repeat (first
     | (with_reducible (first | refine st_lens ?_ | refine st_nels ?_ | refine mv.mk ?_ | refine gd_u ?_ | refine gd_ft ?_ | refine gd_tf ?_ | refine gd_i ?_ | refine pk_t ?_ | refine pk_f ?_ | refine br_t ?_ | refine br_f ?_))
     | (with_reducible ((first | apply st_bin | apply st_len); intro k' hk; simp [go_sem, thenR_ok, bin]; refine hk _ _ ?_; clear hk k')))
    exact (show br _ _ _ from hend true (decide_eq_true (.inr (.inr (.inr (.inr (.inl c4))))))).out
  rw [decide_eq_false c4]
  repeat (first
   | (with_reducible refine vote.a1 ?_)
   | ((with_reducible apply vote.r1 hs); (· (with_reducible (repeat (first | exact .blk | exact .rng | apply Rng.tl)))))
   | (with_reducible refine vote.c1 ?_)
   | ((with_reducible apply vote.e1); (· first | exact hS | exact hid); (· (with_reducible (repeat (first | exact .blk | exact .rng | apply Rng.tl)))))
   | (with_reducible refine vote.a2 ?_)
   | ((with_reducible apply vote.r2 hs); (· (with_reducible (repeat (first | exact .blk | exact .rng | apply Rng.tl)))))
   | (with_reducible refine vote.c2 ?_)
   | ((with_reducible apply vote.e2); (· first | exact hS | exact hid); (· (with_reducible (repeat (first | exact .blk | exact .rng | apply Rng.tl)))))
   | (with_reducible refine vote.a4 ?_)
   | ((with_reducible apply vote.r4 hs); (· (with_reducible (repeat (first | exact .blk | exact .rng | apply Rng.tl)))); (· (with_reducible (first | assumption | exact z32 | exact u8s_len (by assumption)))))
   | (with_reducible refine vote.c4 ?_)
   | ((with_reducible apply vote.e4); (· first | exact hS | exact hid); (· (with_reducible (repeat (first | exact .blk | exact .rng | apply Rng.tl)))); (· (with_reducible (first | assumption | exact z32 | exact u8s_len (by assumption)))))
   | (with_reducible refine vote.a5 ?_)
   | ((with_reducible apply vote.r5 hs); (· (with_reducible (repeat (first | exact .blk | exact .rng | apply Rng.tl)))); (· (with_reducible (first | assumption | exact z32 | exact u8s_len (by assumption)))))
   | (with_reducible refine vote.c5 ?_)
   | ((with_reducible apply vote.e5); (· first | exact hS | exact hid); (· (with_reducible (repeat (first | exact .blk | exact .rng | apply Rng.tl)))); (· (with_reducible (first | assumption | exact z32 | exact u8s_len (by assumption)))))
   | (with_reducible (first | refine st_lens ?_ | refine st_nels ?_ | refine mv.mk ?_ | refine gd_u ?_ | refine gd_ft ?_ | refine gd_tf ?_ | refine gd_i ?_ | refine pk_t ?_ | refine pk_f ?_ | refine br_t ?_ | refine br_f ?_))
   | (with_reducible ((first | apply st_bin | apply st_len); intro k' hk; simp [go_sem, thenR_ok, bin]; refine hk _ _ ?_; clear hk k')))
  by_cases c5 : v.validator < 0
  · rw [decide_eq_true c5]
    repeat (first
     | (with_reducible (first | refine st_lens ?_ | refine st_nels ?_ | refine mv.mk ?_ | refine gd_u ?_ | refine gd_ft ?_ | refine gd_tf ?_ | refine gd_i ?_ | refine pk_t ?_ | refine pk_f ?_ | refine br_t ?_ | refine br_f ?_))
     | (with_reducible ((first | apply st_bin | apply st_len); intro k' hk; simp [go_sem, thenR_ok, bin]; refine hk _ _ ?_; clear hk k')))
    exact (show br _ _ _ from hend true (decide_eq_true (.inr (.inr (.inr (.inr (.inr (.inl c5)))))))).out
  rw [decide_eq_false c5]
  repeat (first
   | (with_reducible refine vote.a1 ?_)
   | ((with_reducible apply vote.r1 hs); (· (with_reducible (repeat (first | exact .blk | exact .rng | apply Rng.tl)))))
   | (with_reducible refine vote.c1 ?_)
   | ((with_reducible apply vote.e1); (· first | exact hS | exact hid); (· (with_reducible (repeat (first | exact .blk | exact .rng | apply Rng.tl)))))
   | (with_reducible refine vote.a2 ?_)
   | ((with_reducible apply vote.r2 hs); (· (with_reducible (repeat (first | exact .blk | exact .rng | apply Rng.tl)))))
   | (with_reducible refine vote.c2 ?_)
   | ((with_reducible apply vote.e2); (· first | exact hS | exact hid); (· (with_reducible (repeat (first | exact .blk | exact .rng | apply Rng.tl)))))
   | (with_reducible refine vote.a4 ?_)
   | ((with_reducible apply vote.r4 hs); (· (with_reducible (repeat (first | exact .blk | exact .rng | apply Rng.tl)))); (· (with_reducible (first | assumption | exact z32 | exact u8s_len (by assumption)))))
   | (with_reducible refine vote.c4 ?_)
   | ((with_reducible apply vote.e4); (· first | exact hS | exact hid); (· (with_reducible (repeat (first | exact .blk | exact .rng | apply Rng.tl)))); (· (with_reducible (first | assumption | exact z32 | exact u8s_len (by assumption)))))
   | (with_reducible refine vote.a5 ?_)
   | ((with_reducible apply vote.r5 hs); (· (with_reducible (repeat (first | exact .blk | exact .rng | apply Rng.tl)))); (· (with_reducible (first | assumption | exact z32 | exact u8s_len (by assumption)))))
   | (with_reducible refine vote.c5 ?_)
   | ((with_reducible apply vote.e5); (· first | exact hS | exact hid); (· (with_reducible (repeat (first | exact .blk | exact .rng | apply Rng.tl)))); (· (with_reducible (first | assumption | exact z32 | exact u8s_len (by assumption)))))
   | (with_reducible (first | refine st_lens ?_ | refine st_nels ?_ | refine mv.mk ?_ | refine gd_u ?_ | refine gd_ft ?_ | refine gd_tf ?_ | refine gd_i ?_ | refine pk_t ?_ | refine pk_f ?_ | refine br_t ?_ | refine br_f ?_))
   | (with_reducible ((first | apply st_bin | apply st_len); intro k' hk; simp [go_sem, thenR_ok, bin]; refine hk _ _ ?_; clear hk k')))
  refine hend _ (Bool.eq_iff_iff.2 ?_)
  rw [decide_eq_true_iff, decide_eq_true_iff]
  unfold voteBad
  simp only [c0, c1, c2, c3, c4, c5, false_or, Bool.true_eq_false]
theorem types_VerifyVote {lv : Value} (hs : Isk.Sep b w L) (hR : Ins L rndF.it) (hl : Ins L (listF valiF 34 lv l).it) (hv : Ins L (voteF cs v).it) (hsl : v.sign.length ≤ 2147483648) (hch : (encVoteBytes chain v).length + 10 ≤ 2147483648) :
    C Tryz.prog N.types_VerifyVote #[str chain, lv, .agg #[.int .i64 dg, .int .i64 dp], .agg cs.toArray] w fun r w' => Isk.Sep b w' ((errF r (verifyVote chain l dg dp v)).it :: L) := by
  obtain ⟨A, c, rfl⟩ := hs.lst_len hl.lst
  have hvs : VoteS _ _ _ v := hs.get hv
  obtain ⟨sv, rfl, hvo, hsv⟩ := id hvs
  have hblock := hvo.block
  refine C.types_VerifyVote ?_
  unfold F.types_VerifyVote
  replace hs := hs.fact (f := voteF _ v) hvs
  replace hs := vote_sign hs .hd
  refine sp_box (cs := [.int .i64 dg, .int .i64 dp]) hs rfl fun g6 w hs => ?_
  refine sp_boxa hs fun g7 w hs => ?_
  have hend : ∀ (bb : Bool), kindOk v = bb → F.types_VerifyVote_r1 (fun r w' => Isk.Sep b w' ((errF r (verifyVote chain l dg dp v)).it :: L)) (str chain) (.slice A l.length c) (.pointer (some ⟨g6, 0, none⟩)) (.pointer (some ⟨g7, 0, none⟩)) (.bool (!bb)) w := fun bb e => by
    subst e; exact vv_r1 hs hR hl hsl hch fun r w h => h
  repeat (first
   | (with_reducible refine vote.a0 ?_)
   | ((with_reducible apply vote.r0 hs); (· (with_reducible (repeat (first | exact .blk | exact .rng | apply Rng.tl)))))
   | (with_reducible refine vote.c0 ?_)
   | ((with_reducible apply vote.e0); (· first | exact hS | exact hid); (· (with_reducible (repeat (first | exact .blk | exact .rng | apply Rng.tl)))))
   | (with_reducible refine vote.a1 ?_)
   | ((with_reducible apply vote.r1 hs); (· (with_reducible (repeat (first | exact .blk | exact .rng | apply Rng.tl)))))
   | (with_reducible refine vote.c1 ?_)
   | ((with_reducible apply vote.e1); (· first | exact hS | exact hid); (· (with_reducible (repeat (first | exact .blk | exact .rng | apply Rng.tl)))))
   | (with_reducible refine vote.a2 ?_)
   | ((with_reducible apply vote.r2 hs); (· (with_reducible (repeat (first | exact .blk | exact .rng | apply Rng.tl)))))
   | (with_reducible refine vote.c2 ?_)
   | ((with_reducible apply vote.e2); (· first | exact hS | exact hid); (· (with_reducible (repeat (first | exact .blk | exact .rng | apply Rng.tl)))))
   | (with_reducible refine vote.a4 ?_)
   | ((with_reducible apply vote.r4 hs); (· (with_reducible (repeat (first | exact .blk | exact .rng | apply Rng.tl)))); (· (with_reducible (first | assumption | exact z32 | exact u8s_len (by assumption)))))
   | (with_reducible refine vote.c4 ?_)
   | ((with_reducible apply vote.e4); (· first | exact hS | exact hid); (· (with_reducible (repeat (first | exact .blk | exact .rng | apply Rng.tl)))); (· (with_reducible (first | assumption | exact z32 | exact u8s_len (by assumption)))))
   | (with_reducible refine vote.a5 ?_)
   | ((with_reducible apply vote.r5 hs); (· (with_reducible (repeat (first | exact .blk | exact .rng | apply Rng.tl)))); (· (with_reducible (first | assumption | exact z32 | exact u8s_len (by assumption)))))
   | (with_reducible refine vote.c5 ?_)
   | ((with_reducible apply vote.e5); (· first | exact hS | exact hid); (· (with_reducible (repeat (first | exact .blk | exact .rng | apply Rng.tl)))); (· (with_reducible (first | assumption | exact z32 | exact u8s_len (by assumption)))))
   | (with_reducible (first | refine st_lens ?_ | refine st_eqls ?_ | refine st_nels ?_ | refine mv.mk ?_ | refine gd_u ?_ | refine gd_ft ?_ | refine gd_tf ?_ | refine gd_i ?_ | refine pk_t ?_ | refine pk_f ?_ | refine br_t ?_ | refine br_f ?_ | refine sp_boxa hs fun g w hs => ?_))
   | (with_reducible ((first | apply st_bin | apply st_len | apply st_un); intro k' hk; simp [go_sem, thenR_ok, bin]; refine hk _ _ ?_; clear hk k')))
  by_cases c1 : v.kind = 1
  · rw [show (v.kind == 1) = true by simpa using c1]
    repeat with_reducible refine mv.mk ?_
    refine gd_tf ?_
    refine gd_tf ?_
    refine gd_tf ?_
    refine pk_t ?_
    repeat with_reducible refine mv.mk ?_
    refine st_of (v := .bool false) (w' := w) (by simp [go_sem]) ?_
    repeat with_reducible refine mv.mk ?_
    exact hend true (by simp [kindOk, c1])
  · rw [show (v.kind == 1) = false by simpa using c1]
    repeat (first
     | (with_reducible refine vote.a0 ?_)
     | ((with_reducible apply vote.r0 hs); (· (with_reducible (repeat (first | exact .blk | exact .rng | apply Rng.tl)))))
     | (with_reducible refine vote.c0 ?_)
     | ((with_reducible apply vote.e0); (· first | exact hS | exact hid); (· (with_reducible (repeat (first | exact .blk | exact .rng | apply Rng.tl)))))
     | (with_reducible refine vote.a1 ?_)
     | ((with_reducible apply vote.r1 hs); (· (with_reducible (repeat (first | exact .blk | exact .rng | apply Rng.tl)))))
     | (with_reducible refine vote.c1 ?_)
     | ((with_reducible apply vote.e1); (· first | exact hS | exact hid); (· (with_reducible (repeat (first | exact .blk | exact .rng | apply Rng.tl)))))
     | (with_reducible refine vote.a2 ?_)
     | ((with_reducible apply vote.r2 hs); (· (with_reducible (repeat (first | exact .blk | exact .rng | apply Rng.tl)))))
     | (with_reducible refine vote.c2 ?_)
     | ((with_reducible apply vote.e2); (· first | exact hS | exact hid); (· (with_reducible (repeat (first | exact .blk | exact .rng | apply Rng.tl)))))
     | (with_reducible refine vote.a4 ?_)
     | ((with_reducible apply vote.r4 hs); (· (with_reducible (repeat (first | exact .blk | exact .rng | apply Rng.tl)))); (· (with_reducible (first | assumption | exact z32 | exact u8s_len (by assumption)))))
     | (with_reducible refine vote.c4 ?_)
     | ((with_reducible apply vote.e4); (· first | exact hS | exact hid); (· (with_reducible (repeat (first | exact .blk | exact .rng | apply Rng.tl)))); (· (with_reducible (first | assumption | exact z32 | exact u8s_len (by assumption)))))
     | (with_reducible refine vote.a5 ?_)
     | ((with_reducible apply vote.r5 hs); (· (with_reducible (repeat (first | exact .blk | exact .rng | apply Rng.tl)))); (· (with_reducible (first | assumption | exact z32 | exact u8s_len (by assumption)))))
     | (with_reducible refine vote.c5 ?_)
     | ((with_reducible apply vote.e5); (· first | exact hS | exact hid); (· (with_reducible (repeat (first | exact .blk | exact .rng | apply Rng.tl)))); (· (with_reducible (first | assumption | exact z32 | exact u8s_len (by assumption)))))
     | (with_reducible (first | refine st_lens ?_ | refine st_eqls ?_ | refine st_nels ?_ | refine mv.mk ?_ | refine gd_u ?_ | refine gd_ft ?_ | refine gd_tf ?_ | refine gd_i ?_ | refine pk_t ?_ | refine pk_f ?_ | refine br_t ?_ | refine br_f ?_ | refine sp_boxa hs fun g w hs => ?_))
     | (with_reducible ((first | apply st_bin | apply st_len | apply st_un); intro k' hk; simp [go_sem, thenR_ok, bin]; refine hk _ _ ?_; clear hk k')))
    refine hend (v.kind == 2) ?_
    simp [kindOk, c1]
    rfl
end
end Go.Proofs.YtlfelmikcdmkhaaGreatDoor
set_option linter.unusedVariables false
set_option linter.unusedSimpArgs false
set_option linter.unusedSectionVars false
namespace Go.Proofs.YtlfelmikcdmkhaaGreatDoor
open Go Go.Isk Go.RowKit
set_option maxRecDepth 20000
def cvBad (c : Commit) (last : Int) (v : Vote) : Prop := ¬ v.kind = 2 ∨ ¬ v.height = c.height ∨ ¬ v.round = c.round ∨ ¬ v.block = c.block ∨ v.validator ≤ last
instance {c : Commit} {last : Int} {v : Vote} : Decidable (cvBad c last v) := by unfold cvBad; infer_instance
def powerOf (l : List Validator) (i : Int) : Int := match l[i.toNat]? with | some x => x.power | none => 0
/-- the error's number or 0, and the power, behind some votes -/
def cvGo (chain : Bytes) (l : List Validator) (dg dp : Int) (c : Commit) : List Vote → Int → Int → Int × Int
  | [], _, pw => (0, pw)
  | v :: r, last, pw => if cvBad c last v then (31, pw) else if verifyVote chain l dg dp v ≠ 0 then (verifyVote chain l dg dp v, pw)
    else cvGo chain l dg dp c r v.validator (IntKind.i64.wrap (pw + powerOf l v.validator))
def verifyCommit (chain : Bytes) (l : List Validator) (dg dp : Int) (c : Commit) : Int :=
  if checkSet l ≠ 0 then checkSet l else if c.block = zero32 then 31
  else if (cvGo chain l dg dp c c.votes (-1) 0).1 ≠ 0 then (cvGo chain l dg dp c c.votes (-1) 0).1
  else if IntKind.i64.wrap (3 * (cvGo chain l dg dp c c.votes (-1) 0).2) ≤ IntKind.i64.wrap (2 * total l) then 32 else 0
section
variable {b : Base} {w : World} {L R : List It} {g6 g7 : Nat} {sv lv : Value} {cs : List Value} {chain : Bytes} {l : List Validator} {dg dp : Int} {v : Vote} {c : Commit}
theorem voteBytes_len (h : v.ok) (hc : chain.length ≤ 1048576) : (encVoteBytes chain v).length ≤ 1048800 := by
  have h1 := encI_len h.kind
  have h2 := encI_len h.height
  have h3 := encI_len h.round
  have h4 := h.block
  have h5 := encB_len (l := chain) (by omega)
  have h6 := encB_len (l := voteTag) (by decide)
  have h7 : voteTag.length = 4 := by decide
  simp only [encVoteBytes, List.length_append]
  omega
end
end Go.Proofs.YtlfelmikcdmkhaaGreatDoor
