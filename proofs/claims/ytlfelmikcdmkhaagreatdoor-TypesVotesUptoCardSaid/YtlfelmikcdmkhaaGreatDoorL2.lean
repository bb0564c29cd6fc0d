/- Layer 11's law: what its functions share. -/
import Derived.Test.YtlfelmikcdmkhaaGreatDoorTV
import Derived.Test.YtlfelmikcdmkhaaGreatDoorRE
set_option linter.unusedVariables false
set_option linter.unusedSimpArgs false
set_option linter.unusedSectionVars false
namespace Go.Proofs.YtlfelmikcdmkhaaGreatDoor
open Go Go.Isk Go.RowKit
section
variable {b : Base} {w : World} {L R : List It} {g : Nat} {v sv : Value} {s l : Bytes} {cs ds : List Value} {k : Value → World → Prop}
def vA : Validator := ⟨[97], zero32, 3⟩
def vB : Validator := ⟨[98], zero32, 1⟩
theorem vA_is : ValiIs (valiC (str [97]) (u8s zero32) (.int .i64 3)) vA := ⟨rfl, by decide, by decide⟩
theorem vB_is : ValiIs (valiC (str [98]) (u8s zero32) (.int .i64 1)) vB := ⟨rfl, by decide, by decide⟩
def voteN (n : Int) : Vote := ⟨0, 0, 0, zero32, n, []⟩
theorem err_zero {e : Value} (hs : Sep b w L) (hm : Ins L (errF e 0).it) : e = .nilIface := by
  obtain ⟨d, hd⟩ := hs.get hm
  cases d with
  | zero => rcases hd with ⟨h, _⟩ | ⟨_, h, _⟩ ; exact h ; exact absurd rfl h
  | succ d => obtain ⟨_, _, _, _, h, _⟩ := hd; exact absurd rfl h
theorem z64 : I64 0 := by decide
theorem sp_voteN {n : Int} {k : Value → World → Prop} (hn : I64 n) (hs : Sep b w L) (hk : ∀ cc w, Sep b w ((commF cc ⟨0, 0, zero32, [voteN n]⟩).it :: L) → k (.agg cc.toArray) w) :
    o1 Tryz.prog (Instr.build T.api_Vote #[(4, .int .i64 n)]) w fun t w => o1 Tryz.prog (Instr.buildSlice T.sl_api_Vote 1 #[(0, t)]) w fun u w => o1 Tryz.prog (Instr.build T.api_Commit #[(3, u)]) w k := by
  refine st_build (cells := (voteC (.int .i64 0) (.int .i64 0) (.int .i64 0) (u8s zero32) (.int .i64 n) (.slice none 0 0)).toArray) (by kernel_rfl) ?_
  replace hs := hs.fact (f := voteF (voteC (.int .i64 0) (.int .i64 0) (.int .i64 0) (u8s zero32) (.int .i64 n) (.slice none 0 0)) (voteN n)) ⟨_, rfl, ⟨z64, z64, z64, rfl, hn⟩, SlS.nil 1⟩
  refine sp_litF (F := voteF) hs tVotes [_] [voteN n] rfl (by simp [voteC, z32]) rfl (by decide) (by decide) ⟨rfl, fun i hi x hx => ?_⟩ fun v w hs => ?_
  · match i, hi, hx with
    | 0, _, hx => simp only [List.getElem?_cons_zero, Option.some.injEq] at hx; subst hx; exact hs.get .hd
  obtain ⟨A, c, rfl⟩ := hs.lst_len .lst
  refine st_build (cells := (commC (.int .i64 0) (.int .i64 0) (u8s zero32) (.slice A 1 c)).toArray) (by kernel_rfl) ?_
  have hl := hs.get .hd
  refine hk _ w ((hs.fact (f := commF _ ⟨0, 0, zero32, [voteN n]⟩) ⟨_, rfl, ⟨z64, z64, rfl⟩, hl⟩).sbl (by repeat (first | with_reducible exact Sbl.all | with_reducible exact Sbl.nil | refine Sbl.cons (by first | ((repeat (first | with_reducible exact Has.hd | with_reducible apply Has.tl)); done) | (repeat (first | exact Has.hd | with_reducible apply Has.tl))) ?_ | refine Sbl.drop ?_)))
theorem isthmuslaw11_sure (hs : Sep b w L) (hT : Ins L errT.it) : C Tryz.prog N.isthmuslaw11_sure #[] w fun r w' => r = .bool true ∧ Sep b w' L := by
  have z : (u8s zero32).length = 32 := z32
  refine C.isthmuslaw11_sure ?_
  unfold F.isthmuslaw11_sure
  repeat with_reducible refine mv.mk ?_
  refine st_build (cells := (valiC (str [97]) (u8s zero32) (.int .i64 3)).toArray) (by kernel_rfl) ?_
  refine st_build (cells := (valiC (str [98]) (u8s zero32) (.int .i64 1)).toArray) (by kernel_rfl) ?_
  refine sp_litF (F := valiF) hs tVals [valiC (str [97]) (u8s zero32) (.int .i64 3), valiC (str [98]) (u8s zero32) (.int .i64 1)] [vA, vB] rfl (by simp [valiC, z]) rfl (by decide) (by decide) ⟨rfl, fun i hi x hx => ?_⟩ fun v w hs => ?_
  · match i, hi, hx with
    | 0, _, hx => simp only [List.getElem?_cons_zero, Option.some.injEq] at hx; subst hx; exact vA_is
    | 1, _, hx => simp only [List.getElem?_cons_succ, List.getElem?_cons_zero, Option.some.injEq] at hx; subst hx; exact vB_is
  repeat with_reducible refine mv.mk ?_
  refine cl (types_CheckSet hs .hd (by decide) (by decide)) ?_
  rintro e w hs
  rw [show checkSet [vA, vB] = 0 by decide] at hs
  have he : e = .nilIface := err_zero hs .hd
  subst he
  replace hs := hs.drop .hd
  repeat (first
   | (with_reducible (first | refine st_eqls ?_ | refine mv.mk ?_ | refine gd_u ?_ | refine gd_ft ?_ | refine gd_tf ?_ | refine gd_i ?_ | refine pk_t ?_ | refine pk_f ?_))
   | (with_reducible ((first | apply st_bin); intro k' hk; simp [go_sem, thenR_ok, bin]; refine hk _ _ ?_; clear hk k')))
  refine cl (types_Total hs .lst (by decide)) ?_
  rintro _ w ⟨rfl, hs⟩
  rw [show total [vA, vB] = 4 by decide]
  refine gd_i ?_
  repeat (first
   | (with_reducible (first | refine st_eqls ?_ | refine mv.mk ?_ | refine gd_u ?_ | refine gd_ft ?_ | refine gd_tf ?_ | refine gd_i ?_ | refine pk_t ?_ | refine pk_f ?_))
   | (with_reducible ((first | apply st_bin); intro k' hk; simp [go_sem, thenR_ok, bin]; refine hk _ _ ?_; clear hk k')))
  simp only [gd_bool, beq_self_eq_true, cond_true]
  refine sp_voteN (n := 1) (by decide) hs fun cc w hs => ?_
  refine cl (types_VerifyTrust hs (.tl .hd) (.tl .hd) .hd (by decide) (by decide)) ?_
  rintro e w hs
  rw [show verifyTrust [vA, vB] [vA, vB] ⟨0, 0, zero32, [voteN 1]⟩ = 32 by decide] at hs
  refine cl (isthmuslaw11_num hs (.tl (.tl (.tl hT))) .hd) ?_
  rintro _ w ⟨rfl, hs⟩
  repeat (first
   | (with_reducible (first | refine st_eqls ?_ | refine mv.mk ?_ | refine gd_u ?_ | refine gd_ft ?_ | refine gd_tf ?_ | refine gd_i ?_ | refine pk_t ?_ | refine pk_f ?_))
   | (with_reducible ((first | apply st_bin); intro k' hk; simp [go_sem, thenR_ok, bin]; refine hk _ _ ?_; clear hk k')))
  simp only [gd_bool, beq_self_eq_true, cond_true]
  refine sp_voteN (n := 0) (by decide) hs fun cc w hs => ?_
  refine cl (types_VerifyTrust hs (by repeat (first | with_reducible exact Ins.hd | with_reducible apply Ins.tl)) (by repeat (first | with_reducible exact Ins.hd | with_reducible apply Ins.tl)) .hd (by decide) (by decide)) ?_
  rintro e w hs
  rw [show verifyTrust [vA, vB] [vA, vB] ⟨0, 0, zero32, [voteN 0]⟩ = 0 by decide] at hs
  have he : e = .nilIface := err_zero hs .hd
  subst he
  repeat (first
   | (with_reducible (first | refine st_eqls ?_ | refine mv.mk ?_ | refine gd_u ?_ | refine gd_ft ?_ | refine gd_tf ?_ | refine gd_i ?_ | refine pk_t ?_ | refine pk_f ?_))
   | (with_reducible ((first | apply st_bin); intro k' hk; simp [go_sem, thenR_ok, bin]; refine hk _ _ ?_; clear hk k')))
  exact ⟨rfl, hs.sbl (by repeat (first | with_reducible exact Sbl.all | with_reducible exact Sbl.nil | refine Sbl.cons (by first | ((repeat (first | with_reducible exact Has.hd | with_reducible apply Has.tl)); done) | (repeat (first | exact Has.hd | with_reducible apply Has.tl))) ?_ | refine Sbl.drop ?_))⟩
end
end Go.Proofs.YtlfelmikcdmkhaaGreatDoor
set_option linter.unusedVariables false
set_option linter.unusedSimpArgs false
set_option linter.unusedSectionVars false
namespace Go.Proofs.YtlfelmikcdmkhaaGreatDoor
open Go Go.Isk Go.RowKit
section
variable {b : Base} {w w' : World} {L R : List It} {g : Nat} {v sv av bv : Value} {s l : Bytes} {cs ds : List Value} {k : Value → World → Prop}
theorem newB_sep {r : Value} (hs : Sep b w L) (h : NewB w r w' l) : Sep b w' ((byF r l).it :: L) := (hs.ext h.2.1).fresh hs (fun _ h => h) h.1 h.2.2
end
def CommSmall (c : Commit) : Prop := c.votes.length ≤ 32 ∧ ∀ v ∈ c.votes, v.sign.length ≤ 65536
end Go.Proofs.YtlfelmikcdmkhaaGreatDoor
