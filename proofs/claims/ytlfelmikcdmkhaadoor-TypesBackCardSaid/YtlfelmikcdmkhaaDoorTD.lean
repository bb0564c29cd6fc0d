/- types: things of bytes. -/
import Derived.Test.YtlfelmikcdmkhaaDoorK9
set_option linter.unusedVariables false
set_option linter.unusedSimpArgs false
set_option linter.unusedSectionVars false
namespace Go.Proofs.YtlfelmikcdmkhaaDoor
open Go Go.Isk Go.RowKit
theorem lit_vote {a b c e : Int} {h : Bytes} {A : Option Addr} {n m : Nat} {w : World} {k : Value → World → Prop} (hh : h.length = 32)
    (hk : k (.agg (voteC (.int .i64 a) (.int .i64 b) (.int .i64 c) (u8s h) (.int .i64 e) (.slice A n m)).toArray) w) :
    o1 Tryd.prog (Instr.build T.api_Vote #[(0, .int .i64 a), (1, .int .i64 b), (2, .int .i64 c), (3, .agg (u8s h).toArray), (4, .int .i64 e), (5, .slice A n m)]) w k := by
  have hl := u8s_len hh
  refine st_lit (ss := [1, 1, 1, 32, 1, 1]) (n := 37) [.int .i64 a, .int .i64 b, .int .i64 c, .agg (u8s h).toArray, .int .i64 e, .slice A n m] rfl (by simp [Value.cells, hl]) (by kernel_rfl) fun zs hz _ => ?_
  rw [show List.sum [1, 1, 1, 32, 1, 1] = 37 from rfl, List.drop_of_length_le (by omega)]
  simpa [Value.cells, voteC] using hk
theorem lit_commit {a b : Int} {h : Bytes} {w : World} {k : Value → World → Prop} (hh : h.length = 32)
    (hk : k (.agg (commC (.int .i64 a) (.int .i64 b) (u8s h) (.slice none 0 0)).toArray) w) :
    o1 Tryd.prog (Instr.build T.api_Commit #[(0, .int .i64 a), (1, .int .i64 b), (2, .agg (u8s h).toArray)]) w k := by
  have hl := u8s_len hh
  refine st_lit (ss := [1, 1, 32]) (n := 35) [.int .i64 a, .int .i64 b, .agg (u8s h).toArray] rfl (by simp [Value.cells, hl]) (by kernel_rfl) fun zs hz hzz => ?_
  rw [zeroT_eq hzz zeroCommit, show List.sum [1, 1, 32] = 34 from rfl, commC_d3 (by simp [u8s, zero32])]
  simpa [Value.cells, commC] using hk
theorem lit_header {a : Bytes} {b c i : Int} {d e f g h : Bytes} {w : World} {k : Value → World → Prop} (hd : d.length = 32) (he : e.length = 32) (hf : f.length = 32) (hg : g.length = 32) (hh : h.length = 32)
    (hk : k (.agg (headC (str a) (.int .i64 b) (.int .i64 c) (u8s d) (u8s e) (u8s f) (u8s g) (u8s h) (.int .i64 i)).toArray) w) :
    o1 Tryd.prog (Instr.build T.api_Header #[(0, str a), (1, .int .i64 b), (2, .int .i64 c), (3, .agg (u8s d).toArray), (4, .agg (u8s e).toArray), (5, .agg (u8s f).toArray), (6, .agg (u8s g).toArray), (7, .agg (u8s h).toArray), (8, .int .i64 i)]) w k := by
  refine st_lit (ss := [1, 1, 1, 32, 32, 32, 32, 32, 1]) (n := 164) [str a, .int .i64 b, .int .i64 c, .agg (u8s d).toArray, .agg (u8s e).toArray, .agg (u8s f).toArray, .agg (u8s g).toArray, .agg (u8s h).toArray, .int .i64 i] rfl (by simp [Value.cells, str, u8s_length, hd, he, hf, hg, hh]) (by kernel_rfl) fun zs hz _ => ?_
  rw [show List.sum [1, 1, 1, 32, 32, 32, 32, 32, 1] = 164 from rfl, List.drop_of_length_le (by omega)]
  simpa [Value.cells, headC, str] using hk
def zcC : List Value := commC (.int .i64 0) (.int .i64 0) (u8s zero32) (.slice none 0 0)
theorem zcC_len : zcC.length = 35 := by simp [zcC, commC, u8s, zero32]
theorem zcC_one : ∀ u ∈ zcC, u.oneCell' = true := commC_one rfl rfl (u8s_one _) rfl
theorem zBlock : zeroT Tryd.prog T.api_Block (blokC (headC (str []) (.int .i64 0) (.int .i64 0) (u8s zero32) (u8s zero32) (u8s zero32) (u8s zero32) (u8s zero32) (.int .i64 0)) (.slice none 0 0) zcC) := zeroT_of (by kernel_rfl)
theorem lit_block {hc : List Value} {w : World} {k : Value → World → Prop} (hh : hc.length = 164) (hk : k (.agg (blokC hc (.slice none 0 0) zcC).toArray) w) :
    o1 Tryd.prog (Instr.build T.api_Block #[(0, .agg hc.toArray)]) w k := by
  refine st_lit (ss := [164]) (n := 200) [.agg hc.toArray] rfl (by simp [Value.cells, hh]) (by kernel_rfl) fun zs hz hzz => ?_
  rw [zeroT_eq hzz zBlock, show List.sum [164] = 164 from rfl, blokC_d1 (by simp [headC, u8s, zero32, str])]
  simpa [Value.cells, blokC] using hk
theorem commC_set3 {a0 a1 a3 v : Value} {a2 : List Value} (h2 : a2.length = 32) : (commC a0 a1 a2 a3).set (0 + 34) v = commC a0 a1 a2 v := by simp [commC, List.set_append, h2]
theorem blokC_set1 {a1 v : Value} {a0 a2 : List Value} (h0 : a0.length = 164) (h2 : a2.length = 35) : (blokC a0 a1 a2).set (0 + 164) v = blokC a0 v a2 := by simp [blokC, List.set_append, h0]
theorem gBlock_1 {s : Rdr} : (gBlock s).1 = (gCommit (gList (rB 65536) (rC 64 (gHeader s).1).2 (rC 64 (gHeader s).1).1).1).1 := by simp only [gBlock]
section
variable {b : Base} {w : World} {L R : List It} {g : Nat} {s : Rdr}
theorem types_getVote (hs : Sep b w L) (hm : Has L (rdI g s) R) : C Tryd.prog N.types_getVote #[.pointer (some ⟨g, 0, none⟩)] w fun r w' => ∃ cs, r = .agg cs.toArray ∧ Sep b w' ((voteF cs (gVote s).2).it :: rdI g (gVote s).1 :: R) := by
  replace hs := hs.perm hm.perm
  refine C.types_getVote ?_
  unfold F.types_getVote
  refine sp_newr hs (by kernel_rfl) fun g2 w hs => mv.mk ?_
  refine cl (sp_rInt hs (by first | ((repeat (first | with_reducible exact Has.hd | with_reducible apply Has.tl)); done) | (repeat (first | exact Has.hd | with_reducible apply Has.tl)))) ?_; rintro _ w ⟨rfl, hs⟩; repeat with_reducible refine mv.mk ?_
  refine cl (sp_rInt hs (by first | ((repeat (first | with_reducible exact Has.hd | with_reducible apply Has.tl)); done) | (repeat (first | exact Has.hd | with_reducible apply Has.tl)))) ?_; rintro _ w ⟨rfl, hs⟩; repeat with_reducible refine mv.mk ?_
  refine cl (sp_rInt hs (by first | ((repeat (first | with_reducible exact Has.hd | with_reducible apply Has.tl)); done) | (repeat (first | exact Has.hd | with_reducible apply Has.tl)))) ?_; rintro _ w ⟨rfl, hs⟩; repeat with_reducible refine mv.mk ?_
  refine cl (sp_rHash hs (by first | ((repeat (first | with_reducible exact Has.hd | with_reducible apply Has.tl)); done) | (repeat (first | exact Has.hd | with_reducible apply Has.tl)))) ?_; rintro _ w ⟨rfl, hs⟩; repeat with_reducible refine mv.mk ?_
  refine cl (sp_rInt hs (by first | ((repeat (first | with_reducible exact Has.hd | with_reducible apply Has.tl)); done) | (repeat (first | exact Has.hd | with_reducible apply Has.tl)))) ?_; rintro _ w ⟨rfl, hs⟩; repeat with_reducible refine mv.mk ?_
  refine cl (sp_rBytes hs (by first | ((repeat (first | with_reducible exact Has.hd | with_reducible apply Has.tl)); done) | (repeat (first | exact Has.hd | with_reducible apply Has.tl))) (most := 65536) (by decide)) ?_; rintro r w hs
  have hb := hs.get (by repeat (first | with_reducible exact Ins.hd | with_reducible apply Ins.tl))
  obtain ⟨A, c, rfl, _⟩ := id hb.1
  refine lit_vote rH_len ?_
  replace hs := hs.fact (f := voteF _ (gVote s).2) ⟨_, rfl, gVote_ok, hb⟩
  have hc := hs.ok voteF_ok (by repeat (first | with_reducible exact Ins.hd | with_reducible apply Ins.tl))
  refine sp_ret hs (by first | ((repeat (first | with_reducible exact Has.hd | with_reducible apply Has.tl)); done) | (repeat (first | exact Has.hd | with_reducible apply Has.tl))) (by kernel_rfl) hc.1 hc.2 fun w hs => ⟨_, rfl, hs.sbl (by repeat (first | with_reducible exact Sbl.all | with_reducible exact Sbl.nil | refine Sbl.cons (by first | ((repeat (first | with_reducible exact Has.hd | with_reducible apply Has.tl)); done) | (repeat (first | exact Has.hd | with_reducible apply Has.tl))) ?_ | refine Sbl.drop ?_))⟩
theorem types_getCommit (hs : Sep b w L) (hm : Has L (rdI g s) R) : C Tryd.prog N.types_getCommit #[.pointer (some ⟨g, 0, none⟩)] w fun r w' => ∃ cs, r = .agg cs.toArray ∧ Sep b w' ((commF cs (gCommit s).2).it :: rdI g (gCommit s).1 :: R) := by
  replace hs := hs.perm hm.perm
  refine C.types_getCommit ?_
  unfold F.types_getCommit
  refine sp_newr hs (by kernel_rfl) fun g2 w hs => mv.mk ?_
  refine cl (sp_rInt hs (by first | ((repeat (first | with_reducible exact Has.hd | with_reducible apply Has.tl)); done) | (repeat (first | exact Has.hd | with_reducible apply Has.tl)))) ?_; rintro _ w ⟨rfl, hs⟩; repeat with_reducible refine mv.mk ?_
  refine cl (sp_rInt hs (by first | ((repeat (first | with_reducible exact Has.hd | with_reducible apply Has.tl)); done) | (repeat (first | exact Has.hd | with_reducible apply Has.tl)))) ?_; rintro _ w ⟨rfl, hs⟩; repeat with_reducible refine mv.mk ?_
  refine cl (sp_rHash hs (by first | ((repeat (first | with_reducible exact Has.hd | with_reducible apply Has.tl)); done) | (repeat (first | exact Has.hd | with_reducible apply Has.tl)))) ?_; rintro _ w ⟨rfl, hs⟩
  refine lit_commit rH_len ?_
  have hlen := u8s_len (rH_len (s := (rI (rI s).1).1))
  refine sp_var hs (by kernel_rfl) (by kernel_rfl) (commC_len hlen) (commC_one rfl rfl (u8s_one _) rfl) fun g3 w hs => mv.mk ?_
  refine cl (sp_rCount hs (by first | ((repeat (first | with_reducible exact Has.hd | with_reducible apply Has.tl)); done) | (repeat (first | exact Has.hd | with_reducible apply Has.tl))) (most := 32) (by decide)) ?_; rintro _ w ⟨rfl, hs⟩; repeat with_reducible refine mv.mk ?_
  have hmst := rC_most (most := 32) (s := (rH (rI (rI s).1).1).1)
  replace hs := hs.grow0 voteF T.api_Vote 37
  generalize hsd : rC 32 (rH (rI (rI s).1).1).1 = d at *
  refine lp_by (fun vs w' => ∃ (i : Nat) (sv : Value), vs = [.int .i64 i] ∧ i ≤ d.2 ∧ Sep b w' (rdI g (gList gVote i d.1).1 :: blkI g3 T.api_Commit (commC (.int .i64 (rI s).2) (.int .i64 (rI (rI s).1).2) (u8s (rH (rI (rI s).1).1).2) sv) :: growI voteF T.api_Vote 37 sv (gList gVote i d.1).2 :: resI Tryd.prog g2 T.api_Commit :: R))
    (fun vs _ => match vs with | [.int _ m] => d.2 - m.toNat | _ => 0) ⟨0, _, rfl, Nat.zero_le _, hs.sbl (by repeat (first | with_reducible exact Sbl.all | with_reducible exact Sbl.nil | refine Sbl.cons (by first | ((repeat (first | with_reducible exact Has.hd | with_reducible apply Has.tl)); done) | (repeat (first | exact Has.hd | with_reducible apply Has.tl))) ?_ | refine Sbl.drop ?_))⟩ ?_
  rintro x w ⟨i, sv, hx, hi, hs⟩
  simp only [List.cons.injEq, and_true] at hx
  rw [hx]
  repeat (first
    | (refine st1 fun k' hk => ?_; simp [go_sem, thenR_ok, bin]; refine hk _ _ ?_; clear hk k')
    | (with_reducible refine mv.mk ?_) | (with_reducible refine nk_p ?_) | (with_reducible refine gd_u ?_) | (with_reducible refine gd_ft ?_) | (with_reducible refine gd_tf ?_) | (with_reducible refine gd_i ?_) | (with_reducible refine pk_t ?_) | (with_reducible refine pk_f ?_) | (with_reducible refine br_t ?_) | (with_reducible refine br_f ?_))
  refine br_split (fun hb => ?_) (fun hb => ?_)
  · have hi' : i < d.2 := by have := of_decide_eq_true hb; omega
    refine dr_can (R := [blkI g3 T.api_Commit (commC (.int .i64 (rI s).2) (.int .i64 (rI (rI s).1).2) (u8s (rH (rI (rI s).1).1).2) sv)]) hs.drew (by repeat (first | with_reducible exact Sbl.all | with_reducible exact Sbl.nil | refine Sbl.cons (by first | ((repeat (first | with_reducible exact Has.hd | with_reducible apply Has.tl)); done) | (repeat (first | exact Has.hd | with_reducible apply Has.tl))) ?_ | refine Sbl.drop ?_)) ?_
    refine comm.k3 hid (by repeat (first | with_reducible exact Rng.blk | with_reducible exact Rng.rng | with_reducible apply Rng.tl)) hlen (mv.mk ?_)
    refine cl (types_getVote hs.drew (by first | ((repeat (first | with_reducible exact Has.hd | with_reducible apply Has.tl)); done) | (repeat (first | exact Has.hd | with_reducible apply Has.tl)))) ?_; rintro _ w ⟨cs, rfl, hs⟩
    refine ⟨hs.mayr (by repeat (first | with_reducible exact Sbl.all | with_reducible exact Sbl.nil | refine Sbl.cons (by first | ((repeat (first | with_reducible exact Has.hd | with_reducible apply Has.tl)); done) | (repeat (first | exact Has.hd | with_reducible apply Has.tl))) ?_ | refine Sbl.drop ?_)), ?_⟩
    have hc := hs.ok voteF_ok (by repeat (first | with_reducible exact Ins.hd | with_reducible apply Ins.tl))
    refine sp_lita hs tVotes hc.1 (by decide) fun v w hs => ⟨hs.mayr (by repeat (first | with_reducible exact Sbl.all | with_reducible exact Sbl.nil | refine Sbl.cons (by first | ((repeat (first | with_reducible exact Has.hd | with_reducible apply Has.tl)); done) | (repeat (first | exact Has.hd | with_reducible apply Has.tl))) ?_ | refine Sbl.drop ?_)), ?_⟩
    have hll := gList_len gVote i d.1
    refine sp_push hs (by first | ((repeat (first | with_reducible exact Has.hd | with_reducible apply Has.tl)); done) | (repeat (first | exact Has.hd | with_reducible apply Has.tl))) tVotes (by repeat (first | with_reducible exact Rds.sl | with_reducible exact Rds.byt | with_reducible exact Rds.row | with_reducible apply Rds.tl)) (by repeat (first | with_reducible exact Ins.hd | with_reducible apply Ins.tl)) hc.2 (by rw [hll]; omega) (by rw [hll]; omega) fun v w hs => ⟨hs.mayr (by repeat (first | with_reducible exact Sbl.all | with_reducible exact Sbl.nil | refine Sbl.cons (by first | ((repeat (first | with_reducible exact Has.hd | with_reducible apply Has.tl)); done) | (repeat (first | exact Has.hd | with_reducible apply Has.tl))) ?_ | refine Sbl.drop ?_)), ?_⟩
    refine tk_of _ (fun w _ => fieldAt_run (off := 34) (by kernel_rfl) _ _ _) ?_
    refine sp_store1 hs (by first | ((repeat (first | with_reducible exact Has.hd | with_reducible apply Has.tl)); done) | (repeat (first | exact Has.hd | with_reducible apply Has.tl))) (by kernel_rfl) (hs.gcells (by first | ((repeat (first | with_reducible exact Has.hd | with_reducible apply Has.tl)); done) | (repeat (first | exact Has.hd | with_reducible apply Has.tl)))) (by rw [commC_len hlen]; decide) fun w hs => ?_
    rw [commC_set3 hlen] at hs
    refine st1 fun k' hk => ?_; simp [go_sem, thenR_ok, bin]; refine hk _ _ ?_; clear hk k'
    rw [i64_succ (by omega)]
    refine mv.mk ⟨⟨i + 1, _, rfl, hi', hs.sbl (by repeat (first | with_reducible exact Sbl.all | with_reducible exact Sbl.nil | refine Sbl.cons (by first | ((repeat (first | with_reducible exact Has.hd | with_reducible apply Has.tl)); done) | (repeat (first | exact Has.hd | with_reducible apply Has.tl))) ?_ | refine Sbl.drop ?_))⟩, by simp; omega⟩
  · obtain rfl : i = d.2 := by have := of_decide_eq_false hb; omega
    subst hsd
    refine sp_loadall hs (by first | ((repeat (first | with_reducible exact Has.hd | with_reducible apply Has.tl)); done) | (repeat (first | exact Has.hd | with_reducible apply Has.tl))) (by kernel_rfl) (commC_len hlen) ?_
    replace hs := hs.growF (by first | ((repeat (first | with_reducible exact Has.hd | with_reducible apply Has.tl)); done) | (repeat (first | exact Has.hd | with_reducible apply Has.tl)))
    replace hs := hs.fact (f := commF _ (gCommit s).2) ⟨sv, rfl, gCommit_ok, hs.get (by repeat (first | with_reducible exact Ins.hd | with_reducible apply Ins.tl))⟩
    have hc := hs.ok commF_ok (by repeat (first | with_reducible exact Ins.hd | with_reducible apply Ins.tl))
    exact sp_ret hs (by first | ((repeat (first | with_reducible exact Has.hd | with_reducible apply Has.tl)); done) | (repeat (first | exact Has.hd | with_reducible apply Has.tl))) (by kernel_rfl) hc.1 hc.2 fun w hs => ⟨_, rfl, hs.sbl (by repeat (first | with_reducible exact Sbl.all | with_reducible exact Sbl.nil | refine Sbl.cons (by first | ((repeat (first | with_reducible exact Has.hd | with_reducible apply Has.tl)); done) | (repeat (first | exact Has.hd | with_reducible apply Has.tl))) ?_ | refine Sbl.drop ?_))⟩
theorem types_getHeader (hs : Sep b w L) (hm : Has L (rdI g s) R) : C Tryd.prog N.types_getHeader #[.pointer (some ⟨g, 0, none⟩)] w fun r w' => ∃ cs, r = .agg cs.toArray ∧ Sep b w' ((headF cs (gHeader s).2).it :: rdI g (gHeader s).1 :: R) := by
  replace hs := hs.perm hm.perm
  refine C.types_getHeader ?_
  unfold F.types_getHeader
  refine sp_newr hs (by kernel_rfl) fun g2 w hs => mv.mk ?_
  refine cl (sp_rText hs (by first | ((repeat (first | with_reducible exact Has.hd | with_reducible apply Has.tl)); done) | (repeat (first | exact Has.hd | with_reducible apply Has.tl))) (most := 64) (by decide)) ?_; rintro _ w ⟨rfl, hs⟩; repeat with_reducible refine mv.mk ?_
  refine cl (sp_rInt hs (by first | ((repeat (first | with_reducible exact Has.hd | with_reducible apply Has.tl)); done) | (repeat (first | exact Has.hd | with_reducible apply Has.tl)))) ?_; rintro _ w ⟨rfl, hs⟩; repeat with_reducible refine mv.mk ?_
  refine cl (sp_rInt hs (by first | ((repeat (first | with_reducible exact Has.hd | with_reducible apply Has.tl)); done) | (repeat (first | exact Has.hd | with_reducible apply Has.tl)))) ?_; rintro _ w ⟨rfl, hs⟩; repeat with_reducible refine mv.mk ?_
  refine cl (sp_rHash hs (by first | ((repeat (first | with_reducible exact Has.hd | with_reducible apply Has.tl)); done) | (repeat (first | exact Has.hd | with_reducible apply Has.tl)))) ?_; rintro _ w ⟨rfl, hs⟩; repeat with_reducible refine mv.mk ?_
  refine cl (sp_rHash hs (by first | ((repeat (first | with_reducible exact Has.hd | with_reducible apply Has.tl)); done) | (repeat (first | exact Has.hd | with_reducible apply Has.tl)))) ?_; rintro _ w ⟨rfl, hs⟩; repeat with_reducible refine mv.mk ?_
  refine cl (sp_rHash hs (by first | ((repeat (first | with_reducible exact Has.hd | with_reducible apply Has.tl)); done) | (repeat (first | exact Has.hd | with_reducible apply Has.tl)))) ?_; rintro _ w ⟨rfl, hs⟩; repeat with_reducible refine mv.mk ?_
  refine cl (sp_rHash hs (by first | ((repeat (first | with_reducible exact Has.hd | with_reducible apply Has.tl)); done) | (repeat (first | exact Has.hd | with_reducible apply Has.tl)))) ?_; rintro _ w ⟨rfl, hs⟩; repeat with_reducible refine mv.mk ?_
  refine cl (sp_rHash hs (by first | ((repeat (first | with_reducible exact Has.hd | with_reducible apply Has.tl)); done) | (repeat (first | exact Has.hd | with_reducible apply Has.tl)))) ?_; rintro _ w ⟨rfl, hs⟩; repeat with_reducible refine mv.mk ?_
  refine cl (sp_rInt hs (by first | ((repeat (first | with_reducible exact Has.hd | with_reducible apply Has.tl)); done) | (repeat (first | exact Has.hd | with_reducible apply Has.tl)))) ?_; rintro _ w ⟨rfl, hs⟩; repeat with_reducible refine mv.mk ?_
  refine lit_header rH_len rH_len rH_len rH_len rH_len ?_
  replace hs := hs.fact (f := headF _ (gHeader s).2) ⟨rfl, gHeader_ok⟩
  have hc := hs.ok headF_ok (by repeat (first | with_reducible exact Ins.hd | with_reducible apply Ins.tl))
  exact sp_ret hs (by first | ((repeat (first | with_reducible exact Has.hd | with_reducible apply Has.tl)); done) | (repeat (first | exact Has.hd | with_reducible apply Has.tl))) (by kernel_rfl) hc.1 hc.2 fun w hs => ⟨_, rfl, hs.sbl (by repeat (first | with_reducible exact Sbl.all | with_reducible exact Sbl.nil | refine Sbl.cons (by first | ((repeat (first | with_reducible exact Has.hd | with_reducible apply Has.tl)); done) | (repeat (first | exact Has.hd | with_reducible apply Has.tl))) ?_ | refine Sbl.drop ?_))⟩
theorem types_getBlock (hs : Sep b w L) (hm : Has L (rdI g s) R) : C Tryd.prog N.types_getBlock #[.pointer (some ⟨g, 0, none⟩)] w fun r w' => ∃ cs, r = .agg cs.toArray ∧ Sep b w' ((blokF cs (gBlock s).2).it :: rdI g (gBlock s).1 :: R) := by
  replace hs := hs.perm hm.perm
  refine C.types_getBlock ?_
  unfold F.types_getBlock
  refine sp_newr hs (by kernel_rfl) fun g2 w hs => mv.mk ?_
  refine cl (types_getHeader hs (by first | ((repeat (first | with_reducible exact Has.hd | with_reducible apply Has.tl)); done) | (repeat (first | exact Has.hd | with_reducible apply Has.tl)))) ?_; rintro _ w ⟨hc, rfl, hs⟩
  have hh := hs.ok headF_ok (by repeat (first | with_reducible exact Ins.hd | with_reducible apply Ins.tl))
  have hhd : HeadIs hc _ := hs.get (I := (headF hc (gHeader s).2).it) (by repeat (first | with_reducible exact Ins.hd | with_reducible apply Ins.tl))
  refine lit_block hh.1 ?_
  refine sp_var hs (by kernel_rfl) (by kernel_rfl) (blokC_len hh.1 zcC_len) (blokC_one hh.2 rfl zcC_one) fun g3 w hs => mv.mk ?_
  refine cl (sp_rCount hs (by first | ((repeat (first | with_reducible exact Has.hd | with_reducible apply Has.tl)); done) | (repeat (first | exact Has.hd | with_reducible apply Has.tl))) (most := 64) (by decide)) ?_; rintro _ w ⟨rfl, hs⟩; repeat with_reducible refine mv.mk ?_
  have hmst := rC_most (most := 64) (s := (gHeader s).1)
  replace hs := hs.grow0 bytesF T.sl_uint8 1
  generalize hsd : rC 64 (gHeader s).1 = d at *
  refine lp_by (fun vs w' => ∃ (i : Nat) (sv : Value), vs = [.int .i64 i] ∧ i ≤ d.2 ∧ Sep b w' (rdI g (gList (rB 65536) i d.1).1 :: blkI g3 T.api_Block (blokC hc sv zcC) :: growI bytesF T.sl_uint8 1 sv (gList (rB 65536) i d.1).2 :: resI Tryd.prog g2 T.api_Block :: R))
    (fun vs _ => match vs with | [.int _ m] => d.2 - m.toNat | _ => 0) ⟨0, _, rfl, Nat.zero_le _, hs.sbl (by repeat (first | with_reducible exact Sbl.all | with_reducible exact Sbl.nil | refine Sbl.cons (by first | ((repeat (first | with_reducible exact Has.hd | with_reducible apply Has.tl)); done) | (repeat (first | exact Has.hd | with_reducible apply Has.tl))) ?_ | refine Sbl.drop ?_))⟩ ?_
  rintro x w ⟨i, sv, hx, hi, hs⟩
  simp only [List.cons.injEq, and_true] at hx
  rw [hx]
  repeat (first
    | (refine st1 fun k' hk => ?_; simp [go_sem, thenR_ok, bin]; refine hk _ _ ?_; clear hk k')
    | (with_reducible refine mv.mk ?_) | (with_reducible refine nk_p ?_) | (with_reducible refine gd_u ?_) | (with_reducible refine gd_ft ?_) | (with_reducible refine gd_tf ?_) | (with_reducible refine gd_i ?_) | (with_reducible refine pk_t ?_) | (with_reducible refine pk_f ?_) | (with_reducible refine br_t ?_) | (with_reducible refine br_f ?_))
  refine br_split (fun hb => ?_) (fun hb => ?_)
  · have hi' : i < d.2 := by have := of_decide_eq_true hb; omega
    refine dr_can (R := [blkI g3 T.api_Block (blokC hc sv zcC)]) hs.drew (by repeat (first | with_reducible exact Sbl.all | with_reducible exact Sbl.nil | refine Sbl.cons (by first | ((repeat (first | with_reducible exact Has.hd | with_reducible apply Has.tl)); done) | (repeat (first | exact Has.hd | with_reducible apply Has.tl))) ?_ | refine Sbl.drop ?_)) ?_
    refine blok.k1 hid (by repeat (first | with_reducible exact Rng.blk | with_reducible exact Rng.rng | with_reducible apply Rng.tl)) hh.1 (mv.mk ?_)
    refine cl (sp_rBytes hs.drew (by first | ((repeat (first | with_reducible exact Has.hd | with_reducible apply Has.tl)); done) | (repeat (first | exact Has.hd | with_reducible apply Has.tl))) (most := 65536) (by decide)) ?_
    rintro r w hs
    refine ⟨hs.mayr (by repeat (first | with_reducible exact Sbl.all | with_reducible exact Sbl.nil | refine Sbl.cons (by first | ((repeat (first | with_reducible exact Has.hd | with_reducible apply Has.tl)); done) | (repeat (first | exact Has.hd | with_reducible apply Has.tl))) ?_ | refine Sbl.drop ?_)), ?_⟩
    have hb := hs.get (I := (byF r _).it) (by repeat (first | with_reducible exact Ins.hd | with_reducible apply Ins.tl))
    replace hs := hs.bytes (v := r) (by repeat (first | with_reducible exact Ins.hd | with_reducible apply Ins.tl))
    refine sp_litv hs tTxs (sl_cells hb.1).1 fun v w hs => ⟨hs.mayr (by repeat (first | with_reducible exact Sbl.all | with_reducible exact Sbl.nil | refine Sbl.cons (by first | ((repeat (first | with_reducible exact Has.hd | with_reducible apply Has.tl)); done) | (repeat (first | exact Has.hd | with_reducible apply Has.tl))) ?_ | refine Sbl.drop ?_)), ?_⟩
    have hll := gList_len (rB 65536) i d.1
    refine sp_push (ys := [r]) hs (by first | ((repeat (first | with_reducible exact Has.hd | with_reducible apply Has.tl)); done) | (repeat (first | exact Has.hd | with_reducible apply Has.tl))) tTxs (by repeat (first | with_reducible exact Rds.sl | with_reducible exact Rds.byt | with_reducible exact Rds.row | with_reducible apply Rds.tl)) (by repeat (first | with_reducible exact Ins.hd | with_reducible apply Ins.tl)) (by simpa using (sl_cells hb.1).2) (by rw [hll]; omega) (by rw [hll]; omega) fun v w hs => ⟨hs.mayr (by repeat (first | with_reducible exact Sbl.all | with_reducible exact Sbl.nil | refine Sbl.cons (by first | ((repeat (first | with_reducible exact Has.hd | with_reducible apply Has.tl)); done) | (repeat (first | exact Has.hd | with_reducible apply Has.tl))) ?_ | refine Sbl.drop ?_)), ?_⟩
    refine tk_of _ (fun w _ => fieldAt_run (off := 164) (by kernel_rfl) _ _ _) ?_
    refine sp_store1 hs (by first | ((repeat (first | with_reducible exact Has.hd | with_reducible apply Has.tl)); done) | (repeat (first | exact Has.hd | with_reducible apply Has.tl))) (by kernel_rfl) (hs.gcells (by first | ((repeat (first | with_reducible exact Has.hd | with_reducible apply Has.tl)); done) | (repeat (first | exact Has.hd | with_reducible apply Has.tl)))) (by rw [blokC_len hh.1 zcC_len]; decide) fun w hs => ?_
    rw [blokC_set1 hh.1 zcC_len] at hs
    refine st1 fun k' hk => ?_; simp [go_sem, thenR_ok, bin]; refine hk _ _ ?_; clear hk k'
    rw [i64_succ (by omega)]
    refine mv.mk ⟨⟨i + 1, _, rfl, hi', hs.sbl (by repeat (first | with_reducible exact Sbl.all | with_reducible exact Sbl.nil | refine Sbl.cons (by first | ((repeat (first | with_reducible exact Has.hd | with_reducible apply Has.tl)); done) | (repeat (first | exact Has.hd | with_reducible apply Has.tl))) ?_ | refine Sbl.drop ?_))⟩, by simp; omega⟩
  · obtain rfl : i = d.2 := by have := of_decide_eq_false hb; omega
    subst hsd
    repeat with_reducible refine mv.mk ?_
    refine cl (types_getCommit hs (by first | ((repeat (first | with_reducible exact Has.hd | with_reducible apply Has.tl)); done) | (repeat (first | exact Has.hd | with_reducible apply Has.tl)))) ?_; rintro _ w ⟨cc, rfl, hs⟩
    have hcc := hs.ok commF_ok (by repeat (first | with_reducible exact Ins.hd | with_reducible apply Ins.tl))
    refine blok.s2 hs (by first | ((repeat (first | with_reducible exact Has.hd | with_reducible apply Has.tl)); done) | (repeat (first | exact Has.hd | with_reducible apply Has.tl))) hh.1 zcC_len hcc.1 hcc.2 fun w hs => ?_
    refine sp_loadall hs (by first | ((repeat (first | with_reducible exact Has.hd | with_reducible apply Has.tl)); done) | (repeat (first | exact Has.hd | with_reducible apply Has.tl))) (by kernel_rfl) (blokC_len hh.1 hcc.1) ?_
    replace hs := hs.growF (by first | ((repeat (first | with_reducible exact Has.hd | with_reducible apply Has.tl)); done) | (repeat (first | exact Has.hd | with_reducible apply Has.tl)))
    have h1 := hs.get (I := (listF bytesF 1 sv _).it) (by repeat (first | with_reducible exact Ins.hd | with_reducible apply Ins.tl))
    have h2 := hs.get (I := (commF cc _).it) (by repeat (first | with_reducible exact Ins.hd | with_reducible apply Ins.tl))
    have hf : BlokS _ _ _ (gBlock s).2 := ⟨hc, sv, cc, rfl, hhd, h1, h2⟩
    replace hs := hs.fact (f := blokF _ (gBlock s).2) hf
    have hc := hs.ok blokF_ok (by repeat (first | with_reducible exact Ins.hd | with_reducible apply Ins.tl))
    exact sp_ret hs (by first | ((repeat (first | with_reducible exact Has.hd | with_reducible apply Has.tl)); done) | (repeat (first | exact Has.hd | with_reducible apply Has.tl))) (by kernel_rfl) hc.1 hc.2 fun w hs => ⟨_, rfl, by rw [gBlock_1]; exact hs.sbl (by repeat (first | with_reducible exact Sbl.all | with_reducible exact Sbl.nil | refine Sbl.cons (by first | ((repeat (first | with_reducible exact Has.hd | with_reducible apply Has.tl)); done) | (repeat (first | exact Has.hd | with_reducible apply Has.tl))) ?_ | refine Sbl.drop ?_))⟩
end
end Go.Proofs.YtlfelmikcdmkhaaDoor
