/- Keys of the document: is a text signed so. -/
import Derived.Test.YtbbmgkbinnomgaaGreatDoorQ6
import Derived.Test.YtbbmgkbinnomgaaGreatDoorJ4
set_option linter.unusedVariables false
set_option linter.unusedSimpArgs false
set_option linter.unusedSectionVars false
namespace Go.Proofs.YtbbmgkbinnomgaaGreatDoor
open Go Go.Isk Go.RowKit
set_option maxRecDepth 20000
section
variable {b : Base} {w : World} {L R : List It} {g : Nat} {v sv tv : Value} {cs : List Value} {l text sign root : Bytes} {dg dp : Int}
theorem i_shlU (w : World) {x1 x2 : Operand} {i : Nat} (h : i ≤ 10) : (bin .shl T.int x1 x2 (.int .i64 1) (.int .u64 (i : Int))).run Tryz.prog w = .ok (.int .i64 ((2 ^ i : Nat) : Int)) w := by
  have : i = 0 ∨ i = 1 ∨ i = 2 ∨ i = 3 ∨ i = 4 ∨ i = 5 ∨ i = 6 ∨ i = 7 ∨ i = 8 ∨ i = 9 ∨ i = 10 := by omega
  rcases this with rfl | rfl | rfl | rfl | rfl | rfl | rfl | rfl | rfl | rfl | rfl <;> (simp [go_sem, bin, IntKind.bits]; try decide)
theorem isthmusref06_Verify (hs : Isk.Sep b w L) (ht : Ins L (byF tv text).it) (hm : Ins L (byF sv sign).it) (hl : sign.length ≤ 2147483648) (hl2 : text.length < 140737488354000) (hr : root.length = 32) :
    C Tryz.prog N.isthmusref06_Verify #[.agg (u8s root).toArray, .agg #[.int .i64 dg, .int .i64 dp], tv, sv] w fun r w' => r = .int .i64 (verifyK root dg dp text sign) ∧ Isk.Sep b w' L := by
  refine C.isthmusref06_Verify ?_
  unfold F.isthmusref06_Verify
  refine sp_boxa hs fun g4 w hs => ?_
  refine sp_box (cs := [.int .i64 dg, .int .i64 dp]) hs rfl fun g5 w hs => ?_
  repeat with_reducible refine mv.mk ?_
  refine sp_loadall hs .hd (by kernel_rfl) rfl ?_
  refine cl (isthmusref06_Check hs) ?_
  rintro _ w ⟨rfl, hs⟩
  refine st_of (n_neq _) ?_
  by_cases hc : kCheck dg dp = 0
  rotate_left
  · rw [decide_eq_false hc]
    refine br_t ?_
    repeat with_reducible refine mv.mk ?_
    have e20 : kCheck dg dp = 20 := by
      unfold kCheck at hc ⊢
      split at hc
      · rename_i h; rw [if_pos h]
      · exact absurd rfl hc
    rw [verifyK, if_pos hc, e20]
    exact ⟨rfl, hs.sbl (.drop (.drop .all))⟩
  rw [decide_eq_true hc]
  refine br_f ?_
  repeat with_reducible refine mv.mk ?_
  refine cl (isthmusref06_Parts hs (.tl (.tl hm)) hl) ?_
  rintro _ w ⟨cv, pv, rfl, hs⟩
  obtain ⟨A, c, hcv⟩ := bytesF_slice hs .hd
  obtain ⟨A2, c2, hpv⟩ := hs.lst_len (Ins.tl (Ins.hd)).lst
  have hone : ∀ u ∈ [Value.int .i64 ((readK sign).1.leaf : Int), cv, pv], u.oneCell' = true := by
    intro u hu
    simp only [List.mem_cons, List.not_mem_nil, or_false] at hu
    rcases hu with rfl | rfl | rfl
    · rfl
    · rw [hcv]; rfl
    · rw [hpv]; rfl
  repeat with_reducible refine mv.mk ?_
  refine st_of (v := .agg #[.int .i64 ((readK sign).1.leaf : Int), cv, pv]) (w' := w) (by simp [go_sem]) ?_
  refine st_of (v := .int .i64 (readK sign).2) (w' := w) (by simp [go_sem]) ?_
  refine sp_newr hs (by kernel_rfl) fun g9 w hs => ?_
  refine sp_setr (ds := [.int .i64 ((readK sign).1.leaf : Int), cv, pv]) hs .hd (by kernel_rfl) rfl hone fun w hs => ?_
  repeat with_reducible refine mv.mk ?_
  refine st_of (n_neq _) ?_
  by_cases hc2 : (readK sign).2 = 0
  rotate_left
  · rw [decide_eq_false hc2]
    refine br_t ?_
    repeat with_reducible refine mv.mk ?_
    rw [verifyK, if_neg (by simpa using hc), if_pos hc2]
    exact ⟨rfl, hs.sbl (.drop (.drop (.drop (.drop (.drop .all)))))⟩
  rw [decide_eq_true hc2]
  refine br_f ?_
  have hk : 1 ≤ dg ∧ dg ≤ 32 ∧ 0 ≤ dp ∧ dp ≤ 10 := by
    unfold kCheck at hc
    split at hc
    · cases hc
    · omega
  have hdg : digOk dg = true := by simp [digOk]; omega
  obtain ⟨dpn, rfl⟩ := Int.eq_ofNat_of_zero_le hk.2.2.1
  repeat with_reducible refine mv.mk ?_
  refine st_of (fieldAt_run (off := 0) (by kernel_rfl) _ _ _) ?_
  refine sp_load1 (p := 0) hs (t := T.api_Params) (by first | ((repeat (first | with_reducible exact Has.hd | with_reducible apply Has.tl)); done) | (repeat (first | exact Has.hd | with_reducible apply Has.tl))) (by kernel_rfl) rfl ?_
  refine cl (isthmusref05_Digest (n := dg) (v := tv) (l := text) hs (by repeat (first | exact ht | apply Ins.tl)) hl2) ?_
  rintro _ w ⟨dv, rfl, hs⟩
  rw [if_pos hdg] at hs
  rw [if_pos hdg]
  repeat with_reducible refine mv.mk ?_
  refine st_of (v := dv) (w' := w) (by simp [go_sem]) ?_
  refine st_of (v := .int .i64 0) (w' := w) (by simp [go_sem]) ?_
  repeat with_reducible refine mv.mk ?_
  refine st_of (fieldAt_run (off := 1) (by kernel_rfl) _ _ _) ?_
  refine sp_load1 (p := 1) hs (t := T.isthmusref06_Signature) (by first | ((repeat (first | with_reducible exact Has.hd | with_reducible apply Has.tl)); done) | (repeat (first | exact Has.hd | with_reducible apply Has.tl))) (by kernel_rfl) rfl ?_
  refine st_of (fieldAt_run (off := 0) (by kernel_rfl) _ _ _) ?_
  refine sp_load1 (p := 0) hs (t := T.isthmusref06_Signature) (by first | ((repeat (first | with_reducible exact Has.hd | with_reducible apply Has.tl)); done) | (repeat (first | exact Has.hd | with_reducible apply Has.tl))) (by kernel_rfl) rfl ?_
  repeat with_reducible refine mv.mk ?_
  refine cl (isthmusref05_From (sig := (readK sign).1.chain) (d := digestB text dg.toNat) (leaf := ((readK sign).1.leaf : Int)) hs (by repeat (first | with_reducible exact Ins.hd | with_reducible apply Ins.tl)) (by repeat (first | with_reducible exact Ins.hd | with_reducible apply Ins.tl))) ?_
  rintro _ w ⟨rfl, hs⟩
  have hfl := fromB_len (sign := (readK sign).1.chain) (leaf := (readK sign).1.leaf) (d := digestB text dg.toNat)
  generalize hf : fromB (readK sign).1.chain (readK sign).1.leaf (digestB text dg.toNat) = f at hs hfl ⊢
  repeat with_reducible refine mv.mk ?_
  refine st_of (v := .agg (u8s f.1).toArray) (w' := w) (by simp [go_sem]) ?_
  refine st_of (v := .int .i64 f.2) (w' := w) (by simp [go_sem]) ?_
  refine sp_newr hs (by kernel_rfl) fun g13 w hs => ?_
  refine sp_setr (ds := u8s f.1) hs .hd (by kernel_rfl) ((u8s_length _).trans hfl) (u8s_one _) fun w hs => ?_
  repeat with_reducible refine mv.mk ?_
  refine sp_loadall hs .hd (by kernel_rfl) ((u8s_length _).trans hfl) ?_
  refine st_of (fieldAt_run (off := 0) (by kernel_rfl) _ _ _) ?_
  refine sp_load1 (p := 0) hs (t := T.isthmusref06_Signature) (by first | ((repeat (first | with_reducible exact Has.hd | with_reducible apply Has.tl)); done) | (repeat (first | exact Has.hd | with_reducible apply Has.tl))) (by kernel_rfl) rfl ?_
  refine st_of (fieldAt_run (off := 1) (by kernel_rfl) _ _ _) ?_
  refine sp_load1 (p := 1) hs (t := T.api_Params) (by first | ((repeat (first | with_reducible exact Has.hd | with_reducible apply Has.tl)); done) | (repeat (first | exact Has.hd | with_reducible apply Has.tl))) (by kernel_rfl) rfl ?_
  refine st_of (n_u w (by kernel_rfl) (by kernel_rfl) (by omega)) ?_
  refine st_of (i_shlU w (by omega)) ?_
  refine st_of (fieldAt_run (off := 2) (by kernel_rfl) _ _ _) ?_
  refine sp_load1 (p := 2) hs (t := T.isthmusref06_Signature) (by first | ((repeat (first | with_reducible exact Has.hd | with_reducible apply Has.tl)); done) | (repeat (first | exact Has.hd | with_reducible apply Has.tl))) (by kernel_rfl) rfl ?_
  have hsm := readK_small (sign := sign)
  have hpw : 2 ^ dpn ≤ 2 ^ 10 := Nat.pow_le_pow_right (by decide) (by omega)
  refine cl (isthmusref01_Fold (sv := pv) (path := (readK sign).1.path) hs (by repeat (first | with_reducible exact Ins.hd | with_reducible apply Ins.tl)) hfl (by omega) (by omega) (by omega)) ?_
  rintro _ w ⟨rfl, hs⟩
  have hfo := foldB_len (l := f.1) (i := (readK sign).1.leaf) (n := 2 ^ dpn) (path := (readK sign).1.path) hfl
  generalize hF : foldB f.1 (readK sign).1.leaf (2 ^ dpn) (readK sign).1.path = q at hs hfo ⊢
  repeat with_reducible refine mv.mk ?_
  refine st_of (v := .agg (u8s q.1).toArray) (w' := w) (by simp [go_sem]) ?_
  refine st_of (v := .int .i64 q.2) (w' := w) (by simp [go_sem]) ?_
  refine sp_newr hs (by kernel_rfl) fun g15 w hs => ?_
  refine sp_setr (ds := u8s q.1) hs .hd (by kernel_rfl) ((u8s_length _).trans hfo) (u8s_one _) fun w hs => ?_
  repeat with_reducible refine mv.mk ?_
  refine st_of (n_neq _) ?_
  have ev : verifyK root dg (dpn : Int) text sign = if f.2 ≠ 0 then 21 else if q.2 ≠ 0 ∨ q.1 ≠ root then 21 else 0 := by
    unfold verifyK
    rw [if_neg (by simpa using hc), if_neg (by simpa using hc2)]
    simp only [hf, Int.toNat_natCast, hF]
  rw [ev]
  replace hs := hs.sbl (L' := blkI g15 T.api_Hash (u8s q.1) :: blkI g4 T.api_Hash (u8s root) :: L) (by repeat (first | with_reducible exact Sbl.all | with_reducible exact Sbl.nil | refine Sbl.cons (by first | ((repeat (first | with_reducible exact Has.hd | with_reducible apply Has.tl)); done) | (repeat (first | exact Has.hd | with_reducible apply Has.tl))) ?_ | refine Sbl.drop ?_))
  by_cases hf2 : f.2 = 0
  rotate_left
  · rw [decide_eq_false hf2]
    repeat (first
     | (with_reducible (first | refine st_nels ?_ | refine mv.mk ?_ | refine gd_u ?_ | refine gd_ft ?_ | refine gd_tf ?_ | refine gd_i ?_ | refine pk_t ?_ | refine pk_f ?_ | refine br_t ?_ | refine br_f ?_ | refine sp_boxa hs fun g w hs => ?_))
     | (with_reducible ((first | apply st_bin | apply st_ext | apply st_conv); intro k' hk; simp [go_sem, thenR_ok, bin]; refine hk _ _ ?_; clear hk k'))
     | ((with_reducible apply sp_newr hs); (· kernel_rfl); intro g w hs))
    rw [if_pos hf2]
    exact ⟨rfl, hs.sbl (.drop (.drop .all))⟩
  rw [decide_eq_true hf2, if_neg (by simpa using hf2)]
  repeat with_reducible refine mv.mk ?_
  refine gd_i ?_
  repeat with_reducible refine mv.mk ?_
  refine gd_i ?_
  refine st_of (n_neq _) ?_
  by_cases hF2 : q.2 = 0
  rotate_left
  · rw [decide_eq_false hF2]
    repeat (first
     | (with_reducible (first | refine st_nels ?_ | refine mv.mk ?_ | refine gd_u ?_ | refine gd_ft ?_ | refine gd_tf ?_ | refine gd_i ?_ | refine pk_t ?_ | refine pk_f ?_ | refine br_t ?_ | refine br_f ?_ | refine sp_boxa hs fun g w hs => ?_))
     | (with_reducible ((first | apply st_bin | apply st_ext | apply st_conv); intro k' hk; simp [go_sem, thenR_ok, bin]; refine hk _ _ ?_; clear hk k'))
     | ((with_reducible apply sp_newr hs); (· kernel_rfl); intro g w hs))
    rw [if_pos (.inl hF2)]
    exact ⟨rfl, hs.sbl (.drop (.drop .all))⟩
  rw [decide_eq_true hF2]
  refine pk_f ?_
  repeat with_reducible refine mv.mk ?_
  refine gd_i ?_
  refine sp_ldn hs (by repeat (first | with_reducible exact Rng.blk | with_reducible exact Rng.rng | with_reducible apply Rng.tl)) (by kernel_rfl) ((u8s_length _).trans hfo) ?_
  refine gd_i ?_
  refine sp_ldn hs (by repeat (first | with_reducible exact Rng.blk | with_reducible exact Rng.rng | with_reducible apply Rng.tl)) (by kernel_rfl) ((u8s_length _).trans hr) ?_
  refine gd_i ?_
  refine st_of (hash_ne hfo hr _ _ _) ?_
  refine pk_f ?_
  refine br_split (fun hq => ?_) (fun hq => ?_)
  · repeat with_reducible refine mv.mk ?_
    rw [if_pos (.inr (by simpa using hq))]
    exact ⟨rfl, hs.sbl (.drop (.drop .all))⟩
  · repeat with_reducible refine mv.mk ?_
    have hq' : q.1 = root := by simpa using hq
    rw [if_neg (by simp [hF2, hq'])]
    exact ⟨rfl, hs.sbl (.drop (.drop .all))⟩
end
end Go.Proofs.YtbbmgkbinnomgaaGreatDoor
set_option linter.unusedVariables false
set_option linter.unusedSimpArgs false
set_option linter.unusedSectionVars false
namespace Go.Proofs.YtbbmgkbinnomgaaGreatDoor
open Go Go.Isk Go.RowKit
set_option maxRecDepth 20000
section
variable {b : Base} {w : World} {L R : List It} {g n leaf chain to : Nat} {v : Value} {seed : Bytes} {dg dp : Int}
theorem isthmusref05_at (hs : Isk.Sep b w L) (hsd : seed.length = 32) (hl : leaf < 1024) (hc : chain < 1024) (ht : to ≤ 15) :
    C Tryz.prog N.isthmusref05_at #[.agg (u8s seed).toArray, .int .i64 (leaf : Int), .int .i64 (chain : Int), .int .i64 (to : Int)] w fun r w' => r = .agg (u8s (chainV seed leaf chain to)).toArray ∧ Isk.Sep b w' L := by
  have l1 := encU_two (n := leaf) (by omega)
  have l2 := encU_two (n := chain) (by omega)
  have hsl : (u8s seed).length = 32 := (u8s_length _).trans hsd
  refine C.isthmusref05_at ?_
  unfold F.isthmusref05_at
  refine sp_boxa hs fun g4 w hs => ?_
  refine sp_newr hs (by kernel_rfl) fun g8 w hs => ?_
  refine sp_row1 (c := 2) hs fun u w hs => ?_
  replace hs := hs.rowB .hd
  refine sp_ldn hs (.tl (.tl .blk)) (by kernel_rfl) hsl ?_
  refine cl (sp_HashW hs .hd hsd (by simp)) ?_
  rintro r1 w hs
  repeat with_reducible refine mv.mk ?_
  refine st_of (n_u w (by kernel_rfl) (by kernel_rfl) (by omega)) ?_
  refine cl (sp_Uint hs .hd (by omega) (by simp; omega)) ?_
  rintro r2 w hs
  repeat with_reducible refine mv.mk ?_
  refine st_of (n_u w (by kernel_rfl) (by kernel_rfl) (by omega)) ?_
  refine cl (sp_Uint hs .hd (by omega) (by simp; omega)) ?_
  rintro r3 w hs
  have he : [2] ++ seed ++ encU leaf ++ encU chain = 2 :: (seed ++ (encU leaf ++ encU chain)) := by simp
  rw [he] at hs
  repeat with_reducible refine mv.mk ?_
  refine cl (isthmusref01_Sum hs .hd (by simp; omega)) ?_
  rintro _ w ⟨rfl, hs⟩
  repeat with_reducible refine mv.mk ?_
  refine cl (isthmusref05_Step (x := firstB seed leaf chain) (f := 0) (to := to) hs (by unfold firstB; exact shaB_len _) hl hc (by decide) (by omega)) ?_
  rintro _ w ⟨rfl, hs⟩
  refine sp_ret hs (.tl (.tl (.tl (.tl .hd)))) (by kernel_rfl) ((u8s_length _).trans (chainV_len seed leaf chain to)) (u8s_one _) fun w hs => ?_
  exact ⟨rfl, hs.sbl (.drop (.drop (.drop (.drop (.drop .all)))))⟩
theorem isthmusref05_Public (hs : Isk.Sep b w L) (hsd : seed.length = 32) (hl : leaf < 1024) (h1 : 1 ≤ n) (h2 : n ≤ 32) :
    C Tryz.prog N.isthmusref05_Public #[.agg (u8s seed).toArray, .int .i64 (leaf : Int), .int .i64 (n : Int)] w fun r w' => r = .tuple #[.agg (u8s (publicB seed leaf n)).toArray, .int .i64 0] ∧ Isk.Sep b w' L := by
  have hok : digOk (n : Int) = true := by simp [digOk]; omega
  have hck : wCheck (leaf : Int) (n : Int) = 0 := by unfold wCheck; rw [if_pos ⟨by omega, by omega, hok⟩]
  have hsl : (u8s seed).length = 32 := (u8s_length _).trans hsd
  refine C.isthmusref05_Public ?_
  unfold F.isthmusref05_Public
  refine sp_boxa hs fun g3 w hs => ?_
  refine sp_newr hs (by kernel_rfl) fun g6 w hs => ?_
  repeat with_reducible refine mv.mk ?_
  refine cl isthmusref05_check ?_
  rintro _ _ ⟨rfl, rfl⟩
  rw [hck, decide_eq_true rfl]
  repeat (first
   | (with_reducible (first | refine mv.mk ?_ | refine br_t ?_ | refine br_f ?_ | refine sp_boxa hs fun g w hs => ?_))
   | (with_reducible ((first | apply st_bin | apply st_un); intro k' hk; simp [go_sem, thenR_ok, bin]; refine hk _ _ ?_; clear hk k'))
   | ((with_reducible apply sp_newr hs); (· kernel_rfl); intro g w hs))
  replace hs := hs.fact (f := byF (.slice none 0 0) (chainsB seed leaf (List.replicate (2 * n + 3) 15) 0)) (SlS.nil 1)
  refine lp_by (fun us w' => ∃ (i : Nat) (v : Value), us = [v, .int .i64 (i : Int)] ∧ i ≤ 2 * n + 3 ∧ Isk.Sep b w' ((byF v (chainsB seed leaf (List.replicate (2 * n + 3) 15) i)).it :: resI Tryz.prog g6 T.api_Hash :: blkI g3 T.api_Hash (u8s seed) :: L)) (fun us _ => match us with | [_, .int _ m] => 2 * n + 3 - m.toNat | _ => 0) ⟨0, _, rfl, Nat.zero_le _, hs⟩ ?_
  clear hs
  rintro x1 w ⟨i, v, hx1, hi, hs⟩
  simp only [List.cons.injEq, and_true] at hx1
  simp only [hx1.1, hx1.2]
  repeat with_reducible refine mv.mk ?_
  refine sn_mul (by omega) ?_
  refine sn_add (by omega) ?_
  repeat (first
   | (with_reducible (first | refine mv.mk ?_ | refine br_t ?_ | refine br_f ?_ | refine sp_boxa hs fun g w hs => ?_))
   | (with_reducible ((first | apply st_bin | apply st_un); intro k' hk; simp [go_sem, thenR_ok, bin]; refine hk _ _ ?_; clear hk k'))
   | ((with_reducible apply sp_newr hs); (· kernel_rfl); intro g w hs))
  refine br_split (fun hq => ?_) (fun hq => ?_)
  · have hin : i < 2 * n + 3 := by have := of_decide_eq_true hq; omega
    have hcl := chainsB_len (seed := seed) (leaf := leaf) (ps := List.replicate (2 * n + 3) 15) (i := i)
    have hst := chainsB_succ seed leaf (List.replicate (2 * n + 3) 15) i
    rw [getD_rep hin] at hst
    repeat with_reducible refine mv.mk ?_
    refine sp_ldn hs (.tl (.tl .blk)) (by kernel_rfl) hsl ?_
    repeat with_reducible refine mv.mk ?_
    refine cl (isthmusref05_at (to := 15) hs hsd hl (by omega) (Nat.le_refl _)) ?_
    rintro _ w ⟨rfl, hs⟩
    refine cl (sp_HashW hs .hd (chainV_len _ _ _ _) (by omega)) ?_
    rintro r w hs
    rw [← hst] at hs
    repeat (first
     | (with_reducible (first | refine mv.mk ?_ | refine br_t ?_ | refine br_f ?_ | refine sp_boxa hs fun g w hs => ?_))
     | (with_reducible ((first | apply st_bin | apply st_un); intro k' hk; simp [go_sem, thenR_ok, bin]; refine hk _ _ ?_; clear hk k'))
     | ((with_reducible apply sp_newr hs); (· kernel_rfl); intro g w hs))
    rw [i64_succ (by omega)]
    exact ⟨⟨i + 1, r, rfl, hin, hs.sbl (.cons .hd (.drop .all))⟩, by simp; omega⟩
  · obtain rfl : i = 2 * n + 3 := by have := of_decide_eq_false hq; omega
    repeat with_reducible refine mv.mk ?_
    refine cl (isthmusref01_Leaf hs .hd (by rw [chainsB_len]; omega)) ?_
    rintro _ w ⟨rfl, hs⟩
    have hpl : (u8s (publicB seed leaf n)).length = 32 := (u8s_length _).trans (shaB_len _)
    refine sp_setr (ds := u8s (publicB seed leaf n)) hs (.tl .hd) (by kernel_rfl) hpl (u8s_one _) fun w hs => mv.mk (sp_rc hs .hd (by kernel_rfl) hpl ?_)
    exact ⟨rfl, hs.sbl (.drop (.drop (.drop .all)))⟩
theorem isthmusref06_Leaves {k : Nat} (hs : Isk.Sep b w L) (hsd : seed.length = 32) (h1 : 1 ≤ n) (h2 : n ≤ 32) (hk : k ≤ 10) :
    C Tryz.prog N.isthmusref06_Leaves #[.agg (u8s seed).toArray, .agg #[.int .i64 (n : Int), .int .i64 (k : Int)]] w fun r w' => Isk.Sep b w' ((listF hshF 32 r (leavesB seed n (2 ^ k))).it :: L) := by
  have hsl : (u8s seed).length = 32 := (u8s_length _).trans hsd
  have hp : 2 ^ k ≤ 1024 := by
    have : 2 ^ k ≤ 2 ^ 10 := Nat.pow_le_pow_right (by decide) hk
    simpa using this
  have hsh := fun (w : World) (x1 x2 : Operand) => i_shlU (x1 := x1) (x2 := x2) w hk
  obtain ⟨K, hK⟩ : ∃ K, K = 2 ^ k := ⟨_, rfl⟩
  rw [← hK] at hp hsh ⊢
  refine C.isthmusref06_Leaves ?_
  unfold F.isthmusref06_Leaves
  refine sp_boxa hs fun g2 w hs => ?_
  refine sp_box (cs := paraC (.int .i64 (n : Int)) (.int .i64 (k : Int))) hs rfl fun g3 w hs => ?_
  replace hs := hs.grow0 hshF T.api_Hash 32
  repeat with_reducible refine mv.mk ?_
  refine lp_by (fun us w' => ∃ (i : Nat) (v y : Value), us = [v, .int .i64 (i : Int), y] ∧ i ≤ K ∧ Isk.Sep b w' (growI hshF T.api_Hash 32 v (leavesB seed n i) :: blkI g3 T.api_Params (paraC (.int .i64 (n : Int)) (.int .i64 (k : Int))) :: blkI g2 T.api_Hash (u8s seed) :: L)) (fun us _ => match us with | [_, .int _ m, _] => K - m.toNat | _ => 0) ⟨0, _, _, rfl, Nat.zero_le _, hs⟩ ?_
  clear hs
  rintro x1 w ⟨i, v, y, hx1, hi, hs⟩
  simp only [List.cons.injEq, and_true] at hx1
  simp only [hx1.1, hx1.2.1, hx1.2.2]
  have hll := leavesB_len seed n i
  repeat with_reducible refine mv.mk ?_
  refine para.l1 hs (.tl .blk) ?_
  refine st_of (n_u w (by kernel_rfl) (by kernel_rfl) (by omega)) ?_
  refine st_of (hsh w _ _) ?_
  repeat (first
   | (with_reducible (first | refine mv.mk ?_ | refine br_t ?_ | refine br_f ?_ | refine sp_boxa hs fun g w hs => ?_))
   | (with_reducible ((first | apply st_bin | apply st_ext | apply st_conv); intro k' hk; simp [go_sem, thenR_ok, bin]; refine hk _ _ ?_; clear hk k'))
   | ((with_reducible apply sp_newr hs); (· kernel_rfl); intro g w hs))
  refine br_split (fun hq => ?_) (fun hq => ?_)
  · have hin : i < K := by have := of_decide_eq_true hq; omega
    repeat with_reducible refine mv.mk ?_
    refine sp_ldn hs (.tl (.tl .blk)) (by kernel_rfl) hsl ?_
    repeat with_reducible refine mv.mk ?_
    refine para.l0 hs (.tl .blk) ?_
    refine cl (isthmusref05_Public (leaf := i) (n := n) hs hsd (by omega) h1 h2) ?_
    rintro _ w ⟨rfl, hs⟩
    have hpl : (publicB seed i n).length = 32 := shaB_len _
    repeat (first
     | (with_reducible (first | refine mv.mk ?_ | refine br_t ?_ | refine br_f ?_ | refine sp_boxa hs fun g w hs => ?_))
     | (with_reducible ((first | apply st_bin | apply st_ext | apply st_conv); intro k' hk; simp [go_sem, thenR_ok, bin]; refine hk _ _ ?_; clear hk k'))
     | ((with_reducible apply sp_newr hs); (· kernel_rfl); intro g w hs))
    refine sp_setr (ds := u8s (publicB seed i n)) hs .hd (by kernel_rfl) ((u8s_length _).trans hpl) (u8s_one _) fun w hs => ?_
    repeat (first
     | (with_reducible (first | refine mv.mk ?_ | refine br_t ?_ | refine br_f ?_ | refine sp_boxa hs fun g w hs => ?_))
     | (with_reducible ((first | apply st_bin | apply st_ext | apply st_conv); intro k' hk; simp [go_sem, thenR_ok, bin]; refine hk _ _ ?_; clear hk k'))
     | ((with_reducible apply sp_newr hs); (· kernel_rfl); intro g w hs))
    refine sp_ldn hs .blk (by kernel_rfl) ((u8s_length _).trans hpl) ?_
    replace hs := Sep.hash hs hpl
    refine sp_lita hs tHashes ((u8s_length _).trans hpl) (by decide) fun u w hs => ?_
    refine sp_push (ys := u8s (publicB seed i n)) (a := publicB seed i n) hs (.tl (.tl (.tl .hd))) tHashes (by exact .sl) (by exact .tl .hd) (u8s_one _) (by omega) (by omega) fun v' w hs => ?_
    rw [← leavesB_succ] at hs
    repeat (first
     | (with_reducible (first | refine mv.mk ?_ | refine br_t ?_ | refine br_f ?_ | refine sp_boxa hs fun g w hs => ?_))
     | (with_reducible ((first | apply st_bin | apply st_ext | apply st_conv); intro k' hk; simp [go_sem, thenR_ok, bin]; refine hk _ _ ?_; clear hk k'))
     | ((with_reducible apply sp_newr hs); (· kernel_rfl); intro g w hs))
    rw [i64_succ (by omega)]
    exact ⟨⟨i + 1, v', _, rfl, hin, hs.sbl (.cons .hd (.drop (.drop (.drop .all))))⟩, by simp; omega⟩
  · obtain rfl : i = K := by have := of_decide_eq_false hq; omega
    repeat with_reducible refine mv.mk ?_
    exact (hs.growF .hd).sbl (.cons .hd (.drop (.drop .all)))
theorem isthmusref06_Root (hs : Isk.Sep b w L) (hsd : seed.length = 32) :
    C Tryz.prog N.isthmusref06_Root #[.agg (u8s seed).toArray, .agg #[.int .i64 dg, .int .i64 dp]] w fun r w' => r = .tuple #[.agg (u8s (if kCheck dg dp = 0 then rootK seed dg dp else zero32)).toArray, .int .i64 (kCheck dg dp)] ∧ Isk.Sep b w' L := by
  have hsl : (u8s seed).length = 32 := (u8s_length _).trans hsd
  refine C.isthmusref06_Root ?_
  unfold F.isthmusref06_Root
  refine sp_boxa hs fun g2 w hs => ?_
  refine sp_box (cs := [.int .i64 dg, .int .i64 dp]) hs rfl fun g3 w hs => ?_
  refine sp_newr hs (by kernel_rfl) fun g4 w hs => ?_
  repeat with_reducible refine mv.mk ?_
  refine sp_loadall hs (.tl .hd) (by kernel_rfl) rfl ?_
  refine cl (isthmusref06_Check (dg := dg) (dp := dp) hs) ?_
  rintro _ w ⟨rfl, hs⟩
  repeat with_reducible refine mv.mk ?_
  refine st_of (n_neq _) ?_
  by_cases hc : kCheck dg dp = 0
  · rw [hc, if_pos rfl]
    obtain ⟨h1, h2, h3, h4⟩ := kCheck_ok hc
    have hp := pow_small h3 h4
    refine br_f ?_
    refine sp_ldn hs (.tl (.tl .blk)) (by kernel_rfl) hsl ?_
    refine sp_loadall hs (.tl .hd) (by kernel_rfl) rfl ?_
    obtain ⟨n, rfl⟩ := Int.eq_ofNat_of_zero_le (show 0 ≤ dg by omega)
    obtain ⟨k, rfl⟩ := Int.eq_ofNat_of_zero_le h3
    refine cl (isthmusref06_Leaves (n := n) (k := k) hs hsd (by omega) (by omega) (by omega)) ?_
    rintro r w hs
    rw [Int.toNat_natCast] at hp
    refine cl (isthmusref01_Root _ rfl hs .hd (by rw [leavesB_len]; omega)) ?_
    rintro _ w ⟨rfl, hs⟩
    have hrl : (u8s (rootK seed (n : Int) (k : Int))).length = 32 := (u8s_length _).trans (rootB_len _ rfl (leavesB_32 _ _ _))
    refine sp_setr (ds := u8s (rootK seed (n : Int) (k : Int))) hs (.tl .hd) (by kernel_rfl) hrl (u8s_one _) fun w hs => mv.mk (sp_rc hs .hd (by kernel_rfl) hrl ?_)
    exact ⟨rfl, hs.sbl (.drop (.drop (.drop (.drop .all))))⟩
  · rw [decide_eq_false hc, if_neg hc]
    refine br_t ?_
    refine zero_hash ?_
    repeat with_reducible refine mv.mk ?_
    refine sp_setr (ds := u8s zero32) hs .hd (by kernel_rfl) rfl (u8s_one _) fun w hs => mv.mk (sp_rc hs .hd (by kernel_rfl) rfl ?_)
    exact ⟨rfl, hs.sbl (.drop (.drop (.drop .all)))⟩
def cutP (dp : Int) : Int := if 4 < dp ∧ dp ≤ 10 then dp.tmod 5 else dp
theorem isthmuslaw06_cut (hs : Isk.Sep b w L) : C Tryz.prog N.isthmuslaw06_cut #[.agg #[.int .i64 dg, .int .i64 dp]] w fun r w' => r = .agg #[.int .i64 dg, .int .i64 (cutP dp)] ∧ Isk.Sep b w' L := by
  have hone : ∀ d : Int, ∀ u ∈ paraC (.int .i64 dg) (.int .i64 d), u.oneCell' = true := fun d u hu => by
    simp only [paraC, List.mem_cons, List.not_mem_nil, or_false] at hu
    rcases hu with rfl | rfl <;> rfl
  refine C.isthmuslaw06_cut ?_
  unfold F.isthmuslaw06_cut
  refine sp_box (cs := paraC (.int .i64 dg) (.int .i64 dp)) hs rfl fun g1 w hs => ?_
  refine sp_newr hs (by kernel_rfl) fun g2 w hs => ?_
  refine para.l1 hs (.tl .blk) ?_
  repeat (first
   | (with_reducible (first | refine mv.mk ?_ | refine gd_u ?_ | refine gd_ft ?_ | refine gd_tf ?_ | refine gd_i ?_ | refine pk_t ?_ | refine pk_f ?_ | refine br_t ?_ | refine br_f ?_ | refine sp_boxa hs fun g w hs => ?_))
   | (with_reducible ((first | apply st_bin); intro k' hk; simp [go_sem, thenR_ok, bin]; refine hk _ _ ?_; clear hk k'))
   | ((with_reducible apply sp_newr hs); (· kernel_rfl); intro g w hs))
  have hfin : ∀ {w : World} {d : Int}, d = cutP dp → Isk.Sep b w (resI Tryz.prog g2 T.api_Params :: blkI g1 T.api_Params (paraC (.int .i64 dg) (.int .i64 d)) :: L) → o1 Tryz.prog (Instr.loadAt T.api_Params (.pointer (some ⟨g1, 0, none⟩))) w fun t15 w =>
      o0 Tryz.prog (Instr.storeAt T.api_Params (.pointer (some ⟨g2, 0, none⟩)) t15) w fun _ w => rc Tryz.prog T.api_Params (.pointer (some ⟨g2, 0, none⟩)) w fun r0 => r0 = .agg #[.int .i64 dg, .int .i64 (cutP dp)] ∧ Isk.Sep b w L := fun hd hs => by
    subst hd
    refine sp_loadall hs (.tl .hd) (by kernel_rfl) rfl ?_
    refine sp_setr (ds := paraC (.int .i64 dg) (.int .i64 (cutP dp))) hs .hd (by kernel_rfl) rfl (hone _) fun w hs => sp_rc hs .hd (by kernel_rfl) rfl ?_
    exact ⟨rfl, hs.sbl (.drop (.drop .all))⟩
  by_cases h4 : 4 < dp
  · rw [decide_eq_true h4]
    refine gd_i ?_
    refine para.a1 ?_
    refine gd_i ?_
    refine para.r1 hs (.tl .blk) ?_
    repeat (first
     | (with_reducible (first | refine mv.mk ?_ | refine gd_u ?_ | refine gd_ft ?_ | refine gd_tf ?_ | refine gd_i ?_ | refine pk_t ?_ | refine pk_f ?_ | refine br_t ?_ | refine br_f ?_ | refine sp_boxa hs fun g w hs => ?_))
     | (with_reducible ((first | apply st_bin); intro k' hk; simp [go_sem, thenR_ok, bin]; refine hk _ _ ?_; clear hk k'))
     | ((with_reducible apply sp_newr hs); (· kernel_rfl); intro g w hs))
    by_cases h10 : dp ≤ 10
    · rw [decide_eq_true h10]
      refine jn_by (fun us w' => us = [] ∧ Isk.Sep b w' (resI Tryz.prog g2 T.api_Params :: blkI g1 T.api_Params (paraC (.int .i64 dg) (.int .i64 (dp.tmod 5))) :: L)) ?_ ?_
      · refine br_t ?_
        refine para.l1 hs (.tl .blk) ?_
        refine st_of (v := .int .i64 (dp.tmod 5)) (w' := w) (by simp [go_sem, bin]) ?_
        refine para.a1 ?_
        refine sx_st (p := 1) hs (.tl .hd) (by kernel_rfl) ⟨rfl, rfl⟩ (by simp [paraC]) fun w hs => ?_
        exact ⟨rfl, hs.sbl (.cons (.tl .hd) (.cons .hd .all))⟩
      · rintro x1 w ⟨-, hs⟩
        exact hfin (by rw [cutP, if_pos ⟨h4, h10⟩]) hs
    · rw [decide_eq_false h10]
      refine jn_by (fun us w' => us = [] ∧ Isk.Sep b w' (resI Tryz.prog g2 T.api_Params :: blkI g1 T.api_Params (paraC (.int .i64 dg) (.int .i64 dp)) :: L)) ?_ ?_
      · refine br_f ?_
        exact ⟨rfl, hs⟩
      · rintro x1 w ⟨-, hs⟩
        exact hfin (by rw [cutP, if_neg (fun h => h10 h.2)]) hs
  · rw [decide_eq_false h4]
    refine gd_ft ?_
    refine gd_ft ?_
    refine gd_ft ?_
    refine pk_f ?_
    refine jn_by (fun us w' => us = [] ∧ Isk.Sep b w' (resI Tryz.prog g2 T.api_Params :: blkI g1 T.api_Params (paraC (.int .i64 dg) (.int .i64 dp)) :: L)) ?_ ?_
    · refine br_f ?_
      exact ⟨rfl, hs⟩
    · rintro x1 w ⟨-, hs⟩
      exact hfin (by rw [cutP, if_neg (fun h => h4 h.1)]) hs
end
end Go.Proofs.YtbbmgkbinnomgaaGreatDoor
