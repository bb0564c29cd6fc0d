/- Keys: is a text signed so, in the program. -/
import Derived.Test.YtbbmgkbinnomgaaGreatDoorY2
import Derived.Test.YtbbmgkbinnomgaaGreatDoorL1
set_option linter.unusedVariables false
set_option linter.unusedSimpArgs false
set_option linter.unusedSectionVars false
namespace Go.Proofs.YtbbmgkbinnomgaaGreatDoor
open Go Go.Isk Go.RowKit
set_option maxRecDepth 20000
/-- 0 or the error's number -/
def verifyK (root : Bytes) (dg dp : Int) (text sign : Bytes) : Int :=
  if kCheck dg dp ≠ 0 then kCheck dg dp
  else if (readK sign).2 ≠ 0 then (readK sign).2
  else
    let s := (readK sign).1
    let d := digestB text dg.toNat
    let f := fromB s.chain s.leaf d
    if f.2 ≠ 0 then 21
    else
      let h := foldB f.1 s.leaf (2 ^ dp.toNat) s.path
      if h.2 ≠ 0 ∨ h.1 ≠ root then 21 else 0
section
variable {b : Base} {w : World} {L R : List It} {g : Nat} {v sv tv : Value} {cs : List Value} {l text sign root : Bytes}
theorem fromB_len {leaf : Int} {d : Bytes} : (fromB sign leaf d).1.length = 32 := by
  unfold fromB
  split
  · exact List.length_replicate
  · split
    · exact List.length_replicate
    · exact shaB_len _
theorem readK_small : (readK sign).1.leaf ≤ 1023 ∧ (readK sign).1.path.length ≤ 10 := by
  unfold readK
  split
  · refine ⟨rU_most (most := 1023), ?_⟩
    show (gList rH _ _).2.length ≤ 10
    rw [gList_len]
    exact rU_most (most := 10)
  · exact ⟨by decide, by decide⟩
theorem foldB_len {i n : Nat} {path : List Bytes} (h : l.length = 32) : (foldB l i n path).1.length = 32 := by
  unfold foldB
  split
  · exact List.length_replicate
  · split
    · exact List.length_replicate
    · exact foldK_len h _
theorem i_shl (w : World) {x1 x2 : Operand} {i : Int} (h : 0 ≤ i ∧ i ≤ 10) : (bin .shl T.int x1 x2 (.int .i64 1) (.int .i64 i)).run Tryz.prog w = .ok (.int .i64 ((2 ^ i.toNat : Nat) : Int)) w := by
  have : i = 0 ∨ i = 1 ∨ i = 2 ∨ i = 3 ∨ i = 4 ∨ i = 5 ∨ i = 6 ∨ i = 7 ∨ i = 8 ∨ i = 9 ∨ i = 10 := by omega
  rcases this with rfl | rfl | rfl | rfl | rfl | rfl | rfl | rfl | rfl | rfl | rfl <;> (simp [go_sem, bin, IntKind.bits]; try decide)
theorem keys_Verify {dg dp : Int} (hs : Isk.Sep b w L) (hR : Ins L rndF.it) (ht : Ins L (byF tv text).it) (hm : Ins L (byF sv sign).it) (hl : sign.length ≤ 2147483648) (hl2 : text.length < 140737488354000) (hr : root.length = 32) :
    C Tryz.prog N.keys_Verify #[.agg (u8s root).toArray, .agg #[.int .i64 dg, .int .i64 dp], tv, sv] w fun r w' => Isk.Sep b w' ((errF r (verifyK root dg dp text sign)).it :: L) := by
  refine C.keys_Verify ?_
  unfold F.keys_Verify
  refine sp_boxa hs fun g4 w hs => ?_
  refine sp_box (cs := [.int .i64 dg, .int .i64 dp]) hs rfl fun g5 w hs => ?_
  repeat with_reducible refine mv.mk ?_
  refine sp_loadall hs .hd (by kernel_rfl) rfl ?_
  refine cl (keys_Check hs) ?_
  rintro e w hs
  repeat with_reducible refine mv.mk ?_
  refine st_of (err_neq hs .hd) ?_
  by_cases hc : kCheck dg dp = 0
  · rw [hc]
    refine br_f ?_
    repeat with_reducible refine mv.mk ?_
    refine cl (keys_read hs (.tl (.tl (.tl hm))) hl) ?_
    rintro _ w ⟨cv, pv, e2, rfl, hs⟩
    obtain ⟨A, c, hcv⟩ := bytesF_slice hs .hd
    obtain ⟨A2, c2, hpv⟩ := hs.lst_len (Ins.tl (Ins.hd)).lst
    have hone : ∀ u ∈ [Value.int .i64 ((readK sign).1.leaf : Int), cv, pv], u.oneCell' = true := by
      intro u hu
      simp only [List.mem_cons, List.not_mem_nil, or_false] at hu
      rcases hu with rfl | rfl | rfl
      · rfl
      · rw [hcv]; rfl
      · rw [hpv]; rfl
    repeat with_reducible refine mv.mk ?_
    refine st_of (v := .agg #[.int .i64 ((readK sign).1.leaf : Int), cv, pv]) (w' := w) (by simp [go_sem]) ?_
    refine st_of (v := e2) (w' := w) (by simp [go_sem]) ?_
    refine sp_newr hs (by kernel_rfl) fun g10 w hs => ?_
    refine sp_setr (ds := [.int .i64 ((readK sign).1.leaf : Int), cv, pv]) hs .hd (by kernel_rfl) rfl hone fun w hs => ?_
    repeat with_reducible refine mv.mk ?_
    refine st_of (err_neq hs (.tl (.tl (.tl .hd)))) ?_
    by_cases hc2 : (readK sign).2 = 0
    · rw [decide_eq_true hc2]
      refine br_f ?_
      repeat with_reducible refine mv.mk ?_
      have hk : 1 ≤ dg ∧ dg ≤ 32 ∧ 0 ≤ dp ∧ dp ≤ 10 := by
        unfold kCheck at hc
        split at hc
        · cases hc
        · omega
      have hdg : digOk dg = true := by simp [digOk]; omega
      refine st_of (fieldAt_run (off := 0) (by kernel_rfl) _ _ _) ?_
      refine sp_load1 (p := 0) hs (.tl (.tl (.tl (.tl (.tl .hd))))) (by kernel_rfl) rfl ?_
      refine cl (wots_Digest (n := dg) hs (.tl (.tl (.tl (.tl (.tl (.tl (.tl hR))))))) (.tl (.tl (.tl (.tl (.tl (.tl (.tl ht))))))) hl2) ?_
      rintro _ w ⟨dv, e3, rfl, hs⟩
      rw [if_pos hdg, if_pos hdg] at hs
      repeat with_reducible refine mv.mk ?_
      refine st_of (v := dv) (w' := w) (by simp [go_sem]) ?_
      refine st_of (v := e3) (w' := w) (by simp [go_sem]) ?_
      repeat with_reducible refine mv.mk ?_
      refine st_of (err_neq hs (.tl .hd)) ?_
      refine br_f ?_
      repeat with_reducible refine mv.mk ?_
      refine st_of (fieldAt_run (off := 1) (by kernel_rfl) _ _ _) ?_
      refine sp_load1 (p := 1) hs (.tl (.tl .hd)) (by kernel_rfl) rfl ?_
      refine st_of (fieldAt_run (off := 0) (by kernel_rfl) _ _ _) ?_
      refine sp_load1 (p := 0) hs (.tl (.tl .hd)) (by kernel_rfl) rfl ?_
      repeat with_reducible refine mv.mk ?_
      refine cl (wots_From hs (.tl (.tl (.tl (.tl (.tl (.tl (.tl (.tl (.tl hR))))))))) (.tl (.tl (.tl .hd))) .hd) ?_
      rintro _ w ⟨e4, rfl, hs⟩
      have hfl := fromB_len (sign := (readK sign).1.chain) (leaf := (readK sign).1.leaf) (d := digestB text dg.toNat)
      generalize hf : fromB (readK sign).1.chain (readK sign).1.leaf (digestB text dg.toNat) = f at hs hfl ⊢
      repeat with_reducible refine mv.mk ?_
      refine st_of (v := .agg (u8s f.1).toArray) (w' := w) (by simp [go_sem]) ?_
      refine st_of (v := e4) (w' := w) (by simp [go_sem]) ?_
      refine sp_newr hs (by kernel_rfl) fun g13 w hs => ?_
      refine sp_setr (ds := u8s f.1) hs .hd (by kernel_rfl) ((u8s_length _).trans hfl) (u8s_one _) fun w hs => ?_
      repeat with_reducible refine mv.mk ?_
      refine st_of (err_neq hs (.tl .hd)) ?_
      by_cases hf2 : f.2 = 0
      · rw [decide_eq_true hf2]
        refine br_f ?_
        refine dr_can (R := [blkI g13 T.api_Hash (u8s f.1), blkI g10 T.keys_signature [.int .i64 ((readK sign).1.leaf : Int), cv, pv], blkI g5 T.api_Params [.int .i64 dg, .int .i64 dp]]) hs.drew (.cons .hd (.cons (.tl (.tl (.tl .hd))) (.cons (.tl (.tl (.tl (.tl (.tl (.tl (.tl .hd))))))) .nil))) ?_
        refine tk_ldn hid (by repeat (first | with_reducible exact Rng.blk | with_reducible exact Rng.rng | with_reducible apply Rng.tl)) (by kernel_rfl) ((u8s_length _).trans hfl) ?_
        refine tk_of _ (fun w _ => fieldAt_run (off := 0) (by kernel_rfl) _ _ _) ?_
        refine tx_ld (o := 0) (p := 0) hid (by repeat (first | with_reducible exact Rng.blk | with_reducible exact Rng.rng | with_reducible apply Rng.tl)) (by kernel_rfl) rfl ?_
        refine tk_of _ (fun w _ => fieldAt_run (off := 1) (by kernel_rfl) _ _ _) ?_
        refine tx_ld (o := 0) (p := 1) hid (by repeat (first | with_reducible exact Rng.blk | with_reducible exact Rng.rng | with_reducible apply Rng.tl)) (by kernel_rfl) rfl ?_
        refine tk_run (fun w => i_shl w ⟨hk.2.2.1, hk.2.2.2⟩) ?_
        refine tk_of _ (fun w _ => fieldAt_run (off := 2) (by kernel_rfl) _ _ _) ?_
        refine tx_ld (o := 0) (p := 2) hid (by repeat (first | with_reducible exact Rng.blk | with_reducible exact Rng.rng | with_reducible apply Rng.tl)) (by kernel_rfl) rfl ?_
        have hsm := readK_small (sign := sign)
        have hpw : 2 ^ dp.toNat ≤ 2 ^ 10 := Nat.pow_le_pow_right (by decide) (by omega)
        refine cl (sha_Fold (sv := pv) (path := (readK sign).1.path) hs.drew (.tl (.tl (.tl (.tl (.tl (.tl (.tl (.tl (.tl (.tl (.tl hR))))))))))) (.tl (.tl (.tl (.tl (.tl (.tl .hd)))))) hfl (by omega) (by omega) (by omega)) ?_
        rintro _ w ⟨e5, rfl, hs⟩
        have hfo := foldB_len (l := f.1) (i := (readK sign).1.leaf) (n := 2 ^ dp.toNat) (path := (readK sign).1.path) hfl
        refine ⟨hs.mayr (.drop (.cons .hd (.cons (.tl (.tl (.tl .hd))) (.cons (.tl (.tl (.tl (.tl (.tl (.tl (.tl .hd))))))) .nil)))), ?_⟩
        generalize hF : foldB f.1 (readK sign).1.leaf (2 ^ dp.toNat) (readK sign).1.path = q at hs hfo ⊢
        repeat with_reducible refine mv.mk ?_
        refine tk_run (v := .agg (u8s q.1).toArray) (fun w => by simp [go_sem]) ?_
        refine tk_run (v := e5) (fun w => by simp [go_sem]) ?_
        refine sp_all hs (.tl .hd) (by kernel_rfl) ((u8s_length _).trans hfl) ((u8s_length _).trans hfo) (u8s_one _) fun w hs => ?_
        repeat with_reducible refine mv.mk ?_
        refine st_of (err_neq hs (.tl .hd)) ?_
        repeat with_reducible refine mv.mk ?_
        have ev : verifyK root dg dp text sign = if q.2 ≠ 0 ∨ q.1 ≠ root then 21 else 0 := by
          unfold verifyK
          rw [if_neg (by simpa using hc), if_neg (by simpa using hc2)]
          simp only [hf]
          rw [if_neg (by simpa using hf2)]
          simp only [hF]
        have hbad : ∀ {K : Value → World → Prop}, (q.2 ≠ 0 ∨ q.1 ≠ root) → (∀ r w', Isk.Sep b w' ((errF r (verifyK root dg dp text sign)).it :: L) → K r w') →
            C Tryz.prog N.keys_fault #[.string ⟨#[114, 111, 111, 116]⟩, .iface EN (.int .i64 21)] w K := by
          intro K hb hK
          rw [ev, if_pos hb] at hK
          refine cl (keys_fault (by decide) (by decide) (by decide) hs) ?_
          rintro r w hs
          exact hK r w (hs.sbl (.cons .hd (.drop (.drop (.drop (.drop (.drop (.drop (.drop (.drop (.drop (.drop (.drop (.drop .all))))))))))))))
        by_cases hF2 : q.2 = 0
        · rw [decide_eq_true hF2]
          refine gd_i ?_
          refine sp_ldn hs (by repeat (first | with_reducible exact Rng.blk | with_reducible exact Rng.rng | with_reducible apply Rng.tl)) (by kernel_rfl) ((u8s_length _).trans hfo) ?_
          refine gd_i ?_
          refine sp_ldn hs (by repeat (first | with_reducible exact Rng.blk | with_reducible exact Rng.rng | with_reducible apply Rng.tl)) (by kernel_rfl) ((u8s_length _).trans hr) ?_
          refine gd_i ?_
          refine st_of (hash_ne hfo hr _ _ _) ?_
          refine pk_f ?_
          refine br_split (fun hq => ?_) (fun hq => ?_)
          · refine st1 fun k' hk => ?_; simp [go_sem, thenR_ok, bin]; refine hk _ _ ?_; clear hk k'
            refine hbad (.inr (by simpa using hq)) fun r w' hs => ?_
            repeat with_reducible refine mv.mk ?_
            exact hs
          · repeat with_reducible refine mv.mk ?_
            have hq' : q.1 = root := by simpa using hq
            rw [ev, if_neg (by simp [hF2, hq'])]
            exact (errF_nil hs).sbl (.cons .hd (.drop (.drop (.drop (.drop (.drop (.drop (.drop (.drop (.drop (.drop (.drop (.drop .all)))))))))))))
        · rw [decide_eq_false hF2]
          refine gd_o ?_
          refine gd_o ?_
          refine gd_o ?_
          refine pk_t ?_
          refine br_t ?_
          refine st1 fun k' hk => ?_; simp [go_sem, thenR_ok, bin]; refine hk _ _ ?_; clear hk k'
          refine hbad (.inl hF2) fun r w' hs => ?_
          repeat with_reducible refine mv.mk ?_
          exact hs
      · rw [decide_eq_false hf2]
        refine br_t ?_
        refine st1 fun k' hk => ?_; simp [go_sem, thenR_ok, bin]; refine hk _ _ ?_; clear hk k'
        refine cl (keys_fault (by decide) (by decide) (by decide) hs) ?_
        rintro r w hs
        repeat with_reducible refine mv.mk ?_
        have ev : verifyK root dg dp text sign = 21 := by
          unfold verifyK
          rw [if_neg (by simpa using hc), if_neg (by simpa using hc2)]
          simp only [hf]
          rw [if_pos hf2]
        rw [ev]
        exact hs.sbl (.cons .hd (.drop (.drop (.drop (.drop (.drop (.drop (.drop (.drop (.drop (.drop (.drop .all))))))))))))
    · rw [decide_eq_false hc2]
      refine br_t ?_
      repeat with_reducible refine mv.mk ?_
      rw [verifyK, if_neg (by simpa using hc), if_pos hc2]
      exact hs.sbl (.cons (.tl (.tl (.tl .hd))) (.drop (.drop (.drop (.drop (.drop (.drop .all)))))))
  · rw [show decide (kCheck dg dp = 0) = false from decide_eq_false hc]
    refine br_t ?_
    repeat with_reducible refine mv.mk ?_
    rw [verifyK, if_pos hc]
    exact hs.sbl (.cons .hd (.drop (.drop .all)))
end
end Go.Proofs.YtbbmgkbinnomgaaGreatDoor
