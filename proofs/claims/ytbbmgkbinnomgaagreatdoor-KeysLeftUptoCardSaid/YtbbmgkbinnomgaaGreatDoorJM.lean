/- KeysLeft: all leaves, one behind the other. -/
import Derived.Test.YtbbmgkbinnomgaaGreatDoorJL
set_option linter.unusedVariables false
set_option linter.unusedSimpArgs false
set_option linter.unusedSectionVars false
namespace Go.Proofs.YtbbmgkbinnomgaaGreatDoor
open Go Go.Isk Go.RowKit
set_option maxRecDepth 20000
def klI (b : Base) (gS gF gm g10 g7 : Nat) (na nb : Bytes) (dp : Int) (lv : Value) (L : List It) : List Value → World → Prop := fun us w' => ∃ (i : Nat) (u1 u2 u3 u4 : Value) (z' : FsD), us = [.bool false, .int .i64 (i : Int), u1, u2, u3, u4] ∧ i ≤ 2 ^ dp.toNat ∧ goodZ z' [107] i ∧ Isk.Sep b w' (klS gS gF gm g10 g7 na nb dp lv i z' L)
def klM (dp : Int) : List Value → World → Nat := fun us _ => match us with | [_, .int _ m, _, _, _, _] => 2 ^ dp.toNat - m.toNat | _ => 0
section
variable {b : Base} {w : World} {L R : List It} {gS gF gm g10 g7 i : Nat} {na nb : Bytes} {dp : Int} {lv tv e : Value} {z : FsD} {n : Int}
theorem kl_rest {K : Value → World → Prop} (hR : Ins L rndF.it) (hT : Ins L errT.it) (hk : kCheck 4 dp = 0) (hdp : dp < 4) (hna : na.length ≤ 10000000) (hz : goodZ z [107] 0)
    (hs : Isk.Sep b w (klS gS gF gm g10 g7 na nb dp lv 0 z L)) (hK : ∀ w', Isk.Sep b w' L → K (.bool true) w') :
    F.isthmuslaw06_KeysLeft_r K (str na) (.bool false) (.pointer (some ⟨g7, 0, none⟩)) (.pointer (some ⟨gS, 0, none⟩)) .nilIface (.pointer (some ⟨g10, 0, none⟩)) .nilIface w := by
  obtain ⟨h1, h2, h3, h4⟩ := kCheck_ok hk
  have hp := pow_small h3 h4
  have hsd := seedK_len na
  have hll := leavesB_len (seedK na) (4 : Int).toNat (2 ^ dp.toNat)
  have hra := rootK_32 (seedK na) 4 dp
  unfold F.isthmuslaw06_KeysLeft_r
  repeat (first
   | (with_reducible (first | refine st_eqls ?_ | refine st_nels ?_ | refine tk_eqls ?_ | refine tk_nels ?_ | refine mv.mk ?_ | refine gdT_i ?_ | refine gdT_ft ?_ | refine gdT_tf ?_ | refine gdT_u ?_ | refine gd_u ?_ | refine gd_ft ?_ | refine gd_tf ?_ | refine gd_i ?_ | refine pk_t ?_ | refine pk_f ?_ | refine br_t ?_ | refine br_f ?_))
   | (with_reducible ((first | apply st_bin | apply st_ext | apply st_conv); intro k' hk; simp [go_sem, thenR_ok, bin]; refine hk _ _ ?_; clear hk k'))
   | ((with_reducible (first | apply tk_bin)); (· intro w; simp [go_sem, bin]; rfl)))
  refine para.a1 ?_
  refine para.r1 hs (.tl (.tl (.tl (.tl (.tl .blk))))) ?_
  repeat (first
   | (with_reducible (first | refine st_eqls ?_ | refine st_nels ?_ | refine tk_eqls ?_ | refine tk_nels ?_ | refine mv.mk ?_ | refine gdT_i ?_ | refine gdT_ft ?_ | refine gdT_tf ?_ | refine gdT_u ?_ | refine gd_u ?_ | refine gd_ft ?_ | refine gd_tf ?_ | refine gd_i ?_ | refine pk_t ?_ | refine pk_f ?_ | refine br_t ?_ | refine br_f ?_))
   | (with_reducible ((first | apply st_bin | apply st_ext | apply st_conv); intro k' hk; simp [go_sem, thenR_ok, bin]; refine hk _ _ ?_; clear hk k'))
   | ((with_reducible (first | apply tk_bin)); (· intro w; simp [go_sem, bin]; rfl)))
  have hw : IntKind.i64.wrap (2 ^ min (IntKind.u64.wrap dp).toNat 64) = ((2 ^ dp.toNat : Nat) : Int) := by
    have : dp = 0 ∨ dp = 1 ∨ dp = 2 ∨ dp = 3 := by omega
    rcases this with rfl | rfl | rfl | rfl <;> decide
  rw [hw]
  refine lp_by (klI b gS gF gm g10 g7 na nb dp lv L) (klM dp) ⟨0, undef, undef, undef, undef, z, rfl, Nat.zero_le _, hz, hs⟩ ?_
  clear hs
  rintro x1 w1 ⟨i, u1, u2, u3, u4, z', hx, hi, hz', hs⟩
  simp only [List.cons.injEq, and_true] at hx
  obtain ⟨hx6, hx13, hx14, hx15, hx16, hx17⟩ := hx
  simp only [hx13]
  repeat (first
   | (with_reducible (first | refine st_eqls ?_ | refine st_nels ?_ | refine tk_eqls ?_ | refine tk_nels ?_ | refine mv.mk ?_ | refine gdT_i ?_ | refine gdT_ft ?_ | refine gdT_tf ?_ | refine gdT_u ?_ | refine gd_u ?_ | refine gd_ft ?_ | refine gd_tf ?_ | refine gd_i ?_ | refine pk_t ?_ | refine pk_f ?_ | refine br_t ?_ | refine br_f ?_))
   | (with_reducible ((first | apply st_bin | apply st_ext | apply st_conv); intro k' hk; simp [go_sem, thenR_ok, bin]; refine hk _ _ ?_; clear hk k'))
   | ((with_reducible (first | apply tk_bin)); (· intro w; simp [go_sem, bin]; rfl)))
  refine br_split (fun hq => ?_) (fun hq => ?_)
  · have hi' : i < 2 ^ dp.toNat := Int.ofNat_lt.1 (of_decide_eq_true hq)
    repeat with_reducible refine mv.mk ?_
    refine sp_tob (u := .string) hs (by_ := 1) (E := T.uint8) (by kernel_rfl) (by kernel_rfl) (by kernel_rfl) fun v0 w hs => ?_
    refine cl (keys_Sign_ok (text := na) (n := i) (.tl (.tl (.tl (.tl hR)))) hsd hk (by decide) hz' (by omega) hi' .hd (by omega) (.tl .hd) (hs.sbl (.cons (.tl .hd) (.cons (.tl .hd) (.cons (.tl .hd) .all))))) ?_
    rintro _ w ⟨tv, z2, rfl, hz2, hs⟩
    replace hs : Isk.Sep b w ((byF tv (signK (seedK na) 4 dp i na)).it :: klS gS gF gm g10 g7 na nb dp lv (i + 1) z2 L) := hs.sbl (.cons .hd (.cons .hd (.cons .hd (.cons .hd (.drop .all)))))
    have hsl := signK_len (seed := seedK na) (text := na) (leaf := i) hk hi'
    have hr1 : readK (signK (seedK na) 4 dp i na) = _ := readK_sign hk hi'
    repeat (first
     | (with_reducible (first | refine st_eqls ?_ | refine st_nels ?_ | refine tk_eqls ?_ | refine tk_nels ?_ | refine mv.mk ?_ | refine gdT_i ?_ | refine gdT_ft ?_ | refine gdT_tf ?_ | refine gdT_u ?_ | refine gd_u ?_ | refine gd_ft ?_ | refine gd_tf ?_ | refine gd_i ?_ | refine pk_t ?_ | refine pk_f ?_ | refine br_t ?_ | refine br_f ?_))
     | (with_reducible ((first | apply st_bin | apply st_ext | apply st_conv); intro k' hk; simp [go_sem, thenR_ok, bin]; refine hk _ _ ?_; clear hk k'))
     | ((with_reducible (first | apply tk_bin)); (· intro w; simp [go_sem, bin]; rfl)))
    refine cl (keys_Leaf hs .hd (by omega)) ?_
    rintro _ w ⟨e2, rfl, hs⟩
    rw [hr1] at hs
    rw [hr1]
    dsimp only at hs
    obtain rfl := errF_zeroK hs .hd
    dsimp only
    replace hs : Isk.Sep b w ((byF tv (signK (seedK na) 4 dp i na)).it :: klS gS gF gm g10 g7 na nb dp lv (i + 1) z2 L) := hs.drop .hd
    repeat (first
     | (with_reducible (first | refine st_eqls ?_ | refine st_nels ?_ | refine tk_eqls ?_ | refine tk_nels ?_ | refine mv.mk ?_ | refine gdT_i ?_ | refine gdT_ft ?_ | refine gdT_tf ?_ | refine gdT_u ?_ | refine gd_u ?_ | refine gd_ft ?_ | refine gd_tf ?_ | refine gd_i ?_ | refine pk_t ?_ | refine pk_f ?_ | refine br_t ?_ | refine br_f ?_))
     | (with_reducible ((first | apply st_bin | apply st_ext | apply st_conv); intro k' hk; simp [go_sem, thenR_ok, bin]; refine hk _ _ ?_; clear hk k'))
     | ((with_reducible (first | apply tk_bin)); (· intro w; simp [go_sem, bin]; rfl)))
    replace hs := hs.drew
    refine dr_can (R := [blkI g7 T.api_Params (paraC (.int .i64 4) (.int .i64 dp))]) hs (.drop (.drop (.drop (.drop (.drop (.drop (.cons .hd .nil))))))) ?_
    have hS : ∀ w, Mayr [blkI g7 T.api_Params (paraC (.int .i64 4) (.int .i64 dp))] w → Mayr [blkI g7 T.api_Params (paraC (.int .i64 4) (.int .i64 dp))] w := fun _ h => h
    repeat (first
     | (with_reducible (first | refine st_eqls ?_ | refine st_nels ?_ | refine tk_eqls ?_ | refine tk_nels ?_ | refine mv.mk ?_ | refine gdT_i ?_ | refine gdT_ft ?_ | refine gdT_tf ?_ | refine gdT_u ?_ | refine gd_u ?_ | refine gd_ft ?_ | refine gd_tf ?_ | refine gd_i ?_ | refine pk_t ?_ | refine pk_f ?_ | refine br_t ?_ | refine br_f ?_))
     | (with_reducible ((first | apply st_bin | apply st_ext | apply st_conv); intro k' hk; simp [go_sem, thenR_ok, bin]; refine hk _ _ ?_; clear hk k'))
     | ((with_reducible (first | apply tk_bin)); (· intro w; simp [go_sem, bin]; rfl)))
    refine cl (keys_Left (hs.sbl (.cons (.tl .hd) .all)) hsd (.tl (.tl (.tl .hd))) (by omega) (by omega)) ?_
    rintro _ w ⟨rfl, hs⟩
    rw [hll]
    replace hs : Isk.Sep b w (blkI gS T.keys_Signer (sgV gF [107] (seedK na) 4 dp lv (i + 1) .nilIface) :: (byF tv (signK (seedK na) 4 dp i na)).it :: blkI gF T.files_FS (fsV gm z2) :: mapI fileF gm z2.m :: (listF hshF 32 lv (leavesB (seedK na) (4 : Int).toNat (2 ^ dp.toNat))).it :: blkI g10 T.api_Hash (u8s (rootK (seedK nb) 4 dp)) :: blkI g7 T.api_Params (paraC (.int .i64 4) (.int .i64 dp)) :: L) := hs
    have hM : ∀ {w : World}, Isk.Sep b w (blkI gS T.keys_Signer (sgV gF [107] (seedK na) 4 dp lv (i + 1) .nilIface) :: (byF tv (signK (seedK na) 4 dp i na)).it :: blkI gF T.files_FS (fsV gm z2) :: mapI fileF gm z2.m :: (listF hshF 32 lv (leavesB (seedK na) (4 : Int).toNat (2 ^ dp.toNat))).it :: blkI g10 T.api_Hash (u8s (rootK (seedK nb) 4 dp)) :: blkI g7 T.api_Params (paraC (.int .i64 4) (.int .i64 dp)) :: L) → Mayr [blkI g7 T.api_Params (paraC (.int .i64 4) (.int .i64 dp))] w :=
      fun hs => hs.mayr (.drop (.drop (.drop (.drop (.drop (.drop (.cons .hd .nil)))))))
    refine ⟨hM hs, ?_⟩
    have hwr : IntKind.i64.wrap (IntKind.i64.wrap (2 ^ dp.toNat - 1) - (i : Int)) = ((2 ^ dp.toNat - (i + 1) : Nat) : Int) := by
      have e2 : (2 : Int) ^ dp.toNat = ((2 ^ dp.toNat : Nat) : Int) := by simp
      rw [e2]
      generalize 2 ^ dp.toNat = m at *
      simp [IntKind.wrap, IntKind.signed, IntKind.bits]
      omega
    rw [hwr]
    refine gdT_i ?_
    refine tk_run (v := .bool false) (fun w => by simp [go_sem, bin]) ?_
    refine pk_f ?_
    refine mv.mk ?_
    refine gdT_i ?_
    refine mv.mk ?_
    refine nS_can hs (.drop (.drop (.drop (.drop (.drop (.drop (.cons .hd .nil))))))) .all ?_
    refine gdT_i ?_
    refine tk_ldn hS .blk (by kernel_rfl) rfl ?_
    refine gdT_i ?_
    refine mv.mk ?_
    refine gdT_i ?_
    refine mv.mk ?_
    have hv : verifyK (rootB (leavesB (seedK na) (4 : Int).toNat (2 ^ dp.toNat))) 4 dp na (signK (seedK na) 4 dp i na) = 0 := by
      rw [verify_sign hk hi', if_pos (by rfl)]
    have hend : ∀ {w : World}, Isk.Sep b w (blkI gS T.keys_Signer (sgV gF [107] (seedK na) 4 dp lv (i + 1) .nilIface) :: (byF tv (signK (seedK na) 4 dp i na)).it :: blkI gF T.files_FS (fsV gm z2) :: mapI fileF gm z2.m :: (listF hshF 32 lv (leavesB (seedK na) (4 : Int).toNat (2 ^ dp.toNat))).it :: blkI g10 T.api_Hash (u8s (rootK (seedK nb) 4 dp)) :: blkI g7 T.api_Params (paraC (.int .i64 4) (.int .i64 dp)) :: L) →
        F.isthmuslaw06_KeysLeft_b (klI b gS gF gm g10 g7 na nb dp lv L) (klM dp) K x1 w1 (str na) (.pointer (some ⟨g7, 0, none⟩)) (.pointer (some ⟨gS, 0, none⟩)) (.pointer (some ⟨g10, 0, none⟩)) tv .nilIface (.int .i64 (i : Int)) .nilIface w := fun hs => by
      refine kl_body hR hk hi' hna hx6 hx13 (hs.sbl (.cons (.tl .hd) .all)) fun w' hs => ⟨⟨i + 1, _, _, _, _, z2, rfl, hi', hz2, hs⟩, ?_⟩
      unfold klM
      rw [hx13]
      simp
      omega
    unfold F.isthmuslaw06_KeysLeft_b at hend
    simp only [hx13] at hend
    constructor
    · refine gd_i ?_
      refine cl (keys_SRoot hs (.tl (.tl (.tl (.tl (.tl (.tl hR)))))) hsd (.tl (.tl (.tl .hd))) (by omega)) ?_
      rintro _ w ⟨rfl, hs⟩
      refine ⟨hM hs, ?_⟩
      refine gd_i ?_
      refine sp_tob (u := .string) hs (by_ := 1) (E := T.uint8) (by kernel_rfl) (by kernel_rfl) (by kernel_rfl) fun v1 w hs => ?_
      refine ⟨hM (hs.drop .hd), ?_⟩
      refine gd_i ?_
      refine cl (keys_Verify (dg := 4) (dp := dp) (text := na) hs (.tl (.tl (.tl (.tl (.tl (.tl (.tl (.tl hR)))))))) .hd (.tl (.tl .hd)) (by omega) (by omega) hra) ?_
      rintro e w hs
      rw [hv] at hs
      obtain rfl := errF_zeroK hs .hd
      refine ⟨hM (hs.sbl (.drop (.drop .all))), ?_⟩
      refine gdT_i ?_
      refine tk_run (v := .bool false) (fun w => by simp [go_sem, bin]) ?_
      refine pk_f ?_
      refine br_f ?_
      exact hend (hs.sbl (.drop (.drop .all)))
    · refine gd_i ?_
      refine sp_tob (u := .string) hs (by_ := 1) (E := T.uint8) (by kernel_rfl) (by kernel_rfl) (by kernel_rfl) fun v1 w hs => ?_
      refine ⟨hM (hs.drop .hd), ?_⟩
      refine gd_i ?_
      refine cl (keys_SRoot (hs.sbl (.cons (.tl .hd) .all)) (.tl (.tl (.tl (.tl (.tl (.tl (.tl hR))))))) hsd (.tl (.tl (.tl (.tl .hd)))) (by omega)) ?_
      rintro _ w ⟨rfl, hs⟩
      replace hs := hs.sbl (.cons (.tl .hd) .all)
      refine ⟨hM (hs.drop .hd), ?_⟩
      refine gd_i ?_
      refine cl (keys_Verify (dg := 4) (dp := dp) (text := na) hs (.tl (.tl (.tl (.tl (.tl (.tl (.tl (.tl hR)))))))) .hd (.tl (.tl .hd)) (by omega) (by omega) hra) ?_
      rintro e w hs
      rw [hv] at hs
      obtain rfl := errF_zeroK hs .hd
      refine ⟨hM (hs.sbl (.drop (.drop .all))), ?_⟩
      refine gdT_i ?_
      refine tk_run (v := .bool false) (fun w => by simp [go_sem, bin]) ?_
      refine pk_f ?_
      refine br_f ?_
      exact hend (hs.sbl (.drop (.drop .all)))
  · obtain rfl : i = 2 ^ dp.toNat := by
      have h5 : ¬ i < 2 ^ dp.toNat := fun h => of_decide_eq_false hq (Int.ofNat_lt.2 h)
      omega
    repeat with_reducible refine mv.mk ?_
    refine sp_tob (u := .string) hs (by_ := 1) (E := T.uint8) (by kernel_rfl) (by kernel_rfl) (by kernel_rfl) fun v1 w hs => ?_
    refine cl (keys_Sign_spent hsd hk (.tl (.tl (.tl .hd))) (hs.sbl (.cons (.tl .hd) .all))) ?_
    rintro _ w ⟨y, e, rfl, hs⟩
    repeat (first
     | (with_reducible (first | refine st_eqls ?_ | refine st_nels ?_ | refine tk_eqls ?_ | refine tk_nels ?_ | refine mv.mk ?_ | refine gdT_i ?_ | refine gdT_ft ?_ | refine gdT_tf ?_ | refine gdT_u ?_ | refine gd_u ?_ | refine gd_ft ?_ | refine gd_tf ?_ | refine gd_i ?_ | refine pk_t ?_ | refine pk_f ?_ | refine br_t ?_ | refine br_f ?_))
     | (with_reducible ((first | apply st_bin | apply st_ext | apply st_conv); intro k' hk; simp [go_sem, thenR_ok, bin]; refine hk _ _ ?_; clear hk k'))
     | ((with_reducible (first | apply tk_bin)); (· intro w; simp [go_sem, bin]; rfl)))
    refine cl (isthmuslaw06_num hs (.tl (.tl (.tl (.tl (.tl (.tl (.tl (.tl hT)))))))) .hd) ?_
    rintro _ w ⟨rfl, hs⟩
    repeat (first
     | (with_reducible (first | refine st_eqls ?_ | refine st_nels ?_ | refine tk_eqls ?_ | refine tk_nels ?_ | refine mv.mk ?_ | refine gdT_i ?_ | refine gdT_ft ?_ | refine gdT_tf ?_ | refine gdT_u ?_ | refine gd_u ?_ | refine gd_ft ?_ | refine gd_tf ?_ | refine gd_i ?_ | refine pk_t ?_ | refine pk_f ?_ | refine br_t ?_ | refine br_f ?_))
     | (with_reducible ((first | apply st_bin | apply st_ext | apply st_conv); intro k' hk; simp [go_sem, thenR_ok, bin]; refine hk _ _ ?_; clear hk k'))
     | ((with_reducible (first | apply tk_bin)); (· intro w; simp [go_sem, bin]; rfl)))
    refine cl (isthmuslaw06_sure hs (.tl (.tl (.tl (.tl (.tl (.tl (.tl (.tl hT)))))))) (.tl (.tl (.tl (.tl (.tl (.tl (.tl (.tl hR))))))))) ?_
    rintro _ w ⟨rfl, hs⟩
    repeat (first
     | (with_reducible (first | refine st_eqls ?_ | refine st_nels ?_ | refine tk_eqls ?_ | refine tk_nels ?_ | refine mv.mk ?_ | refine gdT_i ?_ | refine gdT_ft ?_ | refine gdT_tf ?_ | refine gdT_u ?_ | refine gd_u ?_ | refine gd_ft ?_ | refine gd_tf ?_ | refine gd_i ?_ | refine pk_t ?_ | refine pk_f ?_ | refine br_t ?_ | refine br_f ?_))
     | (with_reducible ((first | apply st_bin | apply st_ext | apply st_conv); intro k' hk; simp [go_sem, thenR_ok, bin]; refine hk _ _ ?_; clear hk k'))
     | ((with_reducible (first | apply tk_bin)); (· intro w; simp [go_sem, bin]; rfl)))
    exact hK _ (hs.sbl (.drop (.drop (.drop (.drop (.drop (.drop (.drop (.drop .all)))))))))
end
end Go.Proofs.YtbbmgkbinnomgaaGreatDoor
