/- The program's SHA-256, walked. -/
import Derived.Test.YtbbmgkbinnomgaaGreatDoorKW
import Derived.Test.YtbbmgkbinnomgaaGreatDoorSL
import Derived.Test.YtbbmgkbinnomgaaGreatDoorF0
import Derived.Test.YtbbmgkbinnomgaaGreatDoorF1
import Derived.Test.YtbbmgkbinnomgaaGreatDoorF2
import Derived.Test.YtbbmgkbinnomgaaGreatDoorF3
set_option linter.unusedVariables false
set_option linter.unusedSimpArgs false
set_option linter.unusedSectionVars false
namespace Go.Proofs.YtbbmgkbinnomgaaGreatDoor
open Go Go.Isk Go.RowKit
set_option maxRecDepth 20000
/-- the rounds' words, in the program's variable -/
def rndF : Fact := rngF G.sha_rounds 0 (w32s shaK)
section
variable {b : Base} {w : World} {L R : List It} {g : Nat} {v : Value} {cs : List Value}
theorem rot_and : ∀ n : Fin 32, 1 ≤ n.val → bits .and .u64 (IntKind.u64.wrap (-(n.val : Int))) 31 = ((32 - n.val : Nat) : Int) := by decide +kernel
theorem math_bits_RotateLeft32 {x : UInt32} (n : Nat) (h : 1 ≤ n ∧ n ≤ 31) : C Tryz.prog N.math_bits_RotateLeft32 #[u32v x, .int .i64 (-(n : Int))] w fun r w' => r = u32v (rotr x n) ∧ w' = w := by
  have e := rot_and ⟨n, by omega⟩ h.1
  simp only at e
  refine C.math_bits_RotateLeft32 ?_
  unfold F.math_bits_RotateLeft32
  repeat (first
   | (with_reducible (first | refine mv.mk ?_))
   | (with_reducible ((first | apply st_bin | apply st_conv); intro k' hk; simp [go_sem, thenR_ok, bin]; refine hk _ _ ?_; clear hk k')))
  rw [e]
  repeat with_reducible refine mv.mk ?_
  refine sw_shl (i := ((32 - n : Nat) : Int)) (by omega) ?_
  repeat (first
   | (with_reducible (first | refine mv.mk ?_))
   | (with_reducible ((first | apply st_bin | apply st_conv); intro k' hk; simp [go_sem, thenR_ok, bin]; refine hk _ _ ?_; clear hk k')))
  rw [show IntKind.u64.wrap (32 - ((32 - n : Nat) : Int)) = (n : Int) by rw [u64_wrap]; omega]
  refine sw_shr (i := (n : Int)) (by omega) ?_
  repeat (first
   | (with_reducible refine tw_add ?_)
   | (with_reducible refine tw_xor ?_)
   | (with_reducible refine tw_and ?_)
   | (with_reducible refine tw_or ?_)
   | (with_reducible refine tw_not ?_)
   | (with_reducible refine tw_ones ?_)
   | (with_reducible refine sw_add ?_)
   | (with_reducible refine sw_xor ?_)
   | (with_reducible refine sw_and ?_)
   | (with_reducible refine sw_or ?_)
   | (with_reducible refine sw_not ?_)
   | (with_reducible (first | refine mv.mk ?_))
   | (with_reducible ((first | apply st_bin | apply st_conv); intro k' hk; simp [go_sem, thenR_ok, bin]; refine hk _ _ ?_; clear hk k')))
  exact ⟨by simp [rotr], rfl⟩
theorem tByt : slT Tryz.prog T.sl_uint8 T.uint8 1 1 = true := by kernel_rfl
theorem tArr64 : arrT Tryz.prog T.arr64_uint32 64 = true := by kernel_rfl
theorem tArr8 : arrT Tryz.prog T.arr8_uint32 8 = true := by kernel_rfl
theorem tWords : arrT Tryz.prog T.sha_words 8 = true := by kernel_rfl
theorem zArr64 : zeroT Tryz.prog T.arr64_uint32 (w32s (schL [] 0)) := zeroT_of (by kernel_rfl)
theorem tx_ld2 {o p j : Nat} {cs : List Value} {x : Value} {S : World → Prop} {kt : Value → Prop} {T : Nat} (hS : ∀ w, S w → Mayr L w) (hr : Rng L g o cs) (ht : oneT Tryz.prog T = true) (hx : cs[p + j]? = some x) (hk : kt x) : tk Tryz.prog S (Instr.loadAt T (.pointer (some ⟨g, o + p + j, none⟩))) kt := by
  rw [Nat.add_assoc]; exact tx_ld hS hr ht hx hk
theorem getD_of {m : Bytes} {i : Nat} (h : i < m.length) : m.getD i 0 = m[i] := by simp [List.getD, h]
set_option maxHeartbeats 4000000 in
theorem sha_words_mix {s : S8} {m : Bytes} {gb ob p len cap : Nat} {cb : List Value} (hs : Sep b w L) (hh : Has L (blkI g T.sha_words (w32s s.list)) R) (hr : Rng R gb ob cb) (hm : m.length = 64) (hcb : ∀ j (h : j < 64), cb[p + j]? = some (.int .u8 (m[j]'(by omega)).toNat)) (hl : 64 ≤ len) (hR : Ins R rndF.it) :
    C Tryz.prog N.sha_words_mix #[.pointer (some ⟨g, 0, none⟩), .slice (some ⟨gb, ob + p, none⟩) len cap] w fun r w' => Sep b w' (blkI g T.sha_words (w32s (mixB s m).list) :: R) := by
  replace hs := hs.perm hh.perm
  clear hh
  refine C.sha_words_mix ?_
  unfold F.sha_words_mix
  refine sp_alloc hs zArr64 fun g4 w hs => ?_
  rw [show schL [] 0 = schL m 0 by simp [schL]] at hs
  repeat with_reducible refine mv.mk ?_
  refine lp_by (fun us w' => ∃ (i : Nat) (x : Value), us = [x, .int .i64 i] ∧ i ≤ 16 ∧ Sep b w' (blkI g4 T.arr64_uint32 (w32s (schL m i)) :: blkI g T.sha_words (w32s s.list) :: R)) (fun us _ => match us with | [_, .int _ m] => 16 - m.toNat | _ => 0) ⟨0, _, rfl, Nat.zero_le _, hs⟩ ?_
  clear hs w
  rintro x1 w ⟨i, y, hx, hi, hs⟩
  simp only [List.cons.injEq, and_true] at hx
  simp only [hx.2]
  repeat (first
   | (with_reducible (first | refine mv.mk ?_ | refine nk_p ?_ | refine br_t ?_ | refine br_f ?_))
   | (with_reducible ((first | apply st_bin | apply st_un | apply st_conv | apply st_ixv); intro k' hk; simp [go_sem, thenR_ok, bin]; refine hk _ _ ?_; clear hk k'))
   | ((with_reducible (first | apply tk_bin | apply tk_un)); (· intro w; simp [go_sem, bin]; rfl))
   | ((with_reducible apply sp_newr hs); (· kernel_rfl); intro g w hs))
  refine br_split (fun hq => ?_) (fun hq => ?_)
  · have hi' : i < 16 := by have := of_decide_eq_true hq; omega
    have hld : ∀ j, j < 64 → ∃ c : UInt8, cb[p + j]? = some (.int .u8 c.toNat) ∧ m.getD j 0 = c := fun j hj => ⟨m[j]'(by omega), hcb j hj, getD_of (by omega)⟩
    obtain ⟨c0, e0, f0⟩ := hld (4 * i) (by omega)
    obtain ⟨c1, e1, f1⟩ := hld (4 * i + 1) (by omega)
    obtain ⟨c2, e2, f2⟩ := hld (4 * i + 2) (by omega)
    obtain ⟨c3, e3, f3⟩ := hld (4 * i + 3) (by omega)
    repeat with_reducible refine mv.mk ?_
    refine dr_can hs.drew .all ?_
    repeat (first
     | ((with_reducible apply tn_add); (· omega))
     | ((with_reducible apply tn_sub); (· omega))
     | ((with_reducible apply tn_mul); (· omega))
     | ((with_reducible apply sn_add); (· omega))
     | ((with_reducible apply sn_sub); (· omega))
     | ((with_reducible apply sn_mul); (· omega))
     | (with_reducible (first | refine mv.mk ?_ | refine nk_p ?_ | refine br_t ?_ | refine br_f ?_))
     | (with_reducible ((first | apply st_bin | apply st_un | apply st_conv | apply st_ixv); intro k' hk; simp [go_sem, thenR_ok, bin]; refine hk _ _ ?_; clear hk k'))
     | ((with_reducible (first | apply tk_bin | apply tk_un)); (· intro w; simp [go_sem, bin]; rfl))
     | ((with_reducible apply sp_newr hs); (· kernel_rfl); intro g w hs))
    refine tx_sl tByt (4 * i) (by omega) (by omega) (tx_ld2 hid (.tl (.tl hr)) (by kernel_rfl) e0 ?_)
    repeat (first
     | ((with_reducible apply tw_shl); (· decide))
     | ((with_reducible apply tw_shr); (· decide))
     | ((with_reducible apply sw_shl); (· decide))
     | ((with_reducible apply sw_shr); (· decide))
     | ((with_reducible apply tw_of); (· kernel_rfl); (· kernel_rfl))
     | ((with_reducible apply tn_add); (· omega))
     | ((with_reducible apply tn_sub); (· omega))
     | ((with_reducible apply tn_mul); (· omega))
     | ((with_reducible apply sn_add); (· omega))
     | ((with_reducible apply sn_sub); (· omega))
     | ((with_reducible apply sn_mul); (· omega))
     | (with_reducible (first | refine mv.mk ?_ | refine nk_p ?_ | refine br_t ?_ | refine br_f ?_))
     | (with_reducible ((first | apply st_bin | apply st_un | apply st_conv | apply st_ixv); intro k' hk; simp [go_sem, thenR_ok, bin]; refine hk _ _ ?_; clear hk k'))
     | ((with_reducible (first | apply tk_bin | apply tk_un)); (· intro w; simp [go_sem, bin]; rfl))
     | ((with_reducible apply sp_newr hs); (· kernel_rfl); intro g w hs))
    refine tx_sl tByt (4 * i + 1) (by omega) (by omega) (tx_ld2 hid (.tl (.tl hr)) (by kernel_rfl) e1 ?_)
    repeat (first
     | ((with_reducible apply tw_shl); (· decide))
     | ((with_reducible apply tw_shr); (· decide))
     | ((with_reducible apply sw_shl); (· decide))
     | ((with_reducible apply sw_shr); (· decide))
     | ((with_reducible apply tw_of); (· kernel_rfl); (· kernel_rfl))
     | (with_reducible refine tw_add ?_)
     | (with_reducible refine tw_xor ?_)
     | (with_reducible refine tw_and ?_)
     | (with_reducible refine tw_or ?_)
     | (with_reducible refine tw_not ?_)
     | (with_reducible refine tw_ones ?_)
     | (with_reducible refine sw_add ?_)
     | (with_reducible refine sw_xor ?_)
     | (with_reducible refine sw_and ?_)
     | (with_reducible refine sw_or ?_)
     | (with_reducible refine sw_not ?_)
     | ((with_reducible apply tn_add); (· omega))
     | ((with_reducible apply tn_sub); (· omega))
     | ((with_reducible apply tn_mul); (· omega))
     | ((with_reducible apply sn_add); (· omega))
     | ((with_reducible apply sn_sub); (· omega))
     | ((with_reducible apply sn_mul); (· omega))
     | (with_reducible (first | refine mv.mk ?_ | refine nk_p ?_ | refine br_t ?_ | refine br_f ?_))
     | (with_reducible ((first | apply st_bin | apply st_un | apply st_conv | apply st_ixv); intro k' hk; simp [go_sem, thenR_ok, bin]; refine hk _ _ ?_; clear hk k'))
     | ((with_reducible (first | apply tk_bin | apply tk_un)); (· intro w; simp [go_sem, bin]; rfl))
     | ((with_reducible apply sp_newr hs); (· kernel_rfl); intro g w hs))
    refine tx_sl tByt (4 * i + 2) (by omega) (by omega) (tx_ld2 hid (.tl (.tl hr)) (by kernel_rfl) e2 ?_)
    repeat (first
     | ((with_reducible apply tw_shl); (· decide))
     | ((with_reducible apply tw_shr); (· decide))
     | ((with_reducible apply sw_shl); (· decide))
     | ((with_reducible apply sw_shr); (· decide))
     | ((with_reducible apply tw_of); (· kernel_rfl); (· kernel_rfl))
     | (with_reducible refine tw_add ?_)
     | (with_reducible refine tw_xor ?_)
     | (with_reducible refine tw_and ?_)
     | (with_reducible refine tw_or ?_)
     | (with_reducible refine tw_not ?_)
     | (with_reducible refine tw_ones ?_)
     | (with_reducible refine sw_add ?_)
     | (with_reducible refine sw_xor ?_)
     | (with_reducible refine sw_and ?_)
     | (with_reducible refine sw_or ?_)
     | (with_reducible refine sw_not ?_)
     | ((with_reducible apply tn_add); (· omega))
     | ((with_reducible apply tn_sub); (· omega))
     | ((with_reducible apply tn_mul); (· omega))
     | ((with_reducible apply sn_add); (· omega))
     | ((with_reducible apply sn_sub); (· omega))
     | ((with_reducible apply sn_mul); (· omega))
     | (with_reducible (first | refine mv.mk ?_ | refine nk_p ?_ | refine br_t ?_ | refine br_f ?_))
     | (with_reducible ((first | apply st_bin | apply st_un | apply st_conv | apply st_ixv); intro k' hk; simp [go_sem, thenR_ok, bin]; refine hk _ _ ?_; clear hk k'))
     | ((with_reducible (first | apply tk_bin | apply tk_un)); (· intro w; simp [go_sem, bin]; rfl))
     | ((with_reducible apply sp_newr hs); (· kernel_rfl); intro g w hs))
    refine tx_sl tByt (4 * i + 3) (by omega) (by omega) (tx_ld2 hid (.tl (.tl hr)) (by kernel_rfl) e3 ?_)
    repeat (first
     | ((with_reducible apply tw_shl); (· decide))
     | ((with_reducible apply tw_shr); (· decide))
     | ((with_reducible apply sw_shl); (· decide))
     | ((with_reducible apply sw_shr); (· decide))
     | ((with_reducible apply tw_of); (· kernel_rfl); (· kernel_rfl))
     | (with_reducible refine tw_add ?_)
     | (with_reducible refine tw_xor ?_)
     | (with_reducible refine tw_and ?_)
     | (with_reducible refine tw_or ?_)
     | (with_reducible refine tw_not ?_)
     | (with_reducible refine tw_ones ?_)
     | (with_reducible refine sw_add ?_)
     | (with_reducible refine sw_xor ?_)
     | (with_reducible refine sw_and ?_)
     | (with_reducible refine sw_or ?_)
     | (with_reducible refine sw_not ?_)
     | ((with_reducible apply tn_add); (· omega))
     | ((with_reducible apply tn_sub); (· omega))
     | ((with_reducible apply tn_mul); (· omega))
     | ((with_reducible apply sn_add); (· omega))
     | ((with_reducible apply sn_sub); (· omega))
     | ((with_reducible apply sn_mul); (· omega))
     | (with_reducible (first | refine mv.mk ?_ | refine nk_p ?_ | refine br_t ?_ | refine br_f ?_))
     | (with_reducible ((first | apply st_bin | apply st_un | apply st_conv | apply st_ixv); intro k' hk; simp [go_sem, thenR_ok, bin]; refine hk _ _ ?_; clear hk k'))
     | ((with_reducible (first | apply tk_bin | apply tk_un)); (· intro w; simp [go_sem, bin]; rfl))
     | ((with_reducible apply sp_newr hs); (· kernel_rfl); intro g w hs))
    refine tx_arr tArr64 i rfl (by omega) ?_
    refine sx_st hs.drew .hd (by kernel_rfl) u32v_one (by rw [w32s_len, schL_len (by omega)]; omega) fun w hs => ?_
    repeat (first
     | ((with_reducible apply tn_add); (· omega))
     | ((with_reducible apply tn_sub); (· omega))
     | ((with_reducible apply tn_mul); (· omega))
     | ((with_reducible apply sn_add); (· omega))
     | ((with_reducible apply sn_sub); (· omega))
     | ((with_reducible apply sn_mul); (· omega))
     | (with_reducible (first | refine mv.mk ?_ | refine nk_p ?_ | refine br_t ?_ | refine br_f ?_))
     | (with_reducible ((first | apply st_bin | apply st_un | apply st_conv | apply st_ixv); intro k' hk; simp [go_sem, thenR_ok, bin]; refine hk _ _ ?_; clear hk k'))
     | ((with_reducible (first | apply tk_bin | apply tk_un)); (· intro w; simp [go_sem, bin]; rfl))
     | ((with_reducible apply sp_newr hs); (· kernel_rfl); intro g w hs))
    refine ⟨⟨i + 1, _, rfl, by omega, ?_⟩, by simp; omega⟩
    rw [show w32s (schL m (i + 1)) = (w32s (schL m i)).set i (u32v (shlN (b2w c0) 24 ||| shlN (b2w c1) 16 ||| shlN (b2w c2) 8 ||| b2w c3)) by
      rw [← schL_set (by omega), schW_lt hi', be32, f0, f1, f2, f3, w32s, w32s, List.map_set]]
    exact hs
  obtain rfl : i = 16 := by have := of_decide_eq_false hq; omega
  clear hq hi hx
  repeat with_reducible refine mv.mk ?_
  refine lp_by (fun us w' => ∃ (i : Nat) (y1 y2 y3 y4 : Value), us = [.int .i64 i, y1, y2, y3, y4] ∧ 16 ≤ i ∧ i ≤ 64 ∧ Sep b w' (blkI g4 T.arr64_uint32 (w32s (schL m i)) :: blkI g T.sha_words (w32s s.list) :: R)) (fun us _ => match us with | [.int _ m, _, _, _, _] => 64 - m.toNat | _ => 0) ⟨16, _, _, _, _, rfl, Nat.le_refl _, by decide, hs⟩ ?_
  clear hs w
  rintro x2 w ⟨i, y1, y2, y3, y4, hx, h16, hi, hs⟩
  simp only [List.cons.injEq, and_true] at hx
  simp only [hx.1]
  repeat (first
   | (with_reducible (first | refine mv.mk ?_ | refine nk_p ?_ | refine br_t ?_ | refine br_f ?_))
   | (with_reducible ((first | apply st_bin | apply st_un | apply st_conv | apply st_ixv); intro k' hk; simp [go_sem, thenR_ok, bin]; refine hk _ _ ?_; clear hk k'))
   | ((with_reducible (first | apply tk_bin | apply tk_un)); (· intro w; simp [go_sem, bin]; rfl))
   | ((with_reducible apply sp_newr hs); (· kernel_rfl); intro g w hs))
  refine br_split (fun hq => ?_) (fun hq => ?_)
  · have hi' : i < 64 := by have := of_decide_eq_true hq; omega
    have hS : ∀ w', w' = w.drew → Mayr (blkI g4 T.arr64_uint32 (w32s (schL m i)) :: blkI g T.sha_words (w32s s.list) :: R) w' := fun _ e => e ▸ hs.drew.mayr .all
    have hg : ∀ j, j < i → (w32s (schL m i))[j]? = some (u32v (schW m j)) := fun j hj => by rw [w32s, List.getElem?_map, schL_get hj]; rfl
    repeat (first
     | ((with_reducible apply tn_add); (· omega))
     | ((with_reducible apply tn_sub); (· omega))
     | ((with_reducible apply tn_mul); (· omega))
     | ((with_reducible apply sn_add); (· omega))
     | ((with_reducible apply sn_sub); (· omega))
     | ((with_reducible apply sn_mul); (· omega))
     | (with_reducible (first | refine mv.mk ?_ | refine nk_p ?_ | refine br_t ?_ | refine br_f ?_))
     | (with_reducible ((first | apply st_bin | apply st_un | apply st_conv | apply st_ixv); intro k' hk; simp [go_sem, thenR_ok, bin]; refine hk _ _ ?_; clear hk k'))
     | ((with_reducible (first | apply tk_bin | apply tk_un)); (· intro w; simp [go_sem, bin]; rfl))
     | ((with_reducible apply sp_newr hs); (· kernel_rfl); intro g w hs))
    refine tx_arr tArr64 (i - 15) (by omega) (by omega) (tx_ld hS .blk (by kernel_rfl) (hg _ (by omega)) ?_)
    repeat (first
     | ((with_reducible apply tn_add); (· omega))
     | ((with_reducible apply tn_sub); (· omega))
     | ((with_reducible apply tn_mul); (· omega))
     | ((with_reducible apply sn_add); (· omega))
     | ((with_reducible apply sn_sub); (· omega))
     | ((with_reducible apply sn_mul); (· omega))
     | (with_reducible (first | refine mv.mk ?_ | refine nk_p ?_ | refine br_t ?_ | refine br_f ?_))
     | (with_reducible ((first | apply st_bin | apply st_un | apply st_conv | apply st_ixv); intro k' hk; simp [go_sem, thenR_ok, bin]; refine hk _ _ ?_; clear hk k'))
     | ((with_reducible (first | apply tk_bin | apply tk_un)); (· intro w; simp [go_sem, bin]; rfl))
     | ((with_reducible apply sp_newr hs); (· kernel_rfl); intro g w hs))
    refine tx_arr tArr64 (i - 2) (by omega) (by omega) (tx_ld hS .blk (by kernel_rfl) (hg _ (by omega)) ?_)
    repeat with_reducible refine mv.mk ?_
    replace hs := hs.drew
    refine cl (math_bits_RotateLeft32 7 (by decide)) ?_; rintro _ w ⟨rfl, rfl⟩; repeat with_reducible refine mv.mk ?_
    refine cl (math_bits_RotateLeft32 18 (by decide)) ?_; rintro _ w ⟨rfl, rfl⟩; repeat with_reducible refine mv.mk ?_
    repeat (first
     | (with_reducible refine tw_add ?_)
     | (with_reducible refine tw_xor ?_)
     | (with_reducible refine tw_and ?_)
     | (with_reducible refine tw_or ?_)
     | (with_reducible refine tw_not ?_)
     | (with_reducible refine tw_ones ?_)
     | (with_reducible refine sw_add ?_)
     | (with_reducible refine sw_xor ?_)
     | (with_reducible refine sw_and ?_)
     | (with_reducible refine sw_or ?_)
     | (with_reducible refine sw_not ?_)
     | ((with_reducible apply tw_shl); (· decide))
     | ((with_reducible apply tw_shr); (· decide))
     | ((with_reducible apply sw_shl); (· decide))
     | ((with_reducible apply sw_shr); (· decide))
     | ((with_reducible apply tw_of); (· kernel_rfl); (· kernel_rfl))
     | (with_reducible (first | refine mv.mk ?_ | refine nk_p ?_ | refine br_t ?_ | refine br_f ?_))
     | (with_reducible ((first | apply st_bin | apply st_un | apply st_conv | apply st_ixv); intro k' hk; simp [go_sem, thenR_ok, bin]; refine hk _ _ ?_; clear hk k'))
     | ((with_reducible (first | apply tk_bin | apply tk_un)); (· intro w; simp [go_sem, bin]; rfl))
     | ((with_reducible apply sp_newr hs); (· kernel_rfl); intro g w hs))
    refine cl (math_bits_RotateLeft32 17 (by decide)) ?_; rintro _ w ⟨rfl, rfl⟩; repeat with_reducible refine mv.mk ?_
    refine cl (math_bits_RotateLeft32 19 (by decide)) ?_; rintro _ w ⟨rfl, rfl⟩; repeat with_reducible refine mv.mk ?_
    repeat (first
     | (with_reducible refine tw_add ?_)
     | (with_reducible refine tw_xor ?_)
     | (with_reducible refine tw_and ?_)
     | (with_reducible refine tw_or ?_)
     | (with_reducible refine tw_not ?_)
     | (with_reducible refine tw_ones ?_)
     | (with_reducible refine sw_add ?_)
     | (with_reducible refine sw_xor ?_)
     | (with_reducible refine sw_and ?_)
     | (with_reducible refine sw_or ?_)
     | (with_reducible refine sw_not ?_)
     | ((with_reducible apply tw_shl); (· decide))
     | ((with_reducible apply tw_shr); (· decide))
     | ((with_reducible apply sw_shl); (· decide))
     | ((with_reducible apply sw_shr); (· decide))
     | ((with_reducible apply tw_of); (· kernel_rfl); (· kernel_rfl))
     | (with_reducible (first | refine mv.mk ?_ | refine nk_p ?_ | refine br_t ?_ | refine br_f ?_))
     | (with_reducible ((first | apply st_bin | apply st_un | apply st_conv | apply st_ixv); intro k' hk; simp [go_sem, thenR_ok, bin]; refine hk _ _ ?_; clear hk k'))
     | ((with_reducible (first | apply tk_bin | apply tk_un)); (· intro w; simp [go_sem, bin]; rfl))
     | ((with_reducible apply sp_newr hs); (· kernel_rfl); intro g w hs))
    refine dr_can hs.drew .all ?_
    repeat (first
     | ((with_reducible apply tn_add); (· omega))
     | ((with_reducible apply tn_sub); (· omega))
     | ((with_reducible apply tn_mul); (· omega))
     | ((with_reducible apply sn_add); (· omega))
     | ((with_reducible apply sn_sub); (· omega))
     | ((with_reducible apply sn_mul); (· omega))
     | (with_reducible (first | refine mv.mk ?_ | refine nk_p ?_ | refine br_t ?_ | refine br_f ?_))
     | (with_reducible ((first | apply st_bin | apply st_un | apply st_conv | apply st_ixv); intro k' hk; simp [go_sem, thenR_ok, bin]; refine hk _ _ ?_; clear hk k'))
     | ((with_reducible (first | apply tk_bin | apply tk_un)); (· intro w; simp [go_sem, bin]; rfl))
     | ((with_reducible apply sp_newr hs); (· kernel_rfl); intro g w hs))
    refine tx_arr tArr64 (i - 16) (by omega) (by omega) (tx_ld hid .blk (by kernel_rfl) (hg _ (by omega)) ?_)
    repeat (first
     | (with_reducible refine tw_add ?_)
     | (with_reducible refine tw_xor ?_)
     | (with_reducible refine tw_and ?_)
     | (with_reducible refine tw_or ?_)
     | (with_reducible refine tw_not ?_)
     | (with_reducible refine tw_ones ?_)
     | (with_reducible refine sw_add ?_)
     | (with_reducible refine sw_xor ?_)
     | (with_reducible refine sw_and ?_)
     | (with_reducible refine sw_or ?_)
     | (with_reducible refine sw_not ?_)
     | ((with_reducible apply tn_add); (· omega))
     | ((with_reducible apply tn_sub); (· omega))
     | ((with_reducible apply tn_mul); (· omega))
     | ((with_reducible apply sn_add); (· omega))
     | ((with_reducible apply sn_sub); (· omega))
     | ((with_reducible apply sn_mul); (· omega))
     | (with_reducible (first | refine mv.mk ?_ | refine nk_p ?_ | refine br_t ?_ | refine br_f ?_))
     | (with_reducible ((first | apply st_bin | apply st_un | apply st_conv | apply st_ixv); intro k' hk; simp [go_sem, thenR_ok, bin]; refine hk _ _ ?_; clear hk k'))
     | ((with_reducible (first | apply tk_bin | apply tk_un)); (· intro w; simp [go_sem, bin]; rfl))
     | ((with_reducible apply sp_newr hs); (· kernel_rfl); intro g w hs))
    refine tx_arr tArr64 (i - 7) (by omega) (by omega) (tx_ld hid .blk (by kernel_rfl) (hg _ (by omega)) ?_)
    repeat (first
     | (with_reducible refine tw_add ?_)
     | (with_reducible refine tw_xor ?_)
     | (with_reducible refine tw_and ?_)
     | (with_reducible refine tw_or ?_)
     | (with_reducible refine tw_not ?_)
     | (with_reducible refine tw_ones ?_)
     | (with_reducible refine sw_add ?_)
     | (with_reducible refine sw_xor ?_)
     | (with_reducible refine sw_and ?_)
     | (with_reducible refine sw_or ?_)
     | (with_reducible refine sw_not ?_)
     | ((with_reducible apply tn_add); (· omega))
     | ((with_reducible apply tn_sub); (· omega))
     | ((with_reducible apply tn_mul); (· omega))
     | ((with_reducible apply sn_add); (· omega))
     | ((with_reducible apply sn_sub); (· omega))
     | ((with_reducible apply sn_mul); (· omega))
     | (with_reducible (first | refine mv.mk ?_ | refine nk_p ?_ | refine br_t ?_ | refine br_f ?_))
     | (with_reducible ((first | apply st_bin | apply st_un | apply st_conv | apply st_ixv); intro k' hk; simp [go_sem, thenR_ok, bin]; refine hk _ _ ?_; clear hk k'))
     | ((with_reducible (first | apply tk_bin | apply tk_un)); (· intro w; simp [go_sem, bin]; rfl))
     | ((with_reducible apply sp_newr hs); (· kernel_rfl); intro g w hs))
    refine tx_arr tArr64 i rfl (by omega) ?_
    refine sx_st hs.drew .hd (by kernel_rfl) u32v_one (by rw [w32s_len, schL_len (by omega)]; omega) fun w hs => ?_
    repeat (first
     | ((with_reducible apply tn_add); (· omega))
     | ((with_reducible apply tn_sub); (· omega))
     | ((with_reducible apply tn_mul); (· omega))
     | ((with_reducible apply sn_add); (· omega))
     | ((with_reducible apply sn_sub); (· omega))
     | ((with_reducible apply sn_mul); (· omega))
     | (with_reducible (first | refine mv.mk ?_ | refine nk_p ?_ | refine br_t ?_ | refine br_f ?_))
     | (with_reducible ((first | apply st_bin | apply st_un | apply st_conv | apply st_ixv); intro k' hk; simp [go_sem, thenR_ok, bin]; refine hk _ _ ?_; clear hk k'))
     | ((with_reducible (first | apply tk_bin | apply tk_un)); (· intro w; simp [go_sem, bin]; rfl))
     | ((with_reducible apply sp_newr hs); (· kernel_rfl); intro g w hs))
    refine ⟨⟨i + 1, _, _, _, _, rfl, by omega, by omega, ?_⟩, by simp; omega⟩
    rw [show w32s (schL m (i + 1)) = (w32s (schL m i)).set i (u32v (schW m (i - 16) + (rotr (schW m (i - 15)) 7 ^^^ rotr (schW m (i - 15)) 18 ^^^ shrN (schW m (i - 15)) 3) + schW m (i - 7) + (rotr (schW m (i - 2)) 17 ^^^ rotr (schW m (i - 2)) 19 ^^^ shrN (schW m (i - 2)) 10))) by
      rw [← schL_set (by omega), schW_ge (t := i) (by omega), lowS, highS, w32s, w32s, List.map_set]]
    exact hs
  obtain rfl : i = 64 := by have := of_decide_eq_false hq; omega
  clear hq hi hx h16
  have hS : ∀ w', w' = w.drew → Mayr (blkI g4 T.arr64_uint32 (w32s (schL m 64)) :: blkI g T.sha_words (w32s s.list) :: R) w' := fun _ e => e ▸ hs.drew.mayr .all
  repeat (first
   | (with_reducible (first | refine mv.mk ?_ | refine nk_p ?_ | refine br_t ?_ | refine br_f ?_))
   | (with_reducible ((first | apply st_bin | apply st_un | apply st_conv | apply st_ixv); intro k' hk; simp [go_sem, thenR_ok, bin]; refine hk _ _ ?_; clear hk k'))
   | ((with_reducible (first | apply tk_bin | apply tk_un)); (· intro w; simp [go_sem, bin]; rfl))
   | ((with_reducible apply sp_newr hs); (· kernel_rfl); intro g w hs))
  refine tx_arr tWords 0 rfl (by decide) (tx_ld hS (.tl .blk) (x := u32v s.a) (by kernel_rfl) rfl ?_)
  repeat (first
   | (with_reducible (first | refine mv.mk ?_ | refine nk_p ?_ | refine br_t ?_ | refine br_f ?_))
   | (with_reducible ((first | apply st_bin | apply st_un | apply st_conv | apply st_ixv); intro k' hk; simp [go_sem, thenR_ok, bin]; refine hk _ _ ?_; clear hk k'))
   | ((with_reducible (first | apply tk_bin | apply tk_un)); (· intro w; simp [go_sem, bin]; rfl))
   | ((with_reducible apply sp_newr hs); (· kernel_rfl); intro g w hs))
  refine tx_arr tWords 1 rfl (by decide) (tx_ld hS (.tl .blk) (x := u32v s.c) (by kernel_rfl) rfl ?_)
  repeat (first
   | (with_reducible (first | refine mv.mk ?_ | refine nk_p ?_ | refine br_t ?_ | refine br_f ?_))
   | (with_reducible ((first | apply st_bin | apply st_un | apply st_conv | apply st_ixv); intro k' hk; simp [go_sem, thenR_ok, bin]; refine hk _ _ ?_; clear hk k'))
   | ((with_reducible (first | apply tk_bin | apply tk_un)); (· intro w; simp [go_sem, bin]; rfl))
   | ((with_reducible apply sp_newr hs); (· kernel_rfl); intro g w hs))
  refine tx_arr tWords 2 rfl (by decide) (tx_ld hS (.tl .blk) (x := u32v s.d) (by kernel_rfl) rfl ?_)
  repeat (first
   | (with_reducible (first | refine mv.mk ?_ | refine nk_p ?_ | refine br_t ?_ | refine br_f ?_))
   | (with_reducible ((first | apply st_bin | apply st_un | apply st_conv | apply st_ixv); intro k' hk; simp [go_sem, thenR_ok, bin]; refine hk _ _ ?_; clear hk k'))
   | ((with_reducible (first | apply tk_bin | apply tk_un)); (· intro w; simp [go_sem, bin]; rfl))
   | ((with_reducible apply sp_newr hs); (· kernel_rfl); intro g w hs))
  refine tx_arr tWords 3 rfl (by decide) (tx_ld hS (.tl .blk) (x := u32v s.e) (by kernel_rfl) rfl ?_)
  repeat (first
   | (with_reducible (first | refine mv.mk ?_ | refine nk_p ?_ | refine br_t ?_ | refine br_f ?_))
   | (with_reducible ((first | apply st_bin | apply st_un | apply st_conv | apply st_ixv); intro k' hk; simp [go_sem, thenR_ok, bin]; refine hk _ _ ?_; clear hk k'))
   | ((with_reducible (first | apply tk_bin | apply tk_un)); (· intro w; simp [go_sem, bin]; rfl))
   | ((with_reducible apply sp_newr hs); (· kernel_rfl); intro g w hs))
  refine tx_arr tWords 4 rfl (by decide) (tx_ld hS (.tl .blk) (x := u32v s.f) (by kernel_rfl) rfl ?_)
  repeat (first
   | (with_reducible (first | refine mv.mk ?_ | refine nk_p ?_ | refine br_t ?_ | refine br_f ?_))
   | (with_reducible ((first | apply st_bin | apply st_un | apply st_conv | apply st_ixv); intro k' hk; simp [go_sem, thenR_ok, bin]; refine hk _ _ ?_; clear hk k'))
   | ((with_reducible (first | apply tk_bin | apply tk_un)); (· intro w; simp [go_sem, bin]; rfl))
   | ((with_reducible apply sp_newr hs); (· kernel_rfl); intro g w hs))
  refine tx_arr tWords 5 rfl (by decide) (tx_ld hS (.tl .blk) (x := u32v s.g) (by kernel_rfl) rfl ?_)
  repeat (first
   | (with_reducible (first | refine mv.mk ?_ | refine nk_p ?_ | refine br_t ?_ | refine br_f ?_))
   | (with_reducible ((first | apply st_bin | apply st_un | apply st_conv | apply st_ixv); intro k' hk; simp [go_sem, thenR_ok, bin]; refine hk _ _ ?_; clear hk k'))
   | ((with_reducible (first | apply tk_bin | apply tk_un)); (· intro w; simp [go_sem, bin]; rfl))
   | ((with_reducible apply sp_newr hs); (· kernel_rfl); intro g w hs))
  refine tx_arr tWords 6 rfl (by decide) (tx_ld hS (.tl .blk) (x := u32v s.h) (by kernel_rfl) rfl ?_)
  repeat (first
   | (with_reducible (first | refine mv.mk ?_ | refine nk_p ?_ | refine br_t ?_ | refine br_f ?_))
   | (with_reducible ((first | apply st_bin | apply st_un | apply st_conv | apply st_ixv); intro k' hk; simp [go_sem, thenR_ok, bin]; refine hk _ _ ?_; clear hk k'))
   | ((with_reducible (first | apply tk_bin | apply tk_un)); (· intro w; simp [go_sem, bin]; rfl))
   | ((with_reducible apply sp_newr hs); (· kernel_rfl); intro g w hs))
  refine tx_arr tWords 7 rfl (by decide) (tx_ld hS (.tl .blk) (x := u32v s.i) (by kernel_rfl) rfl ?_)
  repeat with_reducible refine mv.mk ?_
  replace hs := hs.drew
  clear hS
  refine lp_by (fun us w' => ∃ (i : Nat) (y1 y2 y3 : Value), us = [u32v (rnds m s i).a, u32v (rnds m s i).c, u32v (rnds m s i).d, u32v (rnds m s i).e, u32v (rnds m s i).f, u32v (rnds m s i).g, u32v (rnds m s i).h, u32v (rnds m s i).i, y1, y2, y3, .int .i64 i] ∧ i ≤ 64 ∧ Sep b w' (blkI g4 T.arr64_uint32 (w32s (schL m 64)) :: blkI g T.sha_words (w32s s.list) :: R)) (fun us _ => match us with | [_, _, _, _, _, _, _, _, _, _, _, .int _ m] => 64 - m.toNat | _ => 0) ⟨0, _, _, _, rfl, by decide, hs⟩ ?_
  clear hs w
  rintro x3 w ⟨i, y1, y2, y3, hx, hi, hs⟩
  simp only [List.cons.injEq, and_true] at hx
  obtain ⟨a1, a2, a3, a4, a5, a6, a7, a8, a9, a10, a11, a12⟩ := hx
  generalize hq0 : rnds m s i = q at *
  simp only [a1, a2, a3, a4, a5, a6, a7, a8, a12]
  repeat (first
   | (with_reducible (first | refine mv.mk ?_ | refine nk_p ?_ | refine br_t ?_ | refine br_f ?_))
   | (with_reducible ((first | apply st_bin | apply st_un | apply st_conv | apply st_ixv); intro k' hk; simp [go_sem, thenR_ok, bin]; refine hk _ _ ?_; clear hk k'))
   | ((with_reducible (first | apply tk_bin | apply tk_un)); (· intro w; simp [go_sem, bin]; rfl))
   | ((with_reducible apply sp_newr hs); (· kernel_rfl); intro g w hs))
  refine br_split (fun hq => ?_) (fun hq => ?_)
  · have hi' : i < 64 := by have := of_decide_eq_true hq; omega
    have hg : (w32s (schL m 64))[i]? = some (u32v (schW m i)) := by rw [w32s, List.getElem?_map, schL_get hi']; rfl
    have hk : (w32s shaK)[i]? = some (u32v (shaK.getD i 0)) := by rw [w32s, List.getElem?_map, List.getD, List.getElem?_eq_getElem (by rw [shaK_len]; exact hi')]; rfl
    replace hs := hs.fact (f := rndF) (hs.get (.tl (.tl hR)))
    repeat with_reducible refine mv.mk ?_
    refine dr_can hs.drew .all ?_
    repeat (first
     | (with_reducible refine tw_add ?_)
     | (with_reducible refine tw_xor ?_)
     | (with_reducible refine tw_and ?_)
     | (with_reducible refine tw_or ?_)
     | (with_reducible refine tw_not ?_)
     | (with_reducible refine tw_ones ?_)
     | (with_reducible refine sw_add ?_)
     | (with_reducible refine sw_xor ?_)
     | (with_reducible refine sw_and ?_)
     | (with_reducible refine sw_or ?_)
     | (with_reducible refine sw_not ?_)
     | (with_reducible (first | refine mv.mk ?_ | refine nk_p ?_ | refine br_t ?_ | refine br_f ?_))
     | (with_reducible ((first | apply st_bin | apply st_un | apply st_conv | apply st_ixv); intro k' hk; simp [go_sem, thenR_ok, bin]; refine hk _ _ ?_; clear hk k'))
     | ((with_reducible (first | apply tk_bin | apply tk_un)); (· intro w; simp [go_sem, bin]; rfl))
     | ((with_reducible apply sp_newr hs); (· kernel_rfl); intro g w hs))
    refine tx_arr tArr64 i rfl hi' (tx_ld hid .rng (by kernel_rfl) hk ?_)
    repeat with_reducible refine mv.mk ?_
    refine tx_arr tArr64 i rfl hi' (tx_ld hid (.tl .blk) (by kernel_rfl) hg ?_)
    replace hs := hs.drew
    have hM : Mayr (rndF.it :: blkI g4 T.arr64_uint32 (w32s (schL m 64)) :: blkI g T.sha_words (w32s s.list) :: R) w.drew := hs.mayr .all
    refine cl (math_bits_RotateLeft32 6 (by decide)) ?_
    rintro _ _ ⟨rfl, rfl⟩
    refine ⟨hM, ?_⟩
    refine cl (math_bits_RotateLeft32 11 (by decide)) ?_
    rintro _ _ ⟨rfl, rfl⟩
    refine ⟨hM, ?_⟩
    repeat (first
     | (with_reducible refine tw_add ?_)
     | (with_reducible refine tw_xor ?_)
     | (with_reducible refine tw_and ?_)
     | (with_reducible refine tw_or ?_)
     | (with_reducible refine tw_not ?_)
     | (with_reducible refine tw_ones ?_)
     | (with_reducible refine sw_add ?_)
     | (with_reducible refine sw_xor ?_)
     | (with_reducible refine sw_and ?_)
     | (with_reducible refine sw_or ?_)
     | (with_reducible refine sw_not ?_)
     | (with_reducible (first | refine mv.mk ?_ | refine nk_p ?_ | refine br_t ?_ | refine br_f ?_))
     | (with_reducible ((first | apply st_bin | apply st_un | apply st_conv | apply st_ixv); intro k' hk; simp [go_sem, thenR_ok, bin]; refine hk _ _ ?_; clear hk k'))
     | ((with_reducible (first | apply tk_bin | apply tk_un)); (· intro w; simp [go_sem, bin]; rfl))
     | ((with_reducible apply sp_newr hs); (· kernel_rfl); intro g w hs))
    refine cl (math_bits_RotateLeft32 25 (by decide)) ?_
    rintro _ _ ⟨rfl, rfl⟩
    refine ⟨hM, ?_⟩
    repeat (first
     | (with_reducible refine tw_add ?_)
     | (with_reducible refine tw_xor ?_)
     | (with_reducible refine tw_and ?_)
     | (with_reducible refine tw_or ?_)
     | (with_reducible refine tw_not ?_)
     | (with_reducible refine tw_ones ?_)
     | (with_reducible refine sw_add ?_)
     | (with_reducible refine sw_xor ?_)
     | (with_reducible refine sw_and ?_)
     | (with_reducible refine sw_or ?_)
     | (with_reducible refine sw_not ?_)
     | (with_reducible (first | refine mv.mk ?_ | refine nk_p ?_ | refine br_t ?_ | refine br_f ?_))
     | (with_reducible ((first | apply st_bin | apply st_un | apply st_conv | apply st_ixv); intro k' hk; simp [go_sem, thenR_ok, bin]; refine hk _ _ ?_; clear hk k'))
     | ((with_reducible (first | apply tk_bin | apply tk_un)); (· intro w; simp [go_sem, bin]; rfl))
     | ((with_reducible apply sp_newr hs); (· kernel_rfl); intro g w hs))
    refine cl (math_bits_RotateLeft32 2 (by decide)) ?_; rintro _ w ⟨rfl, rfl⟩; repeat with_reducible refine mv.mk ?_
    refine cl (math_bits_RotateLeft32 13 (by decide)) ?_; rintro _ w ⟨rfl, rfl⟩; repeat with_reducible refine mv.mk ?_
    repeat (first
     | (with_reducible refine tw_add ?_)
     | (with_reducible refine tw_xor ?_)
     | (with_reducible refine tw_and ?_)
     | (with_reducible refine tw_or ?_)
     | (with_reducible refine tw_not ?_)
     | (with_reducible refine tw_ones ?_)
     | (with_reducible refine sw_add ?_)
     | (with_reducible refine sw_xor ?_)
     | (with_reducible refine sw_and ?_)
     | (with_reducible refine sw_or ?_)
     | (with_reducible refine sw_not ?_)
     | (with_reducible (first | refine mv.mk ?_ | refine nk_p ?_ | refine br_t ?_ | refine br_f ?_))
     | (with_reducible ((first | apply st_bin | apply st_un | apply st_conv | apply st_ixv); intro k' hk; simp [go_sem, thenR_ok, bin]; refine hk _ _ ?_; clear hk k'))
     | ((with_reducible (first | apply tk_bin | apply tk_un)); (· intro w; simp [go_sem, bin]; rfl))
     | ((with_reducible apply sp_newr hs); (· kernel_rfl); intro g w hs))
    refine cl (math_bits_RotateLeft32 22 (by decide)) ?_; rintro _ w ⟨rfl, rfl⟩; repeat with_reducible refine mv.mk ?_
    repeat (first
     | (with_reducible refine tw_add ?_)
     | (with_reducible refine tw_xor ?_)
     | (with_reducible refine tw_and ?_)
     | (with_reducible refine tw_or ?_)
     | (with_reducible refine tw_not ?_)
     | (with_reducible refine tw_ones ?_)
     | (with_reducible refine sw_add ?_)
     | (with_reducible refine sw_xor ?_)
     | (with_reducible refine sw_and ?_)
     | (with_reducible refine sw_or ?_)
     | (with_reducible refine sw_not ?_)
     | ((with_reducible apply tn_add); (· omega))
     | ((with_reducible apply tn_sub); (· omega))
     | ((with_reducible apply tn_mul); (· omega))
     | ((with_reducible apply sn_add); (· omega))
     | ((with_reducible apply sn_sub); (· omega))
     | ((with_reducible apply sn_mul); (· omega))
     | (with_reducible (first | refine mv.mk ?_ | refine nk_p ?_ | refine br_t ?_ | refine br_f ?_))
     | (with_reducible ((first | apply st_bin | apply st_un | apply st_conv | apply st_ixv); intro k' hk; simp [go_sem, thenR_ok, bin]; refine hk _ _ ?_; clear hk k'))
     | ((with_reducible (first | apply tk_bin | apply tk_un)); (· intro w; simp [go_sem, bin]; rfl))
     | ((with_reducible apply sp_newr hs); (· kernel_rfl); intro g w hs))
    have hstep : rnds m s (i + 1) = rnd q (shaK.getD i 0) (schW m i) := by simp only [rnds, hq0]
    refine ⟨⟨i + 1, _, _, _, by rw [hstep]; exact rfl, by omega, hs.drop .hd⟩, by simp; omega⟩
  obtain rfl : i = 64 := by have := of_decide_eq_false hq; omega
  clear hq hi
  repeat with_reducible refine mv.mk ?_
  refine st_build (cells := (w32s q.list).toArray) (by kernel_rfl) ?_
  repeat with_reducible refine mv.mk ?_
  refine lp_by (fun us w' => ∃ (i : Nat) (y1 y2 : Value), us = [y1, y2, .int .i64 i] ∧ i ≤ 8 ∧ Sep b w' (blkI g4 T.arr64_uint32 (w32s (schL m 64)) :: blkI g T.sha_words (w32s (addL s q i)) :: R)) (fun us _ => match us with | [_, _, .int _ m] => 8 - m.toNat | _ => 0) ⟨0, _, _, rfl, by decide, hs⟩ ?_
  clear hs w
  rintro x4 w ⟨i, z1, z2, hx, hi, hs⟩
  simp only [List.cons.injEq, and_true] at hx
  simp only [hx.2.2]
  repeat (first
   | (with_reducible (first | refine mv.mk ?_ | refine nk_p ?_ | refine br_t ?_ | refine br_f ?_))
   | (with_reducible ((first | apply st_bin | apply st_un | apply st_conv | apply st_ixv); intro k' hk; simp [go_sem, thenR_ok, bin]; refine hk _ _ ?_; clear hk k'))
   | ((with_reducible (first | apply tk_bin | apply tk_un)); (· intro w; simp [go_sem, bin]; rfl))
   | ((with_reducible apply sp_newr hs); (· kernel_rfl); intro g w hs))
  refine br_split (fun hq => ?_) (fun hq => ?_)
  · have hi' : i < 8 := by have := of_decide_eq_true hq; omega
    have hgq : (w32s q.list)[i]? = some (u32v (q.list[i]'hi')) := w32s_get hi'
    have hgs : (w32s (addL s q i))[i]? = some (u32v (s.list[i]'hi')) := by rw [w32s, List.getElem?_map, addL_get hi']; rfl
    repeat with_reducible refine mv.mk ?_
    refine st_of (ixv_run tArr8 i rfl hi' hgq rfl w fun e he => by obtain rfl : e = T.uint32 := (by have := he.symm.trans (show Tryz.prog.underlying T.arr8_uint32 = some (.array 8 T.uint32) by kernel_rfl); simpa using this); kernel_rfl) ?_
    repeat with_reducible refine mv.mk ?_
    refine dr_can hs.drew .all ?_
    repeat (first
     | (with_reducible (first | refine mv.mk ?_ | refine nk_p ?_ | refine br_t ?_ | refine br_f ?_))
     | (with_reducible ((first | apply st_bin | apply st_un | apply st_conv | apply st_ixv); intro k' hk; simp [go_sem, thenR_ok, bin]; refine hk _ _ ?_; clear hk k'))
     | ((with_reducible (first | apply tk_bin | apply tk_un)); (· intro w; simp [go_sem, bin]; rfl))
     | ((with_reducible apply sp_newr hs); (· kernel_rfl); intro g w hs))
    refine tx_arr tWords i rfl hi' (tx_ld hid (.tl .blk) (by kernel_rfl) hgs ?_)
    repeat (first
     | (with_reducible refine tw_add ?_)
     | (with_reducible refine tw_xor ?_)
     | (with_reducible refine tw_and ?_)
     | (with_reducible refine tw_or ?_)
     | (with_reducible refine tw_not ?_)
     | (with_reducible refine tw_ones ?_)
     | (with_reducible refine sw_add ?_)
     | (with_reducible refine sw_xor ?_)
     | (with_reducible refine sw_and ?_)
     | (with_reducible refine sw_or ?_)
     | (with_reducible refine sw_not ?_)
     | (with_reducible (first | refine mv.mk ?_ | refine nk_p ?_ | refine br_t ?_ | refine br_f ?_))
     | (with_reducible ((first | apply st_bin | apply st_un | apply st_conv | apply st_ixv); intro k' hk; simp [go_sem, thenR_ok, bin]; refine hk _ _ ?_; clear hk k'))
     | ((with_reducible (first | apply tk_bin | apply tk_un)); (· intro w; simp [go_sem, bin]; rfl))
     | ((with_reducible apply sp_newr hs); (· kernel_rfl); intro g w hs))
    refine tx_arr tWords i rfl hi' ?_
    refine sx_st hs.drew (.tl .hd) (by kernel_rfl) u32v_one (by rw [w32s_len]; simp [addL, S8.list]; omega) fun w hs => ?_
    repeat (first
     | ((with_reducible apply tn_add); (· omega))
     | ((with_reducible apply tn_sub); (· omega))
     | ((with_reducible apply tn_mul); (· omega))
     | ((with_reducible apply sn_add); (· omega))
     | ((with_reducible apply sn_sub); (· omega))
     | ((with_reducible apply sn_mul); (· omega))
     | (with_reducible (first | refine mv.mk ?_ | refine nk_p ?_ | refine br_t ?_ | refine br_f ?_))
     | (with_reducible ((first | apply st_bin | apply st_un | apply st_conv | apply st_ixv); intro k' hk; simp [go_sem, thenR_ok, bin]; refine hk _ _ ?_; clear hk k'))
     | ((with_reducible (first | apply tk_bin | apply tk_un)); (· intro w; simp [go_sem, bin]; rfl))
     | ((with_reducible apply sp_newr hs); (· kernel_rfl); intro g w hs))
    refine ⟨⟨i + 1, _, _, rfl, by omega, ?_⟩, by simp; omega⟩
    rw [show w32s (addL s q (i + 1)) = (w32s (addL s q i)).set i (u32v ((s.list[i]'hi') + (q.list[i]'hi'))) by rw [← addL_set hi', w32s, w32s, List.map_set]]
    exact hs.perm (.swap _ _ _)
  obtain rfl : i = 8 := by have := of_decide_eq_false hq; omega
  subst hq0
  exact (hs.drop .hd)
theorem tArr128 : arrT Tryz.prog T.arr128_uint8 128 = true := by kernel_rfl
theorem tHash : arrT Tryz.prog T.api_Hash 32 = true := by kernel_rfl
theorem z128 : zeroT Tryz.prog T.arr128_uint8 (u8s (List.replicate 128 0)) := zeroT_of (by kernel_rfl)
theorem zHash : zeroT Tryz.prog T.api_Hash (u8s (List.replicate 32 0)) := zeroT_of (by kernel_rfl)
theorem ixW {t1 len : Nat} {e : Nat} (h : Tryz.prog.underlying t1 = some (.array len e)) (h1 : oneT Tryz.prog e = true) : ∀ e', Tryz.prog.underlying t1 = some (.array len e') → oneT Tryz.prog e' = true := fun e' he => by
  rw [h] at he
  simp only [Option.some.injEq, TypeDesc.array.injEq, true_and] at he
  exact he ▸ h1
def szE (r : Bytes) : Nat := if r.length + 9 ≤ 64 then 64 else 128
def endB (s : S8) (r : Bytes) (n : Nat) : Bytes := outS (mixN s (tailL r (szE r) (n * 8)) (szE r / 64))
theorem szE_le (r : Bytes) (h : r.length < 64) : r.length + 9 ≤ szE r ∧ szE r ≤ 128 ∧ 64 * (szE r / 64) = szE r := by unfold szE; split <;> omega
set_option maxHeartbeats 4000000 in
theorem sha_words_end {s : S8} {r : Bytes} {n : Nat} (hs : Sep b w L) (hR : Ins L rndF.it) (hv : Rds L v r.length 1 (u8s r)) (hr : r.length < 64) (hn : n * 8 < 18446744073709551616) :
    C Tryz.prog N.sha_words_end #[.agg (w32s s.list).toArray, v, .int .u64 (n : Int)] w fun r' w' => r' = .agg (u8s (endB s r n)).toArray ∧ Sep b w' L := by
  obtain ⟨hz1, hz2, hz3⟩ := szE_le r hr
  refine C.sha_words_end ?_
  unfold F.sha_words_end
  refine sp_boxa hs fun g3 w hs => ?_
  refine sp_newr hs (by kernel_rfl) fun g6 w hs => ?_
  refine sp_alloc hs z128 fun g7 w hs => ?_
  refine sp_sla tArr128 (by decide) ?_
  repeat with_reducible refine mv.mk ?_
  refine sp_copy hs .hd tByt (.tl (.tl hv)) (u8s_one _) (by simp [u8s]) fun w hs => ?_
  rw [show min r.length 128 = r.length by omega] at hs ⊢
  repeat with_reducible refine mv.mk ?_
  refine sx_arr tArr128 r.length rfl (by omega) ?_
  refine sx_st hs .hd (by kernel_rfl) (u8_cell 128) (by simp [u8s]; omega) fun w hs => ?_
  rw [show ((u8s r).take 128 ++ (u8s (List.replicate 128 0)).drop r.length).set r.length (.int .u8 128) = u8s (tailI r (szE r) (n * 8) 0) by
    change ((u8s r).take 128 ++ (u8s (List.replicate 128 0)).drop r.length).set r.length (.int .u8 (((128 : UInt8).toNat : Nat) : Int)) = _
    rw [List.take_of_length_le (by rw [u8s_length]; omega), u8s_drop, ← u8s_append, u8s_set]
    congr 1
    rw [List.set_append_right _ _ (Nat.le_refl _), Nat.sub_self, List.drop_replicate, show 128 - r.length = (127 - r.length) + 1 by omega, List.replicate_succ, List.set_cons_zero, tailI]
    rw [show (be64 (n * 8)).drop (8 - 0) = [] from rfl]
    simp only [List.append_nil, List.append_assoc, List.cons_append]
    rw [List.replicate_append_replicate]
    congr 3
    omega] at hs
  repeat with_reducible refine mv.mk ?_
  refine sn_add (by omega) ?_
  repeat (first
   | (with_reducible (first | refine mv.mk ?_ | refine br_t ?_ | refine br_f ?_ | refine sp_boxa hs fun g w hs => ?_))
   | (with_reducible ((first | apply st_bin | apply st_conv | apply st_ixv); intro k' hk; simp [go_sem, thenR_ok, bin]; refine hk _ _ ?_; clear hk k'))
   | ((with_reducible apply sp_newr hs); (· kernel_rfl); intro g w hs))
  refine jn_by (fun us w' => us = [.int .i64 (szE r : Nat)] ∧ Sep b w' (blkI g7 T.arr128_uint8 (u8s (tailI r (szE r) (n * 8) 0)) :: resI Tryz.prog g6 T.api_Hash :: blkI g3 T.sha_words (w32s s.list) :: L)) ?_ ?_
  · refine br_split (fun hq => ?_) (fun hq => ?_)
    · have := of_decide_eq_true hq
      repeat with_reducible refine mv.mk ?_
      exact ⟨by rw [szE, if_neg (by omega)]; rfl, hs⟩
    · have := of_decide_eq_false hq
      exact ⟨by rw [szE, if_pos (by omega)]; rfl, hs⟩
  clear hs w
  rintro x1 w ⟨hx1, hs⟩
  simp only [List.cons.injEq, and_true] at hx1
  simp only [hx1]
  clear hx1 x1
  generalize hsz : szE r = sz at *
  repeat with_reducible refine mv.mk ?_
  refine lp_by (fun us w' => ∃ (i : Nat) (y : Value), us = [y, .int .i64 i] ∧ i ≤ 8 ∧ Sep b w' (blkI g7 T.arr128_uint8 (u8s (tailI r sz (n * 8) i)) :: resI Tryz.prog g6 T.api_Hash :: blkI g3 T.sha_words (w32s s.list) :: L)) (fun us _ => match us with | [_, .int _ m] => 8 - m.toNat | _ => 0) ⟨0, _, rfl, Nat.zero_le _, hs⟩ ?_
  clear hs w
  rintro x2 w ⟨i, y, hx, hi, hs⟩
  simp only [List.cons.injEq, and_true] at hx
  simp only [hx.2]
  repeat (first
   | (with_reducible (first | refine mv.mk ?_ | refine br_t ?_ | refine br_f ?_ | refine sp_boxa hs fun g w hs => ?_))
   | (with_reducible ((first | apply st_bin | apply st_conv | apply st_ixv); intro k' hk; simp [go_sem, thenR_ok, bin]; refine hk _ _ ?_; clear hk k'))
   | ((with_reducible apply sp_newr hs); (· kernel_rfl); intro g w hs))
  refine br_split (fun hq => ?_) (fun hq => ?_)
  · have hi' : i < 8 := by have := of_decide_eq_true hq; omega
    repeat with_reducible refine mv.mk ?_
    refine sn_sub (by omega) ?_
    repeat with_reducible refine mv.mk ?_
    refine sn_sub (by omega) ?_
    repeat with_reducible refine mv.mk ?_
    refine st_of (w_mul64 (m := 8) w hn) ?_
    repeat with_reducible refine mv.mk ?_
    refine sn_mul (by omega) ?_
    refine st_of (n_u' w (8 * i) (by omega) (by kernel_rfl) (by kernel_rfl) (by omega)) ?_
    refine st_of (w_shr64 w (8 * i) rfl (by omega)) ?_
    refine st_of (w_byte (by kernel_rfl) (by kernel_rfl) w) ?_
    refine sx_arr tArr128 (sz - 1 - i) (by omega) (by omega) ?_
    refine sx_st hs .hd (by kernel_rfl) (u8_cell _) (by rw [u8s_length, tailI_len (by omega) hz1 hz2]; omega) fun w hs => ?_
    rw [u8s_set, tailI_set hi' hz1 hz2] at hs
    refine sn_add (by omega) ?_
    repeat with_reducible refine mv.mk ?_
    exact ⟨⟨i + 1, _, rfl, by omega, hs⟩, by simp; omega⟩
  obtain rfl : i = 8 := by have := of_decide_eq_false hq; omega
  clear hq hi hx
  rw [tailI_8 hz1 hz2] at hs
  generalize htl : tailL r sz (n * 8) = tl at hs
  have htll : tl.length = sz := by
    rw [← htl]; simp only [tailL, List.length_append, List.length_cons, List.length_replicate, be64_len]; omega
  repeat with_reducible refine mv.mk ?_
  refine lp_by (fun us w' => ∃ (i : Nat), us = [.int .i64 (64 * i : Nat)] ∧ i ≤ sz / 64 ∧ Sep b w' (blkI g3 T.sha_words (w32s (mixN s tl i).list) :: blkI g7 T.arr128_uint8 (u8s (tl ++ List.replicate (128 - sz) 0)) :: resI Tryz.prog g6 T.api_Hash :: L)) (fun us _ => match us with | [.int _ m] => sz - m.toNat | _ => 0) ⟨0, rfl, Nat.zero_le _, hs.sbl (by repeat (first | with_reducible exact Sbl.all | with_reducible exact Sbl.nil | refine Sbl.cons (by first | ((repeat (first | with_reducible exact Has.hd | with_reducible apply Has.tl)); done) | (repeat (first | exact Has.hd | with_reducible apply Has.tl))) ?_ | refine Sbl.drop ?_))⟩ ?_
  clear hs w
  rintro x3 w ⟨i, hx, hi, hs⟩
  simp only [List.cons.injEq, and_true] at hx
  simp only [hx]
  repeat (first
   | (with_reducible (first | refine mv.mk ?_ | refine br_t ?_ | refine br_f ?_ | refine sp_boxa hs fun g w hs => ?_))
   | (with_reducible ((first | apply st_bin | apply st_conv | apply st_ixv); intro k' hk; simp [go_sem, thenR_ok, bin]; refine hk _ _ ?_; clear hk k'))
   | ((with_reducible apply sp_newr hs); (· kernel_rfl); intro g w hs))
  refine br_split (fun hq => ?_) (fun hq => ?_)
  · have hq' : 64 * i < sz := by have := of_decide_eq_true hq; omega
    have hi' : i < sz / 64 := by omega
    repeat with_reducible refine mv.mk ?_
    refine sn_add (by omega) ?_
    refine st_of (sla_mid tArr128 (64 * i) (64 * i + 64) rfl (by omega) (by omega) (by omega) w) ?_
    have hmm : ((tl.drop (64 * i)).take 64).length = 64 := by rw [List.length_take, List.length_drop]; omega
    refine cl (sha_words_mix (m := (tl.drop (64 * i)).take 64) hs .hd .blk hmm (fun j hj => ?_) (by omega) (.tl (.tl hR))) ?_
    · rw [u8s_get _ _ (by rw [List.length_append]; omega)]
      simp only [Option.some.injEq, Value.int.injEq, true_and]
      rw [List.getElem_append_left (by omega), List.getElem_take, List.getElem_drop]
    rintro r1 w hs
    repeat with_reducible refine mv.mk ?_
    refine sn_add (by omega) ?_
    repeat with_reducible refine mv.mk ?_
    refine ⟨⟨i + 1, ?_, by omega, hs⟩, by simp; omega⟩
    simp only [List.cons.injEq, and_true, Value.int.injEq, true_and]
    omega
  obtain rfl : i = sz / 64 := by have := of_decide_eq_false hq; omega
  clear hq hi hx
  repeat with_reducible refine mv.mk ?_
  refine sp_alloc hs zHash fun g12 w hs => ?_
  refine sp_loadall hs (.tl .hd) (by kernel_rfl) (w32s_len _) ?_
  generalize hq0 : mixN s tl (sz / 64) = q at *
  have he : endB s r n = outS q := by rw [endB, hsz, htl, hq0]
  rw [he]
  replace hs := (hs.drop (.tl .hd)).drop (.tl .hd)
  rw [show u8s (List.replicate 32 0) = u8s (outI q (4 * 0)) by simp [outI]] at hs
  repeat with_reducible refine mv.mk ?_
  refine lp_by (fun us w' => ∃ (i : Nat) (y1 y2 y3 y4 : Value), us = [y1, y2, y3, .int .i64 i, y4] ∧ i ≤ 8 ∧ Sep b w' (blkI g12 T.api_Hash (u8s (outI q (4 * i))) :: resI Tryz.prog g6 T.api_Hash :: L)) (fun us _ => match us with | [_, _, _, .int _ m, _] => 8 - m.toNat | _ => 0) ⟨0, _, _, _, _, rfl, Nat.zero_le _, hs⟩ ?_
  clear hs w
  rintro x4 w ⟨i, y1, y2, y3, y4, hx, hi, hs⟩
  simp only [List.cons.injEq, and_true] at hx
  simp only [hx.2.2.2.1]
  repeat (first
   | (with_reducible (first | refine mv.mk ?_ | refine br_t ?_ | refine br_f ?_ | refine sp_boxa hs fun g w hs => ?_))
   | (with_reducible ((first | apply st_bin | apply st_conv | apply st_ixv); intro k' hk; simp [go_sem, thenR_ok, bin]; refine hk _ _ ?_; clear hk k'))
   | ((with_reducible apply sp_newr hs); (· kernel_rfl); intro g w hs))
  refine br_split (fun hq => ?_) (fun hq => ?_)
  · have hi' : i < 8 := by have := of_decide_eq_true hq; omega
    repeat with_reducible refine mv.mk ?_
    refine st_of (ixv_run tWords i rfl hi' (w32s_get (l := q.list) hi') rfl w (ixW (e := T.uint32) (by kernel_rfl) (by kernel_rfl))) ?_
    repeat with_reducible refine mv.mk ?_
    refine lp_by (fun us w' => ∃ (j : Nat) (y : Value), us = [y, .int .i64 j] ∧ j ≤ 4 ∧ Sep b w' (blkI g12 T.api_Hash (u8s (outI q (4 * i + j))) :: resI Tryz.prog g6 T.api_Hash :: L)) (fun us _ => match us with | [_, .int _ m] => 4 - m.toNat | _ => 0) ⟨0, _, rfl, Nat.zero_le _, hs⟩ ?_
    clear hs w
    rintro x5 w ⟨j, y, hx5, hj, hs⟩
    simp only [List.cons.injEq, and_true] at hx5
    simp only [hx5.2]
    repeat (first
     | (with_reducible (first | refine mv.mk ?_ | refine br_t ?_ | refine br_f ?_ | refine sp_boxa hs fun g w hs => ?_))
     | (with_reducible ((first | apply st_bin | apply st_conv | apply st_ixv); intro k' hk; simp [go_sem, thenR_ok, bin]; refine hk _ _ ?_; clear hk k'))
     | ((with_reducible apply sp_newr hs); (· kernel_rfl); intro g w hs))
    refine br_split (fun hq5 => ?_) (fun hq5 => ?_)
    · have hj' : j < 4 := by have := of_decide_eq_true hq5; omega
      repeat with_reducible refine mv.mk ?_
      refine sn_mul (by omega) ?_
      repeat with_reducible refine mv.mk ?_
      refine sn_add (by omega) ?_
      repeat with_reducible refine mv.mk ?_
      refine sn_mul (by omega) ?_
      refine sn_sub (by omega) ?_
      refine st_of (n_u' w (8 * (3 - j)) (by omega) (by kernel_rfl) (by kernel_rfl) (by omega)) ?_
      refine st_of (w_shrN w (8 * (3 - j)) rfl (by omega)) ?_
      refine st_of (w_byte32 (by kernel_rfl) (by kernel_rfl) w) ?_
      refine sx_arr tHash (4 * i + j) (by omega) (by omega) ?_
      refine sx_st hs .hd (by kernel_rfl) (u8_cell _) (by rw [u8s_length, outI_len (by omega)]; omega) fun w hs => ?_
      rw [u8s_set, outI_set (by omega) (outS_get q hi' hj')] at hs
      refine sn_add (by omega) ?_
      repeat with_reducible refine mv.mk ?_
      exact ⟨⟨j + 1, _, rfl, by omega, hs⟩, by simp; omega⟩
    obtain rfl : j = 4 := by have := of_decide_eq_false hq5; omega
    refine sn_add (by omega) ?_
    repeat with_reducible refine mv.mk ?_
    exact ⟨⟨i + 1, _, _, _, _, rfl, by omega, hs⟩, by simp; omega⟩
  obtain rfl : i = 8 := by have := of_decide_eq_false hq; omega
  rw [show 4 * 8 = 32 from rfl, outI_all] at hs
  refine sp_loadall hs .hd (by kernel_rfl) (by rw [u8s_length, outS_len]) ?_
  refine sp_ret hs (.tl .hd) (by kernel_rfl) (by rw [u8s_length, outS_len]) (u8s_one _) fun w hs => ?_
  exact ⟨rfl, hs.drop .hd⟩
/-- an element's bytes out of a slice that stays -/
theorem Sep.rngB {l : List UInt8} (hs : Isk.Sep b w L) (hm : Ins L (byF v l).it) (h0 : 0 < l.length) : ∃ g o c, v = .slice (some ⟨g, o, none⟩) l.length c ∧ Isk.Sep b w ((rngF g o (u8s l)).it :: L) := by
  obtain ⟨⟨A, c, rfl, hc, hl, hr⟩, hS⟩ := hs.get hm
  obtain ⟨g, o, rfl, hr'⟩ := hr (by omega)
  exact ⟨g, o, c, rfl, hs.fact ⟨hr', fun _ => hS (by omega) g rfl⟩⟩
theorem bytesF_slice {l : List UInt8} (hs : Isk.Sep b w L) (hm : Ins L (byF v l).it) : ∃ A c, v = .slice A l.length c := by
  obtain ⟨⟨A, c, rfl, hc, hl, hr⟩, hS⟩ := hs.get hm
  exact ⟨A, c, rfl⟩
theorem sha_start (hs : Isk.Sep b w L) : C Tryz.prog N.sha_start #[] w fun r w' => r = .agg (w32s s0.list).toArray ∧ Isk.Sep b w' L := by
  refine C.sha_start ?_
  unfold F.sha_start
  refine sp_newr hs (by kernel_rfl) fun g w hs => ?_
  refine st_build (cells := (w32s s0.list).toArray) (by kernel_rfl) ?_
  refine sp_ret hs .hd (by kernel_rfl) (w32s_len _) (w32s_one _) fun w hs => ?_
  exact ⟨rfl, hs⟩
theorem byF_drop {l : List UInt8} {n : Nat} {S : Nat → Prop} (hs : Isk.Sep b w L) (hm : Ins L (byF v l).it) (hn : n ≤ l.length) {k : Value → World → Prop} (hk : ∀ v, Isk.Sep b w ((byF v (l.drop n)).it :: L) → k v w) :
    o1 Tryz.prog (Instr.sliceAt T.sl_uint8 v (some (.int .i64 n)) none none) w k := by
  obtain ⟨h1, h2⟩ := hs.get hm
  obtain ⟨v', hr, hs', ho⟩ := sl_from tByt h1 n hn .i64
  refine st_of (hr w) (hk v' (hs.fact (f := byF v' (l.drop n)) ⟨?_, fun h0 k hk => h2 ?_ k (ho ▸ hk)⟩))
  · rw [List.length_drop, ← u8s_drop]
    simpa using hs'
  · simp only [List.length_drop] at h0
    omega
theorem byF_take {l : List UInt8} {n : Nat} (hs : Isk.Sep b w L) (hm : Ins L (byF v l).it) (hn : n ≤ l.length) {k : Value → World → Prop} (hk : ∀ v, Isk.Sep b w ((byF v (l.take n)).it :: L) → k v w) :
    o1 Tryz.prog (Instr.sliceAt T.sl_uint8 v none (some (.int .i64 n)) none) w k := by
  obtain ⟨h1, h2⟩ := hs.get hm
  obtain ⟨v', hr, hs', ho⟩ := sl_to tByt h1 n hn .i64
  refine st_of (hr w) (hk v' (hs.fact (f := byF v' (l.take n)) ⟨?_, fun h0 k hk => h2 ?_ k (ho ▸ hk)⟩))
  · rw [List.length_take, Nat.min_eq_left hn, ← u8s_take]
    simpa using hs'
  · simp only [List.length_take] at h0
    omega
set_option maxHeartbeats 4000000 in
theorem sha_Sum {l : Bytes} (hs : Isk.Sep b w L) (hR : Ins L rndF.it) (hv : Ins L (byF v l).it) (hl : l.length < 1152921504606846976) : C Tryz.prog N.sha_Sum #[v] w fun r w' => r = .agg (u8s (shaB l)).toArray ∧ Isk.Sep b w' L := by
  obtain ⟨A, c, hv0⟩ := bytesF_slice hs hv
  refine C.sha_Sum ?_
  unfold F.sha_Sum
  refine sp_newr hs (by kernel_rfl) fun g2 w hs => ?_
  refine cl (sha_start hs) ?_
  rintro _ w ⟨rfl, hs⟩
  repeat with_reducible refine mv.mk ?_
  have hlen : ∀ w', (Builtin.len_ #[T.sl_uint8] T.int #[v]).run Tryz.prog w' = .ok (.int .i64 l.length) w' := fun w' => by rw [hv0]; simp [go_sem]
  refine st_of (hlen w) ?_
  refine st_of (n_u w (by kernel_rfl) (by kernel_rfl) (by omega)) ?_
  refine sp_newr hs (by kernel_rfl) fun g3 w hs => ?_
  refine sp_setr hs .hd (by kernel_rfl) (w32s_len _) (w32s_one _) fun w hs => ?_
  repeat with_reducible refine mv.mk ?_
  refine lp_by (fun us w' => ∃ (i : Nat) (x : Value), us = [x] ∧ 64 * i ≤ l.length ∧ Isk.Sep b w' ((byF x (l.drop (64 * i))).it :: blkI g3 T.sha_words (w32s (mixN s0 l i).list) :: resI Tryz.prog g2 T.api_Hash :: L)) (fun us _ => match us with | [.slice _ n _] => n | _ => 0) ⟨0, v, rfl, Nat.zero_le _, hs.fact (f := byF v (l.drop (64 * 0))) (hs.get (.tl (.tl hv)))⟩ ?_
  clear hs w
  rintro x1 w ⟨i, x, hx, hi, hs⟩
  simp only [List.cons.injEq, and_true] at hx
  simp only [hx]
  obtain ⟨A1, c1, hx0⟩ := bytesF_slice hs .hd
  rw [hx0]
  repeat (first
   | (with_reducible (first | refine st_lens ?_ | refine mv.mk ?_ | refine br_t ?_ | refine br_f ?_))
   | (with_reducible ((first | apply st_bin | apply st_len | apply st_conv); intro k' hk; simp [go_sem, thenR_ok, bin]; refine hk _ _ ?_; clear hk k'))
   | ((with_reducible apply sp_newr hs); (· kernel_rfl); intro g w hs))
  rw [← hx0]
  refine br_split (fun hq => ?_) (fun hq => ?_)
  · have hq' : 64 ≤ (l.drop (64 * i)).length := by have := of_decide_eq_true hq; rw [List.length_drop]; omega
    have hll := hq'
    rw [List.length_drop] at hll
    repeat with_reducible refine mv.mk ?_
    refine byF_take (n := 64) hs .hd hq' fun y hs => ?_
    have hmm : ((l.drop (64 * i)).take 64).length = 64 := by rw [List.length_take]; omega
    obtain ⟨gb, ob, c2, rfl, hs⟩ := Sep.rngB hs .hd (by omega)
    rw [hmm]
    refine cl (sha_words_mix (m := (l.drop (64 * i)).take 64) (p := 0) hs (by first | ((repeat (first | with_reducible exact Has.hd | with_reducible apply Has.tl)); done) | (repeat (first | exact Has.hd | with_reducible apply Has.tl))) .rng hmm (fun j hj => ?_) (Nat.le_refl _) (.tl (.tl (.tl (.tl hR))))) ?_
    · rw [Nat.zero_add, u8s_get _ _ (by omega)]
    rintro r1 w hs
    repeat with_reducible refine mv.mk ?_
    refine byF_drop (n := 64) (S := fun _ => True) hs (.tl (.tl (.tl .hd))) hq' fun y hs => ?_
    rw [List.drop_drop, ← Nat.mul_succ] at hs
    repeat with_reducible refine mv.mk ?_
    obtain ⟨A3, c3, hy0⟩ := bytesF_slice hs .hd
    refine ⟨⟨i + 1, y, rfl, by omega, hs.sbl (by repeat (first | with_reducible exact Sbl.all | with_reducible exact Sbl.nil | refine Sbl.cons (by first | ((repeat (first | with_reducible exact Has.hd | with_reducible apply Has.tl)); done) | (repeat (first | exact Has.hd | with_reducible apply Has.tl))) ?_ | refine Sbl.drop ?_))⟩, ?_⟩
    rw [hx0, hy0]
    simp only [List.length_drop]
    omega
  have hq' : (l.drop (64 * i)).length < 64 := by have := of_decide_eq_false hq; rw [List.length_drop]; omega
  have hll := hq'
  rw [List.length_drop] at hll
  repeat with_reducible refine mv.mk ?_
  refine sp_loadall hs (.tl .hd) (by kernel_rfl) (w32s_len _) ?_
  repeat with_reducible refine mv.mk ?_
  refine cl (sha_words_end (n := l.length) hs (.tl (.tl (.tl hR))) .byt hq' (by omega)) ?_
  rintro _ w ⟨rfl, hs⟩
  rw [show endB (mixN s0 l i) (l.drop (64 * i)) l.length = shaB l by
    rw [shaB_of (b := l) (r := l.drop (64 * i)) (n := i) (List.take_append_drop _ _).symm (by rw [List.length_drop]; omega) hq' rfl, endB]
    rfl]
  refine sp_ret hs (.tl (.tl .hd)) (by kernel_rfl) (by rw [u8s_length, shaB_len]) (u8s_one _) fun w hs => ?_
  exact ⟨rfl, (hs.drop .hd).drop .hd⟩
end
end Go.Proofs.YtbbmgkbinnomgaaGreatDoor
