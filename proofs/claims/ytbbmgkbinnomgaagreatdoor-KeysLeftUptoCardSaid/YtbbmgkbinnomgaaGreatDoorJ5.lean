/- Records with sums, in the program. -/
import Derived.Test.YtbbmgkbinnomgaaGreatDoorJ4
import Derived.Test.YtbbmgkbinnomgaaGreatDoorK9
set_option linter.unusedVariables false
set_option linter.unusedSimpArgs false
set_option linter.unusedSectionVars false
namespace Go.Proofs.YtbbmgkbinnomgaaGreatDoor
open Go Go.Isk Go.RowKit
set_option maxRecDepth 20000
def crc1 (x : UInt32) : UInt32 := shrN x 1 ^^^ (3988292384 &&& (0 - (x &&& 1)))
def crcN : Nat → UInt32 → UInt32
  | 0, x => x
  | k + 1, x => crc1 (crcN k x)
def crcL (l : Bytes) : UInt32 := l.foldl (fun x c => crcN 8 (x ^^^ b2w c)) 4294967295
def crcB (l : Bytes) : UInt32 := 4294967295 ^^^ crcL l
def sealB (out l : Bytes) : Bytes := out ++ l ++ outW (crcB l)
def headB (n : Nat) : Bytes := sealB [] (outW (UInt32.ofNat n))
def frameB (p : Bytes) : Bytes := sealB (headB p.length) p
theorem outW_len (x : UInt32) : (outW x).length = 4 := rfl
theorem crcL_succ {l : Bytes} {i : Nat} (h : i < l.length) : crcL (l.take (i + 1)) = crcN 8 (crcL (l.take i) ^^^ b2w l[i]) := by
  unfold crcL
  rw [List.take_succ_eq_append_getElem h, List.foldl_append]
  rfl
section
variable {b : Base} {w : World} {L R : List It} {g n : Nat} {v x bv : Value} {l out : List UInt8} {k : Value → World → Prop} {a : UInt32} {q : IntKind}
theorem by_rdsB (hm : Ins L (byF v l).it) : Rds L v l.length 1 (u8s l) := by
  generalize hI : (byF v l).it = I at hm
  induction hm with
  | hd => subst hI; exact .byt
  | tl _ ih => exact .tl (ih hI)
theorem u8_at (h : Sl w v n 1 (u8s l)) {i : Nat} (hn : i < n) (hi : i < l.length) (hk : k (.int .u8 l[i].toNat) w) :
    o1 Tryz.prog (Instr.indexAt T.sl_uint8 v (.int q (i : Nat))) w fun a w => o1 Tryz.prog (Instr.loadAt T.uint8 a) w k := by
  obtain ⟨g, o, hr, hg, _⟩ := idx_at tByt h i hn (q := q)
  refine st_of hr (st_of (load_one (by kernel_rfl) (v := .int .u8 l[i].toNat) ?_) hk)
  have := hg 0 (.int .u8 l[i].toNat) (by simp [u8s, List.getElem?_eq_getElem hi])
  simpa using this
theorem w_neg (w : World) : (Op.unary .neg (u32v a)).run Tryz.prog w = .ok (u32v (0 - a)) w := by
  have h : (Op.unary .neg (u32v a)).run Tryz.prog w = .ok (.int .u32 (IntKind.u32.wrap (-(a.toNat : Int)))) w := by simp [u32v, Op.unary, Op.intArith]
  rw [h, u32v_eq]
  rw [u32_wrap, UInt32.toNat_sub]
  have := a.toNat_lt
  simp
  omega
theorem w_len32 (w : World) (n : Nat) (h : n < 4294967296) : (convert T.int T.uint32 (.int .i64 (n : Int))).run Tryz.prog w = .ok (u32v (UInt32.ofNat n)) w := by
  have h1 : (convert T.int T.uint32 (.int .i64 (n : Int))).run Tryz.prog w = .ok (.int .u32 (IntKind.u32.wrap (n : Int))) w := by simp [go_sem]
  rw [h1, u32v_eq]
  rw [u32_wrap, UInt32.toNat_ofNat']
  omega
theorem frame_Sum (hs : Isk.Sep b w L) (hm : Ins L (byF v l).it) (hl : l.length ≤ 1000000000) : C Tryz.prog N.frame_Sum #[v] w fun r w' => r = u32v (crcB l) ∧ Isk.Sep b w' L := by
  obtain ⟨A, c, hv⟩ := bytesF_slice hs hm
  have hlen : ∀ w', (Builtin.len_ #[T.sl_uint8] T.int #[v]).run Tryz.prog w' = .ok (.int .i64 l.length) w' := fun w' => by rw [hv]; simp [go_sem]
  clear hv
  refine C.frame_Sum ?_
  unfold F.frame_Sum
  repeat with_reducible refine mv.mk ?_
  refine st_of (hlen w) ?_
  repeat with_reducible refine mv.mk ?_
  refine lp_by (fun us w' => ∃ (i : Nat) (y z : Value), us = [u32v (crcL (l.take i)), y, .int .i64 (i : Int), z] ∧ i ≤ l.length ∧ Isk.Sep b w' L) (fun us _ => match us with | [_, _, .int _ m, _] => l.length - m.toNat | _ => 0) ⟨0, _, _, rfl, Nat.zero_le _, hs⟩ ?_
  clear hs
  rintro x1 w ⟨i, y, z, hx1, hi, hs⟩
  simp only [List.cons.injEq, and_true] at hx1
  simp only [hx1.1, hx1.2.1, hx1.2.2.1, hx1.2.2.2]
  repeat (first
   | (with_reducible (first | refine st_lens ?_ | refine mv.mk ?_ | refine br_t ?_ | refine br_f ?_))
   | (with_reducible ((first | apply st_bin | apply st_len | apply st_un | apply st_conv); intro k' hk; simp [go_sem, thenR_ok, bin]; refine hk _ _ ?_; clear hk k')))
  refine br_split (fun hq => ?_) (fun hq => ?_)
  · have hi' : i < l.length := by have := of_decide_eq_true hq; omega
    refine u8_at (hs.get hm).1 hi' hi' ?_
    repeat with_reducible refine mv.mk ?_
    refine st_of (w_ofu8 (by kernel_rfl) (by kernel_rfl) w) ?_
    refine sw_xor ?_
    repeat with_reducible refine mv.mk ?_
    refine lp_by (fun us w' => ∃ (j : Nat), us = [u32v (crcN j (crcL (l.take i) ^^^ b2w l[i])), .int .i64 (j : Int)] ∧ j ≤ 8 ∧ Isk.Sep b w' L) (fun us _ => match us with | [_, .int _ m] => 8 - m.toNat | _ => 0) ⟨0, rfl, Nat.zero_le _, hs⟩ ?_
    clear hs
    rintro x2 w ⟨j, hx2, hj, hs⟩
    simp only [List.cons.injEq, and_true] at hx2
    simp only [hx2.1, hx2.2]
    repeat (first
     | (with_reducible (first | refine st_lens ?_ | refine mv.mk ?_ | refine br_t ?_ | refine br_f ?_))
     | (with_reducible ((first | apply st_bin | apply st_len | apply st_un | apply st_conv); intro k' hk; simp [go_sem, thenR_ok, bin]; refine hk _ _ ?_; clear hk k')))
    refine br_split (fun hq => ?_) (fun hq => ?_)
    · have hj' : j < 8 := by have := of_decide_eq_true hq; omega
      repeat with_reducible refine mv.mk ?_
      refine st_of (w_shrN w 1 rfl (by decide)) ?_
      repeat with_reducible refine mv.mk ?_
      refine sw_and (c := 1) ?_
      refine st_of (w_neg w) ?_
      refine sw_and (a := 3988292384) ?_
      refine sw_xor ?_
      repeat (first
       | (with_reducible (first | refine st_lens ?_ | refine mv.mk ?_ | refine br_t ?_ | refine br_f ?_))
       | (with_reducible ((first | apply st_bin | apply st_len | apply st_un | apply st_conv); intro k' hk; simp [go_sem, thenR_ok, bin]; refine hk _ _ ?_; clear hk k')))
      rw [i64_succ (by omega)]
      exact ⟨⟨j + 1, rfl, hj', hs⟩, by simp; omega⟩
    · obtain rfl : j = 8 := by have := of_decide_eq_false hq; omega
      repeat (first
       | (with_reducible (first | refine st_lens ?_ | refine mv.mk ?_ | refine br_t ?_ | refine br_f ?_))
       | (with_reducible ((first | apply st_bin | apply st_len | apply st_un | apply st_conv); intro k' hk; simp [go_sem, thenR_ok, bin]; refine hk _ _ ?_; clear hk k')))
      rw [i64_succ (by omega)]
      exact ⟨⟨i + 1, _, _, by rw [crcL_succ hi'], hi', hs⟩, by simp; omega⟩
  · obtain rfl : i = l.length := by have := of_decide_eq_false hq; omega
    repeat with_reducible refine mv.mk ?_
    refine sw_not ?_
    repeat with_reducible refine mv.mk ?_
    rw [List.take_length]
    exact ⟨rfl, hs⟩
theorem blk_byF (hs : Isk.Sep b w (blkI g T.uint8 (u8s l) :: R)) (hn : l.length = n) : Isk.Sep b w ((byF (.slice (some ⟨g, 0, none⟩) n n) l).it :: R) := by
  subst hn
  refine hs.freeze .hd fun S hB => ?_
  have hsl := Sl.of_blk (n := l.length) (m := l.length) (o := 0) (sz := 1) (show Blk _ g T.uint8 (u8s l) from hB) (by rw [u8s_length]; omega) (Nat.le_refl _)
  rw [List.drop_zero, List.take_of_length_le (by rw [u8s_length]; omega)] at hsl
  exact SlS.of hsl fun k hk => .inr (by simp [Value.ownBlock] at hk; simp [blkI, hk])
theorem frame_put (hs : Isk.Sep b w L) (hm : Has L (rowI bv T.uint8 1 l.length (u8s l)) R) (hl : l.length ≤ 1000000000) :
    C Tryz.prog N.frame_put #[bv, u32v a] w fun r w' => Isk.Sep b w' (rowI r T.uint8 1 (l ++ outW a).length (u8s (l ++ outW a)) :: R) := by
  refine C.frame_put ?_
  unfold F.frame_put
  repeat with_reducible refine mv.mk ?_
  refine st_of (w_shrN w 24 rfl (by decide)) ?_
  refine st_of (w_byte32 (i := 3) (by kernel_rfl) (by kernel_rfl) w) ?_
  repeat with_reducible refine mv.mk ?_
  refine st_of (w_shrN w 16 rfl (by decide)) ?_
  refine st_of (w_byte32 (i := 2) (by kernel_rfl) (by kernel_rfl) w) ?_
  repeat with_reducible refine mv.mk ?_
  refine st_of (w_shrN w 8 rfl (by decide)) ?_
  refine st_of (w_byte32 (i := 1) (by kernel_rfl) (by kernel_rfl) w) ?_
  repeat with_reducible refine mv.mk ?_
  refine st_of (w_tou8 (by kernel_rfl) (by kernel_rfl) w) ?_
  have h0 : UInt8.ofNat a.toNat = byN a.toNat 0 := by simp [byN]
  rw [h0]
  refine sp_brow (E := T.uint8) (by_ := 1) hs (by kernel_rfl) (outW a) rfl rfl (by decide) (by decide) fun g w hs => ?_
  replace hs := blk_byF hs (n := 4) rfl
  refine sp_appY (m := outW a) hs (.tl hm) .byt (by rw [outW_len]; omega) fun v w hs => ?_
  repeat with_reducible refine mv.mk ?_
  exact hs.sbl (.cons .hd (.drop .all))
theorem frame_sealed (hs : Isk.Sep b w L) (hm : Has L (rowI bv T.uint8 1 out.length (u8s out)) R) (hv : Ins R (byF v l).it) (hl : l.length ≤ 100000000) (ho : out.length ≤ 100000000) :
    C Tryz.prog N.frame_sealed #[bv, v] w fun r w' => Isk.Sep b w' (rowI r T.uint8 1 (sealB out l).length (u8s (sealB out l)) :: R) := by
  refine C.frame_sealed ?_
  unfold F.frame_sealed
  repeat with_reducible refine mv.mk ?_
  refine sp_appY (m := l) hs hm (by_rdsB hv) (by omega) fun u w hs => ?_
  repeat with_reducible refine mv.mk ?_
  refine cl (frame_Sum hs (.tl hv) (by omega)) ?_
  rintro _ w ⟨rfl, hs⟩
  refine cl (frame_put hs .hd (by rw [List.length_append]; omega)) ?_
  rintro r w hs
  repeat with_reducible refine mv.mk ?_
  exact hs
theorem frame_Frame (hs : Isk.Sep b w L) (hv : Ins L (byF v l).it) (h1 : 1 ≤ l.length) (h2 : l.length ≤ 1048576) :
    C Tryz.prog N.frame_Frame #[v] w fun r w' => ∃ u, r = .tuple #[u, .nilIface] ∧ Isk.Sep b w' ((byF u (frameB l)).it :: L) := by
  obtain ⟨A, c, rfl⟩ := bytesF_slice hs hv
  refine C.frame_Frame ?_
  unfold F.frame_Frame
  repeat (first
   | (with_reducible (first | refine st_lens ?_ | refine st_eqls ?_ | refine mv.mk ?_ | refine br_t ?_ | refine br_f ?_))
   | (with_reducible ((first | apply st_bin | apply st_len | apply st_conv); intro k' hk; simp [go_sem, thenR_ok, bin]; refine hk _ _ ?_; clear hk k')))
  rw [show ((l.length : Int) == 0) = false by simp; intro e; rw [e] at h1; exact absurd h1 (by decide)]
  repeat (first
   | (with_reducible (first | refine st_lens ?_ | refine st_eqls ?_ | refine mv.mk ?_ | refine br_t ?_ | refine br_f ?_))
   | (with_reducible ((first | apply st_bin | apply st_len | apply st_conv); intro k' hk; simp [go_sem, thenR_ok, bin]; refine hk _ _ ?_; clear hk k')))
  rw [show decide (1048576 < (l.length : Int)) = false by simp only [decide_eq_false_iff_not]; omega]
  repeat with_reducible refine mv.mk ?_
  refine br_f ?_
  repeat with_reducible refine mv.mk ?_
  refine st_of (v := .int .i64 (l.length : Int)) (w' := w) (by simp [go_sem]) ?_
  refine st_of (w_len32 w l.length (by omega)) ?_
  refine cl (frame_put (l := []) (hs.row0 T.uint8 1) .hd (by decide)) ?_
  rintro t17 w hs
  rw [List.nil_append] at hs
  replace hs := hs.rowB .hd
  refine cl (frame_sealed (out := []) (hs.row0 T.uint8 1) .hd .hd (by rw [outW_len]; decide) (by decide)) ?_
  rintro t18 w hs
  have hhl : (headB l.length).length = 8 := rfl
  repeat with_reducible refine mv.mk ?_
  refine cl (frame_sealed (out := headB l.length) hs .hd (.tl hv) (by omega) (by rw [hhl]; decide)) ?_
  rintro r w hs
  replace hs := hs.rowB .hd
  repeat with_reducible refine mv.mk ?_
  exact ⟨r, rfl, hs.sbl (.cons .hd (.drop .all))⟩
end
end Go.Proofs.YtbbmgkbinnomgaaGreatDoor
