/- The document's SHA-256, walked. -/
import Derived.Test.YtbbmgkbinnomgaaGreatDoorSH
set_option linter.unusedVariables false
set_option linter.unusedSimpArgs false
set_option linter.unusedSectionVars false
namespace Go.Proofs.YtbbmgkbinnomgaaGreatDoor
open Go Go.Isk Go.RowKit
set_option maxRecDepth 20000
section
variable {b : Base} {w : World} {L R : List It} {g : Nat} {v : Value} {cs : List Value}
theorem isthmusref01_turn {x : UInt32} (n : Nat) (h : 1 ≤ n ∧ n ≤ 31) : C Tryz.prog N.isthmusref01_turn #[u32v x, .int .u64 (n : Int)] w fun r w' => r = u32v (rotr x n) ∧ w' = w := by
  refine C.isthmusref01_turn ?_
  unfold F.isthmusref01_turn
  repeat with_reducible refine mv.mk ?_
  refine st_of (w_shrN w n rfl (by omega)) ?_
  repeat (first
   | (with_reducible (first | refine mv.mk ?_))
   | (with_reducible ((first | apply st_bin); intro k' hk; simp [go_sem, thenR_ok, bin]; refine hk _ _ ?_; clear hk k')))
  rw [show IntKind.u64.wrap (32 - (n : Int)) = ((32 - n : Nat) : Int) by rw [u64_wrap]; omega]
  refine sw_shl (i := ((32 - n : Nat) : Int)) (by omega) ?_
  repeat (first
   | (with_reducible refine tw_add ?_)
   | (with_reducible refine tw_xor ?_)
   | (with_reducible refine tw_and ?_)
   | (with_reducible refine tw_or ?_)
   | (with_reducible refine tw_not ?_)
   | (with_reducible refine tw_ones ?_)
   | (with_reducible refine sw_add ?_)
   | (with_reducible refine sw_xor ?_)
   | (with_reducible refine sw_and ?_)
   | (with_reducible refine sw_or ?_)
   | (with_reducible refine sw_not ?_)
   | (with_reducible (first | refine mv.mk ?_))
   | (with_reducible ((first | apply st_bin); intro k' hk; simp [go_sem, thenR_ok, bin]; refine hk _ _ ?_; clear hk k')))
  exact ⟨by simp [rotr, UInt32.or_comm], rfl⟩
theorem isthmusref01_constants (hs : Sep b w L) : C Tryz.prog N.isthmusref01_constants #[] w fun r w' => r = .tuple #[.agg (w32s shaK).toArray, .agg (w32s s0.list).toArray] ∧ Sep b w' L := by
  refine C.isthmusref01_constants ?_
  unfold F.isthmusref01_constants
  refine sp_newr hs (by kernel_rfl) fun g w hs => ?_
  refine sp_newr hs (by kernel_rfl) fun g2 w hs => ?_
  refine st_build (cells := (w32s shaK).toArray) (by kernel_rfl) ?_
  refine st_build (cells := (w32s s0.list).toArray) (by kernel_rfl) ?_
  refine sp_setr hs (.tl .hd) (by kernel_rfl) (w32s_len _) (w32s_one _) fun w hs => ?_
  refine sp_setr hs (.tl .hd) (by kernel_rfl) (w32s_len _) (w32s_one _) fun w hs => ?_
  refine sp_rc hs (.tl .hd) (by kernel_rfl) (w32s_len _) ?_
  refine sp_rc hs .hd (by kernel_rfl) (w32s_len _) ?_
  exact ⟨rfl, (hs.drop .hd).drop .hd⟩
theorem len_rds {n sz : Nat} {xs : List Value} (h : Sep b w L) (hr : Rds L v n sz xs) : ∀ w', (Builtin.len_ #[T.sl_uint8] T.int #[v]).run Tryz.prog w' = .ok (.int .i64 n) w' := fun w' => by
  obtain ⟨A, c, rfl, _⟩ := h.reads hr
  simp [go_sem]
theorem row_slice {n sz : Nat} {xs : List Value} (h : Sep b w L) (hr : Rds L v n sz xs) : ∃ A c, v = .slice A n c := by
  obtain ⟨A, c, rfl, _⟩ := h.reads hr
  exact ⟨A, c, rfl⟩
theorem b8 (x0 x1 x2 x3 x4 x5 x6 x7 : UInt32) : Tryz.prog.built T.arr8_uint32 (#[(0, u32v x0), (1, u32v x1), (2, u32v x2), (3, u32v x3), (4, u32v x4), (5, u32v x5), (6, u32v x6), (7, u32v x7)] : Array (Nat × Value)).toList = some (w32s [x0, x1, x2, x3, x4, x5, x6, x7]).toArray := by kernel_rfl
theorem mv_u32 {x y : UInt32} {k : Value → Prop} (h : x = y) (hk : mv (u32v y) k) : mv (u32v x) k := h ▸ hk
theorem sx_ld {o p : Nat} {x : Value} {T : Nat} {k : Value → World → Prop} (hs : Sep b w L) (hr : Rng L g o cs) (ht : oneT Tryz.prog T = true) (hx : cs[p]? = some x) (hk : k x w) : o1 Tryz.prog (Instr.loadAt T (.pointer (some ⟨g, o + p, none⟩))) w k := sp_ld1 hs hr ht hx hk
theorem sch_alt {m : Bytes} {t : Nat} (h : ¬ t < 16) : (rotr (schW m (t - 2)) 17 ^^^ rotr (schW m (t - 2)) 19 ^^^ shrN (schW m (t - 2)) 10) + schW m (t - 7) + (rotr (schW m (t - 15)) 7 ^^^ rotr (schW m (t - 15)) 18 ^^^ shrN (schW m (t - 15)) 3) + schW m (t - 16) = schW m t := by
  rw [schW_ge h, lowS, highS]
  ac_rfl
theorem pad_more {n j : Nat} (hj : j ≤ padZ n) : ((n + 1 + j) % 64 = 56) ↔ j = padZ n := by
  unfold padZ at hj ⊢
  omega
set_option maxHeartbeats 8000000 in
theorem isthmusref01_Sum {l : Bytes} (hs : Sep b w L) (hv : Ins L (byF v l).it) (hl : l.length < 140737488355000) : C Tryz.prog N.isthmusref01_Sum #[v] w fun r w' => r = .agg (u8s (shaB l)).toArray ∧ Sep b w' L := by
  obtain ⟨A, c, hv0⟩ := bytesF_slice hs hv
  have hlen : ∀ w', (Builtin.len_ #[T.sl_uint8] T.int #[v]).run Tryz.prog w' = .ok (.int .i64 l.length) w' := fun w' => by rw [hv0]; simp [go_sem]
  refine C.isthmusref01_Sum ?_
  unfold F.isthmusref01_Sum
  refine sp_newr hs (by kernel_rfl) fun g2 w hs => ?_
  refine cl (isthmusref01_constants hs) ?_
  rintro _ w ⟨rfl, hs⟩
  repeat with_reducible refine mv.mk ?_
  refine st_ext fun k' hk => ?_; simp [go_sem, thenR_ok]; refine hk _ _ ?_; clear hk k'
  refine st_ext fun k' hk => ?_; simp [go_sem, thenR_ok]; refine hk _ _ ?_; clear hk k'
  refine sp_newr hs (by kernel_rfl) fun g3 w hs => ?_
  refine sp_newr hs (by kernel_rfl) fun g4 w hs => ?_
  refine sp_setr hs (.tl .hd) (by kernel_rfl) (w32s_len _) (w32s_one _) fun w hs => ?_
  refine sp_setr hs (.tl .hd) (by kernel_rfl) (w32s_len _) (w32s_one _) fun w hs => ?_
  repeat with_reducible refine mv.mk ?_
  replace hs := (hs.fact (f := byF v l) (hs.get (.tl (.tl (.tl hv))))).row0 T.uint8 1
  refine sp_app hs .hd tByt (x := v) (ys := u8s l) (m := l.length) .byt (u8s_one _) (by omega) (by omega) fun m1 w hs => ?_
  rw [Nat.zero_add, List.nil_append] at hs
  refine sp_appB (c := 128) hs .hd tByt (by omega) fun m2 w hs => ?_
  repeat with_reducible refine mv.mk ?_
  rw [show (l ++ [128] : Bytes) = l ++ 128 :: List.replicate 0 0 from rfl] at hs
  refine lp_by (fun us w' => ∃ (j : Nat) (x : Value), us = [x] ∧ j ≤ padZ l.length ∧ Sep b w' (rowI x T.uint8 1 (l ++ 128 :: List.replicate j 0).length (u8s (l ++ 128 :: List.replicate j 0)) :: (byF v l).it :: blkI _ T.arr8_uint32 (w32s s0.list) :: blkI _ T.arr64_uint32 (w32s shaK) :: resI Tryz.prog g2 T.api_Hash :: L)) (fun us _ => match us with | [.slice _ n _] => 64 + l.length + 1 - n | _ => 0) ⟨0, m2, rfl, Nat.zero_le _, hs⟩ ?_
  have hpz : padZ l.length < 64 := Nat.mod_lt _ (by decide)
  clear hs w
  rintro x1 w ⟨j, x, hx, hj, hs⟩
  simp only [List.cons.injEq, and_true] at hx
  simp only [hx]
  have hml : (l ++ 128 :: List.replicate j 0 : Bytes).length = l.length + 1 + j := by simp only [List.length_append, List.length_cons, List.length_replicate]; omega
  have hln := len_rds hs .row
  obtain ⟨A4, c4, hm4⟩ := row_slice hs .row
  repeat with_reducible refine mv.mk ?_
  refine st_of (hln w) ?_
  refine st_of (n_rem w (j := l.length + 1 + j) (d := 64) (by rw [hml]) rfl (by decide) (by omega)) ?_
  refine st_of (n_neq w) ?_
  refine br_split (fun hq => ?_) (fun hq => ?_)
  · have hjl : j < padZ l.length := by
      rcases Nat.lt_or_ge j (padZ l.length) with h | h
      · exact h
      · have h1 := (pad_more hj).2 (by omega)
        rw [h1] at hq
        simp at hq
    repeat with_reducible refine mv.mk ?_
    refine sp_appB (c := 0) hs .hd tByt (by rw [hml]; omega) fun m2 w hs => ?_
    repeat with_reducible refine mv.mk ?_
    rw [show (l ++ 128 :: List.replicate j 0 ++ [0] : Bytes) = l ++ 128 :: List.replicate (j + 1) 0 by rw [List.replicate_succ', List.append_assoc, List.cons_append]] at hs
    obtain ⟨A3, c3, hm3⟩ := row_slice hs .row
    refine ⟨⟨j + 1, m2, rfl, hjl, hs⟩, ?_⟩
    subst hm3 hm4
    simp only [List.length_append, List.length_cons, List.length_replicate]
    omega
  have hjz : j = padZ l.length := (pad_more hj).1 (by
    have : ((l.length + 1 + j) % 64 : Nat) = (56 : Int) := by simpa using hq
    omega)
  subst hjz
  clear hq hj
  repeat with_reducible refine mv.mk ?_
  refine st_of (hlen w) ?_
  refine st_of (n_u w (by kernel_rfl) (by kernel_rfl) (by omega)) ?_
  refine st_of (w_mul64 (m := 8) w (by omega)) ?_
  repeat with_reducible refine mv.mk ?_
  rw [show (l ++ 128 :: List.replicate (padZ l.length) 0 : Bytes) = l ++ 128 :: List.replicate (padZ l.length) 0 ++ (be64 (l.length * 8)).take 0 by simp] at hs
  refine lp_by (fun us w' => ∃ (j : Nat) (x : Value), us = [x, .int .i64 (7 - (j : Int))] ∧ j ≤ 8 ∧ Sep b w' (rowI x T.uint8 1 (l ++ 128 :: List.replicate (padZ l.length) 0 ++ (be64 (l.length * 8)).take j).length (u8s (l ++ 128 :: List.replicate (padZ l.length) 0 ++ (be64 (l.length * 8)).take j)) :: (byF v l).it :: blkI _ T.arr8_uint32 (w32s s0.list) :: blkI _ T.arr64_uint32 (w32s shaK) :: resI Tryz.prog g2 T.api_Hash :: L)) (fun us _ => match us with | [_, .int _ m] => (m + 1).toNat | _ => 0) ⟨0, x, rfl, Nat.zero_le _, hs⟩ ?_
  clear hs w hln hx hm4 x
  rintro x2 w ⟨j, x, hx, hj, hs⟩
  simp only [List.cons.injEq, and_true] at hx
  simp only [hx.1, hx.2]
  repeat (first
   | (with_reducible (first | refine st_lens ?_ | refine st_nels ?_ | refine mv.mk ?_ | refine br_t ?_ | refine br_f ?_))
   | (with_reducible ((first | apply st_bin | apply st_ext | apply st_len | apply st_conv); intro k' hk; simp [go_sem, thenR_ok, bin]; refine hk _ _ ?_; clear hk k'))
   | ((with_reducible (first | apply tk_bin)); (· intro w; simp [go_sem, bin]; rfl))
   | ((with_reducible apply sp_newr hs); (· kernel_rfl); intro g w hs))
  refine br_split (fun hq => ?_) (fun hq => ?_)
  · have hj' : j < 8 := by have := of_decide_eq_true hq; omega
    have hml2 : (l ++ 128 :: List.replicate (padZ l.length) 0 ++ (be64 (l.length * 8)).take j : Bytes).length = l.length + 1 + padZ l.length + j := by simp only [List.length_append, List.length_cons, List.length_replicate, List.length_take, be64_len]; omega
    repeat with_reducible refine mv.mk ?_
    refine sn_mul (by omega) ?_
    refine st_of (n_u' w (8 * (7 - j)) (by omega) (by kernel_rfl) (by kernel_rfl) (by omega)) ?_
    refine st_of (w_shr64 w (8 * (7 - j)) rfl (by omega)) ?_
    refine st_of (w_byte (by kernel_rfl) (by kernel_rfl) w) ?_
    refine sp_appB hs .hd tByt (by rw [hml2]; omega) fun m2 w hs => ?_
    rw [show (l ++ 128 :: List.replicate (padZ l.length) 0 ++ (be64 (l.length * 8)).take j ++ [byN (l.length * 8) (7 - j)] : Bytes) = l ++ 128 :: List.replicate (padZ l.length) 0 ++ (be64 (l.length * 8)).take (j + 1) by
      rw [List.append_assoc]
      congr 1
      rw [List.take_succ_eq_append_getElem (by rw [be64_len]; exact hj')]
      congr 2
      have := be64_get (n := l.length * 8) (i := 7 - j) (by omega)
      rw [show 7 - (7 - j) = j by omega, List.getElem?_eq_getElem (by rw [be64_len]; exact hj')] at this
      exact (Option.some.inj this).symm] at hs
    repeat with_reducible refine mv.mk ?_
    refine sn_sub (by omega) ?_
    repeat with_reducible refine mv.mk ?_
    exact ⟨⟨j + 1, m2, by simp; omega, by omega, hs⟩, by simp; omega⟩
  obtain rfl : j = 8 := by have := of_decide_eq_false hq; omega
  clear hq hj hx
  rw [show l ++ 128 :: List.replicate (padZ l.length) 0 ++ (be64 (l.length * 8)).take 8 = padB l from rfl] at hs
  have hpl := padB_len l
  generalize hP : padB l = P at *
  generalize hK : (l.length + 72) / 64 = K at *
  have hK1 : 64 * K ≤ l.length + 72 := by omega
  have hK0 : 0 < K := by omega
  replace hs := hs.rowB .hd
  obtain ⟨gm, om, cm, rfl, hs⟩ := Sep.rngB hs .hd (by omega)
  have hsh : shaB l = outS (mixN s0 P K) := by rw [shaB, hP, hK]
  rw [hsh, hpl]
  have hs : Sep b w (blkI g4 T.arr8_uint32 (w32s (mixN s0 P 0).list) :: blkI g3 T.arr64_uint32 (w32s shaK) :: (rngF gm om (u8s P)).it :: resI Tryz.prog g2 T.api_Hash :: L) := hs.sbl (by repeat (first | with_reducible exact Sbl.all | with_reducible exact Sbl.nil | refine Sbl.cons (by first | ((repeat (first | with_reducible exact Has.hd | with_reducible apply Has.tl)); done) | (repeat (first | exact Has.hd | with_reducible apply Has.tl))) ?_ | refine Sbl.drop ?_))
  have hpK : P.length = 64 * K := hpl
  clear hsh
  repeat with_reducible refine mv.mk ?_
  refine lp_by (fun us w' => ∃ (i : Nat) (y1 y2 y3 y4 y5 y6 y7 y8 y9 y10 : Value), us = [.int .i64 (64 * i : Nat), y1, y2, y3, y4, y5, y6, y7, y8, y9, y10] ∧ i ≤ K ∧ Sep b w' (blkI g4 T.arr8_uint32 (w32s (mixN s0 P i).list) :: blkI g3 T.arr64_uint32 (w32s shaK) :: (rngF gm om (u8s P)).it :: resI Tryz.prog g2 T.api_Hash :: L)) (fun us _ => match us with | .int _ m :: _ => 64 * K - m.toNat | _ => 0) ⟨0, _, _, _, _, _, _, _, _, _, _, rfl, Nat.zero_le _, hs⟩ ?_
  clear hs
  rintro x3 w ⟨i, y1, y2, y3, y4, y5, y6, y7, y8, y9, y10, hx, hi, hs⟩
  simp only [List.cons.injEq, and_true] at hx
  simp only [hx.1]
  clear hx
  repeat (first
   | (with_reducible (first | refine st_lens ?_ | refine st_nels ?_ | refine mv.mk ?_ | refine br_t ?_ | refine br_f ?_))
   | (with_reducible ((first | apply st_bin | apply st_ext | apply st_len | apply st_conv); intro k' hk; simp [go_sem, thenR_ok, bin]; refine hk _ _ ?_; clear hk k'))
   | ((with_reducible (first | apply tk_bin)); (· intro w; simp [go_sem, bin]; rfl))
   | ((with_reducible apply sp_newr hs); (· kernel_rfl); intro g w hs))
  refine br_split (fun hq => ?_) (fun hq => ?_)
  · have hi' : i < K := by have := of_decide_eq_true hq; omega
    generalize hM : (P.drop (64 * i)).take 64 = M
    have hMl : M.length = 64 := by rw [← hM, List.length_take, List.length_drop]; omega
    have hld : ∀ j, j < 64 → ∃ c : UInt8, (u8s P)[64 * i + j]? = some (.int .u8 c.toNat) ∧ M.getD j 0 = c := fun j hj => ⟨P[64 * i + j]'(by omega), u8s_get _ _ (by omega), by
      rw [getD_of (by omega)]
      subst hM
      rw [List.getElem_take, List.getElem_drop]⟩
    refine sp_alloc hs zArr64 fun g9 w hs => ?_
    rw [show schL [] 0 = schL M 0 by simp [schL]] at hs
    repeat with_reducible refine mv.mk ?_
    refine lp_by (fun us w' => ∃ (t : Nat) (y1 y2 y3 : Value), us = [.int .i64 t, y1, y2, y3] ∧ t ≤ 64 ∧ Sep b w' (blkI g9 T.arr64_uint32 (w32s (schL M t)) :: blkI g4 T.arr8_uint32 (w32s (mixN s0 P i).list) :: blkI g3 T.arr64_uint32 (w32s shaK) :: (rngF gm om (u8s P)).it :: resI Tryz.prog g2 T.api_Hash :: L)) (fun us _ => match us with | .int _ m :: _ => 64 - m.toNat | _ => 0) ⟨0, _, _, _, rfl, Nat.zero_le _, hs⟩ ?_
    clear hs w
    rintro x4 w ⟨t, z1, z2, z3, hx, ht, hs⟩
    simp only [List.cons.injEq, and_true] at hx
    simp only [hx.1]
    clear hx
    repeat (first
     | (with_reducible (first | refine st_lens ?_ | refine st_nels ?_ | refine mv.mk ?_ | refine br_t ?_ | refine br_f ?_))
     | (with_reducible ((first | apply st_bin | apply st_ext | apply st_len | apply st_conv); intro k' hk; simp [go_sem, thenR_ok, bin]; refine hk _ _ ?_; clear hk k'))
     | ((with_reducible (first | apply tk_bin)); (· intro w; simp [go_sem, bin]; rfl))
     | ((with_reducible apply sp_newr hs); (· kernel_rfl); intro g w hs))
    refine br_split (fun hq4 => ?_) (fun hq4 => ?_)
    · have ht' : t < 64 := by have := of_decide_eq_true hq4; omega
      refine jn_by (fun us w' => ∃ (y1 y2 y3 : Value), us = [y1, y2, y3] ∧ Sep b w' (blkI g9 T.arr64_uint32 (w32s (schL M (t + 1))) :: blkI g4 T.arr8_uint32 (w32s (mixN s0 P i).list) :: blkI g3 T.arr64_uint32 (w32s shaK) :: (rngF gm om (u8s P)).it :: resI Tryz.prog g2 T.api_Hash :: L)) ?_ ?_
      · repeat (first
         | (with_reducible (first | refine st_lens ?_ | refine st_nels ?_ | refine mv.mk ?_ | refine br_t ?_ | refine br_f ?_))
         | (with_reducible ((first | apply st_bin | apply st_ext | apply st_len | apply st_conv); intro k' hk; simp [go_sem, thenR_ok, bin]; refine hk _ _ ?_; clear hk k'))
         | ((with_reducible (first | apply tk_bin)); (· intro w; simp [go_sem, bin]; rfl))
         | ((with_reducible apply sp_newr hs); (· kernel_rfl); intro g w hs))
        refine br_split (fun hq5 => ?_) (fun hq5 => ?_)
        · have h16 : t < 16 := by have := of_decide_eq_true hq5; omega
          obtain ⟨c0, e0, f0⟩ := hld (4 * t) (by omega)
          obtain ⟨c1, e1, f1⟩ := hld (4 * t + 1) (by omega)
          obtain ⟨c2, e2, f2⟩ := hld (4 * t + 2) (by omega)
          obtain ⟨c3, e3, f3⟩ := hld (4 * t + 3) (by omega)
          repeat with_reducible refine mv.mk ?_
          refine sn_mul (by omega) ?_
          refine sn_add (by omega) ?_
          repeat with_reducible refine mv.mk ?_
          refine dr_can hs.drew .all ?_
          repeat with_reducible refine mv.mk ?_
          refine tx_sl tByt (64 * i + 4 * t) (by omega) (by omega) (tx_ld hid (.tl (.tl (.tl .rng))) (by kernel_rfl) e0 ?_)
          repeat (first
           | ((with_reducible apply tw_shl); (· decide))
           | ((with_reducible apply tw_shr); (· decide))
           | ((with_reducible apply sw_shl); (· decide))
           | ((with_reducible apply sw_shr); (· decide))
           | ((with_reducible apply tw_of); (· kernel_rfl); (· kernel_rfl))
           | ((with_reducible apply tn_add); (· omega))
           | ((with_reducible apply tn_sub); (· omega))
           | ((with_reducible apply tn_mul); (· omega))
           | ((with_reducible apply sn_add); (· omega))
           | ((with_reducible apply sn_sub); (· omega))
           | ((with_reducible apply sn_mul); (· omega))
           | (with_reducible (first | refine st_lens ?_ | refine st_nels ?_ | refine mv.mk ?_ | refine br_t ?_ | refine br_f ?_))
           | (with_reducible ((first | apply st_bin | apply st_ext | apply st_len | apply st_conv); intro k' hk; simp [go_sem, thenR_ok, bin]; refine hk _ _ ?_; clear hk k'))
           | ((with_reducible (first | apply tk_bin)); (· intro w; simp [go_sem, bin]; rfl))
           | ((with_reducible apply sp_newr hs); (· kernel_rfl); intro g w hs))
          refine tx_sl tByt (64 * i + (4 * t + 1)) (by omega) (by omega) (tx_ld hid (.tl (.tl (.tl .rng))) (by kernel_rfl) e1 ?_)
          repeat (first
           | ((with_reducible apply tw_shl); (· decide))
           | ((with_reducible apply tw_shr); (· decide))
           | ((with_reducible apply sw_shl); (· decide))
           | ((with_reducible apply sw_shr); (· decide))
           | ((with_reducible apply tw_of); (· kernel_rfl); (· kernel_rfl))
           | (with_reducible refine tw_add ?_)
           | (with_reducible refine tw_xor ?_)
           | (with_reducible refine tw_and ?_)
           | (with_reducible refine tw_or ?_)
           | (with_reducible refine tw_not ?_)
           | (with_reducible refine tw_ones ?_)
           | (with_reducible refine sw_add ?_)
           | (with_reducible refine sw_xor ?_)
           | (with_reducible refine sw_and ?_)
           | (with_reducible refine sw_or ?_)
           | (with_reducible refine sw_not ?_)
           | ((with_reducible apply tn_add); (· omega))
           | ((with_reducible apply tn_sub); (· omega))
           | ((with_reducible apply tn_mul); (· omega))
           | ((with_reducible apply sn_add); (· omega))
           | ((with_reducible apply sn_sub); (· omega))
           | ((with_reducible apply sn_mul); (· omega))
           | (with_reducible (first | refine st_lens ?_ | refine st_nels ?_ | refine mv.mk ?_ | refine br_t ?_ | refine br_f ?_))
           | (with_reducible ((first | apply st_bin | apply st_ext | apply st_len | apply st_conv); intro k' hk; simp [go_sem, thenR_ok, bin]; refine hk _ _ ?_; clear hk k'))
           | ((with_reducible (first | apply tk_bin)); (· intro w; simp [go_sem, bin]; rfl))
           | ((with_reducible apply sp_newr hs); (· kernel_rfl); intro g w hs))
          refine tx_sl tByt (64 * i + (4 * t + 2)) (by omega) (by omega) (tx_ld hid (.tl (.tl (.tl .rng))) (by kernel_rfl) e2 ?_)
          repeat (first
           | ((with_reducible apply tw_shl); (· decide))
           | ((with_reducible apply tw_shr); (· decide))
           | ((with_reducible apply sw_shl); (· decide))
           | ((with_reducible apply sw_shr); (· decide))
           | ((with_reducible apply tw_of); (· kernel_rfl); (· kernel_rfl))
           | (with_reducible refine tw_add ?_)
           | (with_reducible refine tw_xor ?_)
           | (with_reducible refine tw_and ?_)
           | (with_reducible refine tw_or ?_)
           | (with_reducible refine tw_not ?_)
           | (with_reducible refine tw_ones ?_)
           | (with_reducible refine sw_add ?_)
           | (with_reducible refine sw_xor ?_)
           | (with_reducible refine sw_and ?_)
           | (with_reducible refine sw_or ?_)
           | (with_reducible refine sw_not ?_)
           | ((with_reducible apply tn_add); (· omega))
           | ((with_reducible apply tn_sub); (· omega))
           | ((with_reducible apply tn_mul); (· omega))
           | ((with_reducible apply sn_add); (· omega))
           | ((with_reducible apply sn_sub); (· omega))
           | ((with_reducible apply sn_mul); (· omega))
           | (with_reducible (first | refine st_lens ?_ | refine st_nels ?_ | refine mv.mk ?_ | refine br_t ?_ | refine br_f ?_))
           | (with_reducible ((first | apply st_bin | apply st_ext | apply st_len | apply st_conv); intro k' hk; simp [go_sem, thenR_ok, bin]; refine hk _ _ ?_; clear hk k'))
           | ((with_reducible (first | apply tk_bin)); (· intro w; simp [go_sem, bin]; rfl))
           | ((with_reducible apply sp_newr hs); (· kernel_rfl); intro g w hs))
          refine tx_sl tByt (64 * i + (4 * t + 3)) (by omega) (by omega) (tx_ld hid (.tl (.tl (.tl .rng))) (by kernel_rfl) e3 ?_)
          repeat (first
           | ((with_reducible apply tw_shl); (· decide))
           | ((with_reducible apply tw_shr); (· decide))
           | ((with_reducible apply sw_shl); (· decide))
           | ((with_reducible apply sw_shr); (· decide))
           | ((with_reducible apply tw_of); (· kernel_rfl); (· kernel_rfl))
           | (with_reducible refine tw_add ?_)
           | (with_reducible refine tw_xor ?_)
           | (with_reducible refine tw_and ?_)
           | (with_reducible refine tw_or ?_)
           | (with_reducible refine tw_not ?_)
           | (with_reducible refine tw_ones ?_)
           | (with_reducible refine sw_add ?_)
           | (with_reducible refine sw_xor ?_)
           | (with_reducible refine sw_and ?_)
           | (with_reducible refine sw_or ?_)
           | (with_reducible refine sw_not ?_)
           | ((with_reducible apply tn_add); (· omega))
           | ((with_reducible apply tn_sub); (· omega))
           | ((with_reducible apply tn_mul); (· omega))
           | ((with_reducible apply sn_add); (· omega))
           | ((with_reducible apply sn_sub); (· omega))
           | ((with_reducible apply sn_mul); (· omega))
           | (with_reducible (first | refine st_lens ?_ | refine st_nels ?_ | refine mv.mk ?_ | refine br_t ?_ | refine br_f ?_))
           | (with_reducible ((first | apply st_bin | apply st_ext | apply st_len | apply st_conv); intro k' hk; simp [go_sem, thenR_ok, bin]; refine hk _ _ ?_; clear hk k'))
           | ((with_reducible (first | apply tk_bin)); (· intro w; simp [go_sem, bin]; rfl))
           | ((with_reducible apply sp_newr hs); (· kernel_rfl); intro g w hs))
          refine tx_arr tArr64 t rfl (by omega) ?_
          refine sx_st hs.drew .hd (by kernel_rfl) u32v_one (by rw [w32s_len, schL_len (by omega)]; omega) fun w hs => ?_
          refine ⟨_, _, _, rfl, ?_⟩
          rw [show w32s (schL M (t + 1)) = (w32s (schL M t)).set t (u32v (shlN (b2w c0) 24 ||| shlN (b2w c1) 16 ||| shlN (b2w c2) 8 ||| b2w c3)) by
            rw [← schL_set (by omega), schW_lt h16, be32, f0, f1, f2, f3, w32s, w32s, List.map_set]]
          exact hs
        · have h16 : ¬ t < 16 := by have := of_decide_eq_false hq5; omega
          have hg : ∀ j, j < t → (w32s (schL M t))[j]? = some (u32v (schW M j)) := fun j hj => by rw [w32s, List.getElem?_map, schL_get hj]; rfl
          have hS : ∀ w', w' = w.drew → Mayr (blkI g9 T.arr64_uint32 (w32s (schL M t)) :: blkI g4 T.arr8_uint32 (w32s (mixN s0 P i).list) :: blkI g3 T.arr64_uint32 (w32s shaK) :: (rngF gm om (u8s P)).it :: resI Tryz.prog g2 T.api_Hash :: L) w' := fun _ e => e ▸ hs.drew.mayr .all
          repeat (first
           | ((with_reducible apply tn_add); (· omega))
           | ((with_reducible apply tn_sub); (· omega))
           | ((with_reducible apply tn_mul); (· omega))
           | ((with_reducible apply sn_add); (· omega))
           | ((with_reducible apply sn_sub); (· omega))
           | ((with_reducible apply sn_mul); (· omega))
           | (with_reducible (first | refine st_lens ?_ | refine st_nels ?_ | refine mv.mk ?_ | refine br_t ?_ | refine br_f ?_))
           | (with_reducible ((first | apply st_bin | apply st_ext | apply st_len | apply st_conv); intro k' hk; simp [go_sem, thenR_ok, bin]; refine hk _ _ ?_; clear hk k'))
           | ((with_reducible (first | apply tk_bin)); (· intro w; simp [go_sem, bin]; rfl))
           | ((with_reducible apply sp_newr hs); (· kernel_rfl); intro g w hs))
          refine tx_arr tArr64 (t - 15) (by omega) (by omega) (tx_ld hS .blk (by kernel_rfl) (hg _ (by omega)) ?_)
          repeat (first
           | ((with_reducible apply tn_add); (· omega))
           | ((with_reducible apply tn_sub); (· omega))
           | ((with_reducible apply tn_mul); (· omega))
           | ((with_reducible apply sn_add); (· omega))
           | ((with_reducible apply sn_sub); (· omega))
           | ((with_reducible apply sn_mul); (· omega))
           | (with_reducible (first | refine st_lens ?_ | refine st_nels ?_ | refine mv.mk ?_ | refine br_t ?_ | refine br_f ?_))
           | (with_reducible ((first | apply st_bin | apply st_ext | apply st_len | apply st_conv); intro k' hk; simp [go_sem, thenR_ok, bin]; refine hk _ _ ?_; clear hk k'))
           | ((with_reducible (first | apply tk_bin)); (· intro w; simp [go_sem, bin]; rfl))
           | ((with_reducible apply sp_newr hs); (· kernel_rfl); intro g w hs))
          refine tx_arr tArr64 (t - 2) (by omega) (by omega) (tx_ld hS .blk (by kernel_rfl) (hg _ (by omega)) ?_)
          repeat with_reducible refine mv.mk ?_
          replace hs := hs.drew.drew
          have hMy := hs.mayr .all
          refine dr_can hs .all ?_
          repeat (first
           | ((with_reducible apply tw_shl); (· decide))
           | ((with_reducible apply tw_shr); (· decide))
           | ((with_reducible apply sw_shl); (· decide))
           | ((with_reducible apply sw_shr); (· decide))
           | ((with_reducible apply tw_of); (· kernel_rfl); (· kernel_rfl))
           | ((with_reducible apply tn_add); (· omega))
           | ((with_reducible apply tn_sub); (· omega))
           | ((with_reducible apply tn_mul); (· omega))
           | ((with_reducible apply sn_add); (· omega))
           | ((with_reducible apply sn_sub); (· omega))
           | ((with_reducible apply sn_mul); (· omega))
           | (with_reducible (first | refine st_lens ?_ | refine st_nels ?_ | refine mv.mk ?_ | refine br_t ?_ | refine br_f ?_))
           | (with_reducible ((first | apply st_bin | apply st_ext | apply st_len | apply st_conv); intro k' hk; simp [go_sem, thenR_ok, bin]; refine hk _ _ ?_; clear hk k'))
           | ((with_reducible (first | apply tk_bin)); (· intro w; simp [go_sem, bin]; rfl))
           | ((with_reducible apply sp_newr hs); (· kernel_rfl); intro g w hs))
          refine tx_arr tArr64 (t - 7) (by omega) (by omega) (tx_ld hid .blk (by kernel_rfl) (hg _ (by omega)) ?_)
          repeat (first
           | ((with_reducible apply tw_shl); (· decide))
           | ((with_reducible apply tw_shr); (· decide))
           | ((with_reducible apply sw_shl); (· decide))
           | ((with_reducible apply sw_shr); (· decide))
           | ((with_reducible apply tw_of); (· kernel_rfl); (· kernel_rfl))
           | ((with_reducible apply tn_add); (· omega))
           | ((with_reducible apply tn_sub); (· omega))
           | ((with_reducible apply tn_mul); (· omega))
           | ((with_reducible apply sn_add); (· omega))
           | ((with_reducible apply sn_sub); (· omega))
           | ((with_reducible apply sn_mul); (· omega))
           | (with_reducible (first | refine st_lens ?_ | refine st_nels ?_ | refine mv.mk ?_ | refine br_t ?_ | refine br_f ?_))
           | (with_reducible ((first | apply st_bin | apply st_ext | apply st_len | apply st_conv); intro k' hk; simp [go_sem, thenR_ok, bin]; refine hk _ _ ?_; clear hk k'))
           | ((with_reducible (first | apply tk_bin)); (· intro w; simp [go_sem, bin]; rfl))
           | ((with_reducible apply sp_newr hs); (· kernel_rfl); intro g w hs))
          refine tx_arr tArr64 (t - 16) (by omega) (by omega) (tx_ld hid .blk (by kernel_rfl) (hg _ (by omega)) ?_)
          refine cl (isthmusref01_turn 17 (by decide)) ?_
          rintro _ _ ⟨rfl, rfl⟩
          refine ⟨hMy, ?_⟩
          refine cl (isthmusref01_turn 19 (by decide)) ?_
          rintro _ _ ⟨rfl, rfl⟩
          refine ⟨hMy, ?_⟩
          repeat (first
           | (with_reducible refine tw_add ?_)
           | (with_reducible refine tw_xor ?_)
           | (with_reducible refine tw_and ?_)
           | (with_reducible refine tw_or ?_)
           | (with_reducible refine tw_not ?_)
           | (with_reducible refine tw_ones ?_)
           | (with_reducible refine sw_add ?_)
           | (with_reducible refine sw_xor ?_)
           | (with_reducible refine sw_and ?_)
           | (with_reducible refine sw_or ?_)
           | (with_reducible refine sw_not ?_)
           | (with_reducible (first | refine st_lens ?_ | refine st_nels ?_ | refine mv.mk ?_ | refine br_t ?_ | refine br_f ?_))
           | (with_reducible ((first | apply st_bin | apply st_ext | apply st_len | apply st_conv); intro k' hk; simp [go_sem, thenR_ok, bin]; refine hk _ _ ?_; clear hk k'))
           | ((with_reducible (first | apply tk_bin)); (· intro w; simp [go_sem, bin]; rfl))
           | ((with_reducible apply sp_newr hs); (· kernel_rfl); intro g w hs))
          refine cl (isthmusref01_turn 7 (by decide)) ?_
          rintro _ _ ⟨rfl, rfl⟩
          refine ⟨hMy, ?_⟩
          refine cl (isthmusref01_turn 18 (by decide)) ?_
          rintro _ _ ⟨rfl, rfl⟩
          refine ⟨hMy, ?_⟩
          repeat (first
           | (with_reducible refine tw_add ?_)
           | (with_reducible refine tw_xor ?_)
           | (with_reducible refine tw_and ?_)
           | (with_reducible refine tw_or ?_)
           | (with_reducible refine tw_not ?_)
           | (with_reducible refine tw_ones ?_)
           | (with_reducible refine sw_add ?_)
           | (with_reducible refine sw_xor ?_)
           | (with_reducible refine sw_and ?_)
           | (with_reducible refine sw_or ?_)
           | (with_reducible refine sw_not ?_)
           | (with_reducible (first | refine st_lens ?_ | refine st_nels ?_ | refine mv.mk ?_ | refine br_t ?_ | refine br_f ?_))
           | (with_reducible ((first | apply st_bin | apply st_ext | apply st_len | apply st_conv); intro k' hk; simp [go_sem, thenR_ok, bin]; refine hk _ _ ?_; clear hk k'))
           | ((with_reducible (first | apply tk_bin)); (· intro w; simp [go_sem, bin]; rfl))
           | ((with_reducible apply sp_newr hs); (· kernel_rfl); intro g w hs))
          refine tx_arr tArr64 t rfl (by omega) ?_
          refine sx_st hs .hd (by kernel_rfl) u32v_one (by rw [w32s_len, schL_len (by omega)]; omega) fun w hs => ?_
          refine ⟨_, _, _, rfl, ?_⟩
          rw [show w32s (schL M (t + 1)) = (w32s (schL M t)).set t (u32v ((rotr (schW M (t - 2)) 17 ^^^ rotr (schW M (t - 2)) 19 ^^^ shrN (schW M (t - 2)) 10) + schW M (t - 7) + (rotr (schW M (t - 15)) 7 ^^^ rotr (schW M (t - 15)) 18 ^^^ shrN (schW M (t - 15)) 3) + schW M (t - 16))) by
            rw [sch_alt h16, ← schL_set (by omega), w32s, w32s, List.map_set]]
          exact hs
      · clear hs
        rintro x5 w ⟨z4, z5, z6, hx, hs⟩
        repeat with_reducible refine mv.mk ?_
        refine sn_add (by omega) ?_
        repeat with_reducible refine mv.mk ?_
        exact ⟨⟨t + 1, _, _, _, rfl, by omega, hs⟩, by simp; omega⟩
    obtain rfl : t = 64 := by have := of_decide_eq_false hq4; omega
    clear hq4 ht
    generalize hq0 : mixN s0 P i = q at *
    refine sp_loadall hs (.tl .hd) (by kernel_rfl) (w32s_len _) ?_
    refine sp_newr hs (by kernel_rfl) fun g14 w hs => ?_
    refine sp_setr hs .hd (by kernel_rfl) (w32s_len _) (w32s_one _) fun w hs => ?_
    repeat with_reducible refine mv.mk ?_
    refine lp_by (fun us w' => ∃ (t : Nat) (y1 y2 y3 y4 : Value), us = [.int .i64 t, y1, y2, y3, y4] ∧ t ≤ 64 ∧ Sep b w' (blkI g14 T.arr8_uint32 (w32s (rnds M q t).list) :: blkI g9 T.arr64_uint32 (w32s (schL M 64)) :: blkI g4 T.arr8_uint32 (w32s q.list) :: blkI g3 T.arr64_uint32 (w32s shaK) :: (rngF gm om (u8s P)).it :: resI Tryz.prog g2 T.api_Hash :: L)) (fun us _ => match us with | .int _ m :: _ => 64 - m.toNat | _ => 0) ⟨0, _, _, _, _, rfl, Nat.zero_le _, hs⟩ ?_
    clear hs w
    rintro x6 w ⟨t, z4, z5, z6, z7, hx, ht, hs⟩
    simp only [List.cons.injEq, and_true] at hx
    simp only [hx.1]
    clear hx
    generalize hr0 : rnds M q t = r at hs
    repeat (first
     | (with_reducible (first | refine st_lens ?_ | refine st_nels ?_ | refine mv.mk ?_ | refine br_t ?_ | refine br_f ?_))
     | (with_reducible ((first | apply st_bin | apply st_ext | apply st_len | apply st_conv); intro k' hk; simp [go_sem, thenR_ok, bin]; refine hk _ _ ?_; clear hk k'))
     | ((with_reducible (first | apply tk_bin)); (· intro w; simp [go_sem, bin]; rfl))
     | ((with_reducible apply sp_newr hs); (· kernel_rfl); intro g w hs))
    refine br_split (fun hq4 => ?_) (fun hq4 => ?_)
    · have ht' : t < 64 := by have := of_decide_eq_true hq4; omega
      have hg : (w32s (schL M 64))[t]? = some (u32v (schW M t)) := by rw [w32s, List.getElem?_map, schL_get ht']; rfl
      have hk : (w32s shaK)[t]? = some (u32v (shaK.getD t 0)) := by rw [w32s, List.getElem?_map, List.getD, List.getElem?_eq_getElem (by rw [shaK_len]; exact ht')]; rfl
      have hS : ∀ w', w' = w.drew → Mayr (blkI g14 T.arr8_uint32 (w32s r.list) :: blkI g9 T.arr64_uint32 (w32s (schL M 64)) :: blkI g4 T.arr8_uint32 (w32s q.list) :: blkI g3 T.arr64_uint32 (w32s shaK) :: (rngF gm om (u8s P)).it :: resI Tryz.prog g2 T.api_Hash :: L) w' := fun _ e => e ▸ hs.drew.mayr .all
      refine tx_arr tArr8 4 rfl (by decide) (tx_ld hS .blk (x := u32v r.f) (by kernel_rfl) rfl ?_)
      refine tx_arr tArr8 0 rfl (by decide) (tx_ld hS .blk (x := u32v r.a) (by kernel_rfl) rfl ?_)
      repeat with_reducible refine mv.mk ?_
      replace hs := hs.drew.drew
      have hMy := hs.mayr .all
      refine dr_can hs .all ?_
      refine tx_arr tArr8 7 rfl (by decide) (tx_ld hid .blk (x := u32v r.i) (by kernel_rfl) rfl ?_)
      repeat with_reducible refine mv.mk ?_
      refine tx_arr tArr8 5 rfl (by decide) (tx_ld hid .blk (x := u32v r.g) (by kernel_rfl) rfl ?_)
      repeat (first
       | (with_reducible refine tw_add ?_)
       | (with_reducible refine tw_xor ?_)
       | (with_reducible refine tw_and ?_)
       | (with_reducible refine tw_or ?_)
       | (with_reducible refine tw_not ?_)
       | (with_reducible refine tw_ones ?_)
       | (with_reducible refine sw_add ?_)
       | (with_reducible refine sw_xor ?_)
       | (with_reducible refine sw_and ?_)
       | (with_reducible refine sw_or ?_)
       | (with_reducible refine sw_not ?_)
       | (with_reducible (first | refine st_lens ?_ | refine st_nels ?_ | refine mv.mk ?_ | refine br_t ?_ | refine br_f ?_))
       | (with_reducible ((first | apply st_bin | apply st_ext | apply st_len | apply st_conv); intro k' hk; simp [go_sem, thenR_ok, bin]; refine hk _ _ ?_; clear hk k'))
       | ((with_reducible (first | apply tk_bin)); (· intro w; simp [go_sem, bin]; rfl))
       | ((with_reducible apply sp_newr hs); (· kernel_rfl); intro g w hs))
      refine tx_arr tArr8 6 rfl (by decide) (tx_ld hid .blk (x := u32v r.h) (by kernel_rfl) rfl ?_)
      repeat (first
       | (with_reducible refine tw_add ?_)
       | (with_reducible refine tw_xor ?_)
       | (with_reducible refine tw_and ?_)
       | (with_reducible refine tw_or ?_)
       | (with_reducible refine tw_not ?_)
       | (with_reducible refine tw_ones ?_)
       | (with_reducible refine sw_add ?_)
       | (with_reducible refine sw_xor ?_)
       | (with_reducible refine sw_and ?_)
       | (with_reducible refine sw_or ?_)
       | (with_reducible refine sw_not ?_)
       | (with_reducible (first | refine st_lens ?_ | refine st_nels ?_ | refine mv.mk ?_ | refine br_t ?_ | refine br_f ?_))
       | (with_reducible ((first | apply st_bin | apply st_ext | apply st_len | apply st_conv); intro k' hk; simp [go_sem, thenR_ok, bin]; refine hk _ _ ?_; clear hk k'))
       | ((with_reducible (first | apply tk_bin)); (· intro w; simp [go_sem, bin]; rfl))
       | ((with_reducible apply sp_newr hs); (· kernel_rfl); intro g w hs))
      refine tx_arr tArr64 t rfl ht' (tx_ld hid (.tl (.tl (.tl .blk))) (by kernel_rfl) hk ?_)
      repeat with_reducible refine mv.mk ?_
      refine tx_arr tArr64 t rfl ht' (tx_ld hid (.tl .blk) (by kernel_rfl) hg ?_)
      refine cl (isthmusref01_turn 6 (by decide)) ?_
      rintro _ _ ⟨rfl, rfl⟩
      refine ⟨hMy, ?_⟩
      refine cl (isthmusref01_turn 11 (by decide)) ?_
      rintro _ _ ⟨rfl, rfl⟩
      refine ⟨hMy, ?_⟩
      repeat (first
       | (with_reducible refine tw_add ?_)
       | (with_reducible refine tw_xor ?_)
       | (with_reducible refine tw_and ?_)
       | (with_reducible refine tw_or ?_)
       | (with_reducible refine tw_not ?_)
       | (with_reducible refine tw_ones ?_)
       | (with_reducible refine sw_add ?_)
       | (with_reducible refine sw_xor ?_)
       | (with_reducible refine sw_and ?_)
       | (with_reducible refine sw_or ?_)
       | (with_reducible refine sw_not ?_)
       | (with_reducible (first | refine st_lens ?_ | refine st_nels ?_ | refine mv.mk ?_ | refine br_t ?_ | refine br_f ?_))
       | (with_reducible ((first | apply st_bin | apply st_ext | apply st_len | apply st_conv); intro k' hk; simp [go_sem, thenR_ok, bin]; refine hk _ _ ?_; clear hk k'))
       | ((with_reducible (first | apply tk_bin)); (· intro w; simp [go_sem, bin]; rfl))
       | ((with_reducible apply sp_newr hs); (· kernel_rfl); intro g w hs))
      refine cl (isthmusref01_turn 25 (by decide)) ?_
      rintro _ _ ⟨rfl, rfl⟩
      refine ⟨hMy, ?_⟩
      refine tw_xor ?_
      refine tw_add ?_
      refine tw_add ?_
      refine tw_add ?_
      refine tw_add ?_
      refine mv_u32 (y := oneW r (shaK.getD t 0) (schW M t)) (by rw [oneW, xor_or]) ?_
      repeat with_reducible refine mv.mk ?_
      replace hs := hs.drew
      have hMy := hs.mayr .all
      refine dr_can hs .all ?_
      repeat with_reducible refine mv.mk ?_
      refine tx_arr tArr8 1 rfl (by decide) (tx_ld hid .blk (x := u32v r.c) (by kernel_rfl) rfl ?_)
      repeat (first
       | (with_reducible refine tw_add ?_)
       | (with_reducible refine tw_xor ?_)
       | (with_reducible refine tw_and ?_)
       | (with_reducible refine tw_or ?_)
       | (with_reducible refine tw_not ?_)
       | (with_reducible refine tw_ones ?_)
       | (with_reducible refine sw_add ?_)
       | (with_reducible refine sw_xor ?_)
       | (with_reducible refine sw_and ?_)
       | (with_reducible refine sw_or ?_)
       | (with_reducible refine sw_not ?_)
       | (with_reducible (first | refine st_lens ?_ | refine st_nels ?_ | refine mv.mk ?_ | refine br_t ?_ | refine br_f ?_))
       | (with_reducible ((first | apply st_bin | apply st_ext | apply st_len | apply st_conv); intro k' hk; simp [go_sem, thenR_ok, bin]; refine hk _ _ ?_; clear hk k'))
       | ((with_reducible (first | apply tk_bin)); (· intro w; simp [go_sem, bin]; rfl))
       | ((with_reducible apply sp_newr hs); (· kernel_rfl); intro g w hs))
      refine tx_arr tArr8 2 rfl (by decide) (tx_ld hid .blk (x := u32v r.d) (by kernel_rfl) rfl ?_)
      repeat (first
       | (with_reducible refine tw_add ?_)
       | (with_reducible refine tw_xor ?_)
       | (with_reducible refine tw_and ?_)
       | (with_reducible refine tw_or ?_)
       | (with_reducible refine tw_not ?_)
       | (with_reducible refine tw_ones ?_)
       | (with_reducible refine sw_add ?_)
       | (with_reducible refine sw_xor ?_)
       | (with_reducible refine sw_and ?_)
       | (with_reducible refine sw_or ?_)
       | (with_reducible refine sw_not ?_)
       | (with_reducible (first | refine st_lens ?_ | refine st_nels ?_ | refine mv.mk ?_ | refine br_t ?_ | refine br_f ?_))
       | (with_reducible ((first | apply st_bin | apply st_ext | apply st_len | apply st_conv); intro k' hk; simp [go_sem, thenR_ok, bin]; refine hk _ _ ?_; clear hk k'))
       | ((with_reducible (first | apply tk_bin)); (· intro w; simp [go_sem, bin]; rfl))
       | ((with_reducible apply sp_newr hs); (· kernel_rfl); intro g w hs))
      refine tx_arr tArr8 1 rfl (by decide) (tx_ld hid .blk (x := u32v r.c) (by kernel_rfl) rfl ?_)
      refine tx_arr tArr8 2 rfl (by decide) (tx_ld hid .blk (x := u32v r.d) (by kernel_rfl) rfl ?_)
      repeat (first
       | (with_reducible refine tw_add ?_)
       | (with_reducible refine tw_xor ?_)
       | (with_reducible refine tw_and ?_)
       | (with_reducible refine tw_or ?_)
       | (with_reducible refine tw_not ?_)
       | (with_reducible refine tw_ones ?_)
       | (with_reducible refine sw_add ?_)
       | (with_reducible refine sw_xor ?_)
       | (with_reducible refine sw_and ?_)
       | (with_reducible refine sw_or ?_)
       | (with_reducible refine sw_not ?_)
       | (with_reducible (first | refine st_lens ?_ | refine st_nels ?_ | refine mv.mk ?_ | refine br_t ?_ | refine br_f ?_))
       | (with_reducible ((first | apply st_bin | apply st_ext | apply st_len | apply st_conv); intro k' hk; simp [go_sem, thenR_ok, bin]; refine hk _ _ ?_; clear hk k'))
       | ((with_reducible (first | apply tk_bin)); (· intro w; simp [go_sem, bin]; rfl))
       | ((with_reducible apply sp_newr hs); (· kernel_rfl); intro g w hs))
      refine cl (isthmusref01_turn 2 (by decide)) ?_
      rintro _ _ ⟨rfl, rfl⟩
      refine ⟨hMy, ?_⟩
      refine cl (isthmusref01_turn 13 (by decide)) ?_
      rintro _ _ ⟨rfl, rfl⟩
      refine ⟨hMy, ?_⟩
      repeat (first
       | (with_reducible refine tw_add ?_)
       | (with_reducible refine tw_xor ?_)
       | (with_reducible refine tw_and ?_)
       | (with_reducible refine tw_or ?_)
       | (with_reducible refine tw_not ?_)
       | (with_reducible refine tw_ones ?_)
       | (with_reducible refine sw_add ?_)
       | (with_reducible refine sw_xor ?_)
       | (with_reducible refine sw_and ?_)
       | (with_reducible refine sw_or ?_)
       | (with_reducible refine sw_not ?_)
       | (with_reducible (first | refine st_lens ?_ | refine st_nels ?_ | refine mv.mk ?_ | refine br_t ?_ | refine br_f ?_))
       | (with_reducible ((first | apply st_bin | apply st_ext | apply st_len | apply st_conv); intro k' hk; simp [go_sem, thenR_ok, bin]; refine hk _ _ ?_; clear hk k'))
       | ((with_reducible (first | apply tk_bin)); (· intro w; simp [go_sem, bin]; rfl))
       | ((with_reducible apply sp_newr hs); (· kernel_rfl); intro g w hs))
      refine cl (isthmusref01_turn 22 (by decide)) ?_
      rintro _ _ ⟨rfl, rfl⟩
      refine ⟨hMy, ?_⟩
      refine tw_xor ?_
      refine tw_add ?_
      refine mv_u32 (y := twoW r) (by rw [twoW, maj_or]) ?_
      repeat with_reducible refine mv.mk ?_
      obtain ⟨X, hX⟩ : ∃ X, oneW r (shaK.getD t 0) (schW M t) = X := ⟨_, rfl⟩
      obtain ⟨Y, hY⟩ : ∃ Y, twoW r = Y := ⟨_, rfl⟩
      rw [hX, hY]
      refine sw_add ?_
      refine sx_arr tArr8 0 rfl (by decide) (sx_ld hs .blk (x := u32v r.a) (by kernel_rfl) rfl ?_)
      refine sx_arr tArr8 1 rfl (by decide) (sx_ld hs .blk (x := u32v r.c) (by kernel_rfl) rfl ?_)
      refine sx_arr tArr8 2 rfl (by decide) (sx_ld hs .blk (x := u32v r.d) (by kernel_rfl) rfl ?_)
      refine sx_arr tArr8 3 rfl (by decide) (sx_ld hs .blk (x := u32v r.e) (by kernel_rfl) rfl ?_)
      repeat with_reducible refine mv.mk ?_
      refine sw_add ?_
      refine sx_arr tArr8 4 rfl (by decide) (sx_ld hs .blk (x := u32v r.f) (by kernel_rfl) rfl ?_)
      refine sx_arr tArr8 5 rfl (by decide) (sx_ld hs .blk (x := u32v r.g) (by kernel_rfl) rfl ?_)
      refine sx_arr tArr8 6 rfl (by decide) (sx_ld hs .blk (x := u32v r.h) (by kernel_rfl) rfl ?_)
      refine st_build (b8 _ _ _ _ _ _ _ _) ?_
      refine sp_all hs .hd (by kernel_rfl) (w32s_len _) (w32s_len _) (w32s_one _) fun w hs => ?_
      repeat with_reducible refine mv.mk ?_
      refine sn_add (by omega) ?_
      repeat with_reducible refine mv.mk ?_
      have hstep : (rnds M q (t + 1)).list = [X + Y, r.a, r.c, r.d, r.e + X, r.f, r.g, r.h] := by simp only [rnds, hr0, rnd, hX, hY, S8.list]
      exact ⟨⟨t + 1, _, _, _, _, rfl, by omega, by rw [hstep]; exact hs⟩, by simp; omega⟩
    obtain rfl : t = 64 := by have := of_decide_eq_false hq4; omega
    clear hq4 ht
    repeat with_reducible refine mv.mk ?_
    refine lp_by (fun us w' => ∃ (j : Nat), us = [.int .i64 j] ∧ j ≤ 8 ∧ Sep b w' (blkI g4 T.arr8_uint32 (w32s (addL q r j)) :: blkI g14 T.arr8_uint32 (w32s r.list) :: blkI g3 T.arr64_uint32 (w32s shaK) :: (rngF gm om (u8s P)).it :: resI Tryz.prog g2 T.api_Hash :: L)) (fun us _ => match us with | .int _ m :: _ => 8 - m.toNat | _ => 0) ⟨0, rfl, Nat.zero_le _, hs.sbl (by repeat (first | with_reducible exact Sbl.all | with_reducible exact Sbl.nil | refine Sbl.cons (by first | ((repeat (first | with_reducible exact Has.hd | with_reducible apply Has.tl)); done) | (repeat (first | exact Has.hd | with_reducible apply Has.tl))) ?_ | refine Sbl.drop ?_))⟩ ?_
    clear hs w
    rintro x7 w ⟨j, hx, hj, hs⟩
    simp only [List.cons.injEq, and_true] at hx
    simp only [hx]
    clear hx
    repeat (first
     | (with_reducible (first | refine st_lens ?_ | refine st_nels ?_ | refine mv.mk ?_ | refine br_t ?_ | refine br_f ?_))
     | (with_reducible ((first | apply st_bin | apply st_ext | apply st_len | apply st_conv); intro k' hk; simp [go_sem, thenR_ok, bin]; refine hk _ _ ?_; clear hk k'))
     | ((with_reducible (first | apply tk_bin)); (· intro w; simp [go_sem, bin]; rfl))
     | ((with_reducible apply sp_newr hs); (· kernel_rfl); intro g w hs))
    refine br_split (fun hq4 => ?_) (fun hq4 => ?_)
    · have hj' : j < 8 := by have := of_decide_eq_true hq4; omega
      have hgr : (w32s r.list)[j]? = some (u32v (r.list[j]'hj')) := w32s_get hj'
      have hgs : (w32s (addL q r j))[j]? = some (u32v (q.list[j]'hj')) := by rw [w32s, List.getElem?_map, addL_get hj']; rfl
      refine dr_can hs.drew .all ?_
      repeat with_reducible refine mv.mk ?_
      refine tx_arr tArr8 j rfl hj' (tx_ld hid .blk (by kernel_rfl) hgs ?_)
      repeat with_reducible refine mv.mk ?_
      refine tx_arr tArr8 j rfl hj' (tx_ld hid (.tl .blk) (by kernel_rfl) hgr ?_)
      repeat (first
       | (with_reducible refine tw_add ?_)
       | (with_reducible refine tw_xor ?_)
       | (with_reducible refine tw_and ?_)
       | (with_reducible refine tw_or ?_)
       | (with_reducible refine tw_not ?_)
       | (with_reducible refine tw_ones ?_)
       | (with_reducible refine sw_add ?_)
       | (with_reducible refine sw_xor ?_)
       | (with_reducible refine sw_and ?_)
       | (with_reducible refine sw_or ?_)
       | (with_reducible refine sw_not ?_)
       | (with_reducible (first | refine st_lens ?_ | refine st_nels ?_ | refine mv.mk ?_ | refine br_t ?_ | refine br_f ?_))
       | (with_reducible ((first | apply st_bin | apply st_ext | apply st_len | apply st_conv); intro k' hk; simp [go_sem, thenR_ok, bin]; refine hk _ _ ?_; clear hk k'))
       | ((with_reducible (first | apply tk_bin)); (· intro w; simp [go_sem, bin]; rfl))
       | ((with_reducible apply sp_newr hs); (· kernel_rfl); intro g w hs))
      refine tx_arr tArr8 j rfl hj' ?_
      refine sx_st hs.drew .hd (by kernel_rfl) u32v_one (by rw [w32s_len]; simp [addL, S8.list]; omega) fun w hs => ?_
      repeat with_reducible refine mv.mk ?_
      refine sn_add (by omega) ?_
      repeat with_reducible refine mv.mk ?_
      refine ⟨⟨j + 1, rfl, by omega, ?_⟩, by simp; omega⟩
      rw [show w32s (addL q r (j + 1)) = (w32s (addL q r j)).set j (u32v ((q.list[j]'hj') + (r.list[j]'hj'))) by rw [← addL_set hj', w32s, w32s, List.map_set]]
      exact hs
    obtain rfl : j = 8 := by have := of_decide_eq_false hq4; omega
    repeat with_reducible refine mv.mk ?_
    refine sn_add (by omega) ?_
    repeat with_reducible refine mv.mk ?_
    refine ⟨⟨i + 1, _, _, _, _, _, _, _, _, _, _, by simp only [List.cons.injEq, and_true, Value.int.injEq, true_and]; refine ⟨?_, rfl, rfl, rfl, rfl, rfl, rfl, rfl, rfl, rfl, rfl⟩; omega, by omega, ?_⟩, by simp; omega⟩
    rw [mixN, hq0, hM, mixB, hr0]
    exact hs.drop (.tl .hd)
  obtain rfl : i = K := by have := of_decide_eq_false hq; omega
  clear hq hi
  generalize hq0 : mixN s0 P i = q at *
  refine sp_alloc hs zHash fun g21 w hs => ?_
  rw [show u8s (List.replicate 32 0) = u8s (outI q 0) by simp [outI]] at hs
  repeat with_reducible refine mv.mk ?_
  refine lp_by (fun us w' => ∃ (j : Nat), us = [.int .i64 j] ∧ j ≤ 32 ∧ Sep b w' (blkI g21 T.api_Hash (u8s (outI q j)) :: blkI g4 T.arr8_uint32 (w32s q.list) :: resI Tryz.prog g2 T.api_Hash :: L)) (fun us _ => match us with | .int _ m :: _ => 32 - m.toNat | _ => 0) ⟨0, rfl, Nat.zero_le _, hs.sbl (by repeat (first | with_reducible exact Sbl.all | with_reducible exact Sbl.nil | refine Sbl.cons (by first | ((repeat (first | with_reducible exact Has.hd | with_reducible apply Has.tl)); done) | (repeat (first | exact Has.hd | with_reducible apply Has.tl))) ?_ | refine Sbl.drop ?_))⟩ ?_
  clear hs w
  rintro x8 w ⟨j, hx, hj, hs⟩
  simp only [List.cons.injEq, and_true] at hx
  simp only [hx]
  clear hx
  repeat (first
   | (with_reducible (first | refine st_lens ?_ | refine st_nels ?_ | refine mv.mk ?_ | refine br_t ?_ | refine br_f ?_))
   | (with_reducible ((first | apply st_bin | apply st_ext | apply st_len | apply st_conv); intro k' hk; simp [go_sem, thenR_ok, bin]; refine hk _ _ ?_; clear hk k'))
   | ((with_reducible (first | apply tk_bin)); (· intro w; simp [go_sem, bin]; rfl))
   | ((with_reducible apply sp_newr hs); (· kernel_rfl); intro g w hs))
  refine br_split (fun hq4 => ?_) (fun hq4 => ?_)
  · have hj' : j < 32 := by have := of_decide_eq_true hq4; omega
    have h8 : j / 4 < 8 := by omega
    have h4 : j % 4 < 4 := by omega
    repeat with_reducible refine mv.mk ?_
    refine st_of (n_quo w (j := j) (d := 4) rfl rfl (by decide) (by omega)) ?_
    refine sx_arr tArr8 (j / 4) rfl h8 (sx_ld hs (.tl .blk) (by kernel_rfl) (w32s_get (l := q.list) h8) ?_)
    repeat with_reducible refine mv.mk ?_
    refine st_of (n_rem w (j := j) (d := 4) rfl rfl (by decide) (by omega)) ?_
    refine sn_mul (by omega) ?_
    refine sn_sub (by omega) ?_
    refine st_of (n_u' w (8 * (3 - j % 4)) (by omega) (by kernel_rfl) (by kernel_rfl) (by omega)) ?_
    refine st_of (w_shrN w (8 * (3 - j % 4)) rfl (by omega)) ?_
    refine st_of (w_byte32 (by kernel_rfl) (by kernel_rfl) w) ?_
    refine sx_arr tHash j rfl hj' ?_
    refine sx_st hs .hd (by kernel_rfl) (u8_cell _) (by rw [u8s_length, outI_len (by omega)]; omega) fun w hs => ?_
    have ho := outS_get q h8 h4
    rw [show 4 * (j / 4) + j % 4 = j by omega] at ho
    rw [u8s_set, outI_set hj' ho] at hs
    repeat with_reducible refine mv.mk ?_
    refine sn_add (by omega) ?_
    repeat with_reducible refine mv.mk ?_
    exact ⟨⟨j + 1, rfl, by omega, hs⟩, by simp; omega⟩
  obtain rfl : j = 32 := by have := of_decide_eq_false hq4; omega
  rw [outI_all] at hs
  refine sp_loadall hs .hd (by kernel_rfl) (by rw [u8s_length, outS_len]) ?_
  refine sp_ret hs (.tl (.tl .hd)) (by kernel_rfl) (by rw [u8s_length, outS_len]) (u8s_one _) fun w hs => ?_
  exact ⟨rfl, (hs.drop .hd).drop .hd⟩
end
end Go.Proofs.YtbbmgkbinnomgaaGreatDoor
