/- Keys: what must come whatever the input is. -/
import Derived.Test.YtbbmgkbinnomgaaGreatDoorJ7
import Derived.Test.YtbbmgkbinnomgaaGreatDoorFS
set_option linter.unusedVariables false
set_option linter.unusedSimpArgs false
set_option linter.unusedSectionVars false
namespace Go.Proofs.YtbbmgkbinnomgaaGreatDoor
open Go Go.Isk Go.RowKit
set_option maxRecDepth 20000
section
variable {b : Base} {w : World} {L R : List It} {g gf gm used : Nat} {v lv dead tv e : Value} {name seed text : Bytes} {dg dp n : Int} {z : FsD} {leaves : List Bytes}
theorem isthmuslaw06_num (hs : Isk.Sep b w L) (hT : Ins L errT.it) (hv : Ins L (errF e n).it) : C Tryz.prog N.isthmuslaw06_num #[e] w fun r w' => r = .int .i64 n ∧ Isk.Sep b w' L :=
  C.isthmuslaw06_num (num_call (F := F.isthmuslaw06_num) hs hT hv (fun _ _ _ => rfl) fun w hs => ⟨rfl, hs⟩)
theorem errF_zeroK (hs : Isk.Sep b w L) (hm : Ins L (errF e 0).it) : e = .nilIface := by
  obtain ⟨d, hd⟩ := hs.get hm
  cases d with
  | zero =>
    rcases hd with ⟨rfl, _⟩ | ⟨_, h0, _⟩
    · rfl
    · exact absurd rfl h0
  | succ d' =>
    obtain ⟨_, _, _, _, h0, _⟩ := hd
    exact absurd rfl h0
theorem isthmuslaw06_small (hs : Isk.Sep b w L) : C Tryz.prog N.isthmuslaw06_small #[] w fun r w' => r = .agg #[.int .i64 1, .int .i64 1] ∧ Isk.Sep b w' L := by
  refine C.isthmuslaw06_small ?_
  unfold F.isthmuslaw06_small
  refine sp_newr hs (by kernel_rfl) fun g w hs => ?_
  refine st_build (cells := (paraC (.int .i64 1) (.int .i64 1)).toArray) (by kernel_rfl) ?_
  refine sp_ret hs .hd (by kernel_rfl) rfl (fun u hu => ?_) fun w hs => ?_
  · simp only [paraC, List.mem_cons, List.not_mem_nil, or_false] at hu
    rcases hu with rfl | rfl <;> rfl
  exact ⟨rfl, hs⟩
theorem sp_lit8 {c : UInt8} {k : Value → World → Prop} (hs : Isk.Sep b w L) (hk : ∀ v w', Isk.Sep b w' ((byF v [c]).it :: L) → k v w') : o1 Tryz.prog (Instr.buildSlice T.sl_uint8 1 #[(0, .int .u8 c.toNat)]) w fun v w => o1 Tryz.prog (convert T.sl_uint8 T.sl_uint8 v) w k :=
  sp_blit (E := T.uint8) (by_ := 1) hs (by kernel_rfl) (by kernel_rfl) [c] rfl rfl (by decide) (by decide) hk
theorem signK_len {leaf : Nat} (h : kCheck dg dp = 0) (hl : leaf < 2 ^ dp.toNat) : (signK seed dg dp leaf text).length ≤ 100000 := by
  obtain ⟨h1, h2, h3, h4⟩ := kCheck_ok h
  have hp := pow_small h3 h4
  have hdl := digestB_len (text := text) (n := dg.toNat) (by omega)
  have hll := leavesB_len seed dg.toNat (2 ^ dp.toNat)
  have l1 := encU_two (n := leaf) (by omega)
  have hpl : (pathB (leavesB seed dg.toNat (2 ^ dp.toNat)) leaf).length ≤ 10 := by
    have := pathN_len dp.toNat (leavesB seed dg.toNat (2 ^ dp.toNat)).length (l := leavesB seed dg.toNat (2 ^ dp.toNat)) (i := leaf) (by omega)
    exact Nat.le_trans this (by omega)
  have h32 : ∀ x ∈ pathB (leavesB seed dg.toNat (2 ^ dp.toNat)) leaf, x.length = 32 := pathN_32 _ (leavesB_32 _ _ _)
  unfold signK sigB
  generalize pathB (leavesB seed dg.toNat (2 ^ dp.toNat)) leaf = path at *
  have l2 := encU_two (n := path.length) (by omega)
  have hfl : path.flatten.length = 32 * path.length := by
    rw [List.length_flatten]
    have : path.map List.length = List.replicate path.length 32 := by
      apply List.eq_replicate_iff.2
      refine ⟨by simp, fun y hy => ?_⟩
      obtain ⟨z, hz, rfl⟩ := List.mem_map.1 hy
      exact h32 z hz
    rw [this]
    simp [Nat.mul_comm]
  have hsg : (signW seed leaf (digestB text dg.toNat)).length ≤ 10000 := by
    rw [signW, chainsB_len, hdl]
    omega
  have l3 : (encU (signW seed leaf (digestB text dg.toNat)).length).length ≤ 2 := encU_two (by omega)
  simp only [encB, List.length_append]
  omega
theorem isthmuslaw06_sure (hs : Isk.Sep b w L) (hT : Ins L errT.it) (hR : Ins L rndF.it) : C Tryz.prog N.isthmuslaw06_sure #[] w fun r w' => r = .bool true ∧ Isk.Sep b w' L := by
  have hk : kCheck 1 1 = 0 := by decide
  have hz32 : zero32.length = 32 := rfl
  have hnm : namedF [107] = true := by decide
  refine C.isthmuslaw06_sure ?_
  unfold F.isthmuslaw06_sure
  repeat with_reducible refine mv.mk ?_
  refine cl (files_New hs) ?_
  rintro _ w ⟨gf, gm, rfl, hs⟩
  refine zero_hash ?_
  refine cl (isthmuslaw06_small hs) ?_
  rintro _ w ⟨rfl, hs⟩
  refine cl (keys_Open_new (name := [107]) (seed := zero32) (dg := 1) (dp := 1) hR hz32 hk (by decide) (new_find hnm) ?_ hs) ?_
  · unfold findF
    rw [new_find hnm, if_pos (by decide)]
    decide
  rintro _ w ⟨g, lv, rfl, hs⟩
  repeat (first
   | (with_reducible (first | refine st_eqls ?_ | refine st_nels ?_ | refine mv.mk ?_ | refine gd_u ?_ | refine gd_ft ?_ | refine gd_tf ?_ | refine gd_i ?_ | refine pk_t ?_ | refine pk_f ?_ | refine br_t ?_ | refine br_f ?_))
   | (with_reducible ((first | apply st_bin | apply st_ext | apply st_conv); intro k' hk; simp [go_sem, thenR_ok, bin]; refine hk _ _ ?_; clear hk k')))
  refine sp_lit8 (c := 97) hs fun x1 w hs => ?_
  refine cl (keys_Sign_ok (text := [97]) (n := 0) (.tl (.tl hR)) hz32 hk hnm (new_good _) (by decide) (by decide) .hd (by decide) (.tl .hd) (hs.sbl (.cons (.tl .hd) (.cons (.tl .hd) (.cons (.tl .hd) .all))))) ?_
  rintro _ w ⟨v1, z1, rfl, hz1, hs⟩
  repeat (first
   | (with_reducible (first | refine st_eqls ?_ | refine st_nels ?_ | refine mv.mk ?_ | refine gd_u ?_ | refine gd_ft ?_ | refine gd_tf ?_ | refine gd_i ?_ | refine pk_t ?_ | refine pk_f ?_ | refine br_t ?_ | refine br_f ?_))
   | (with_reducible ((first | apply st_bin | apply st_ext | apply st_conv); intro k' hk; simp [go_sem, thenR_ok, bin]; refine hk _ _ ?_; clear hk k')))
  refine sp_lit8 (c := 98) hs fun x2 w hs => ?_
  refine cl (keys_Sign_ok (text := [98]) (n := 1) (.tl (.tl (.tl (.tl hR)))) hz32 hk hnm hz1 (by decide) (by decide) .hd (by decide) (.tl (.tl (.tl .hd))) (hs.sbl (.cons (.tl (.tl .hd)) (.cons (.tl (.tl .hd)) (.cons (.tl (.tl .hd)) .all))))) ?_
  rintro _ w ⟨v2, z2, rfl, hz2, hs⟩
  repeat (first
   | (with_reducible (first | refine st_eqls ?_ | refine st_nels ?_ | refine mv.mk ?_ | refine gd_u ?_ | refine gd_ft ?_ | refine gd_tf ?_ | refine gd_i ?_ | refine pk_t ?_ | refine pk_f ?_ | refine br_t ?_ | refine br_f ?_))
   | (with_reducible ((first | apply st_bin | apply st_ext | apply st_conv); intro k' hk; simp [go_sem, thenR_ok, bin]; refine hk _ _ ?_; clear hk k')))
  refine sp_lit8 (c := 99) hs fun x3 w hs => ?_
  rw [show (0 + 1 + 1 : Nat) = 2 ^ Int.toNat 1 by decide] at hs
  refine cl (keys_Sign_spent hz32 hk (.tl (.tl (.tl (.tl (.tl (.tl (.tl .hd))))))) (hs.sbl (.cons (.tl (.tl .hd)) .all))) ?_
  rintro _ w ⟨y, e, rfl, hs⟩
  repeat (first
   | (with_reducible (first | refine st_eqls ?_ | refine st_nels ?_ | refine mv.mk ?_ | refine gd_u ?_ | refine gd_ft ?_ | refine gd_tf ?_ | refine gd_i ?_ | refine pk_t ?_ | refine pk_f ?_ | refine br_t ?_ | refine br_f ?_))
   | (with_reducible ((first | apply st_bin | apply st_ext | apply st_conv); intro k' hk; simp [go_sem, thenR_ok, bin]; refine hk _ _ ?_; clear hk k')))
  have hr1 : readK (signK zero32 1 1 (0 + 1) [98]) = _ := readK_sign hk (by decide)
  have hl0 := signK_len (seed := zero32) (text := [97]) (leaf := 0) hk (by decide)
  have hl1 := signK_len (seed := zero32) (text := [98]) (leaf := 0 + 1) hk (by decide)
  refine cl (keys_Leaf hs (.tl (.tl (.tl .hd))) (by omega)) ?_
  rintro _ w ⟨e2, rfl, hs⟩
  rw [hr1] at hs
  rw [hr1]
  dsimp only at hs
  obtain rfl := errF_zeroK hs .hd
  dsimp only
  repeat (first
   | (with_reducible (first | refine st_eqls ?_ | refine st_nels ?_ | refine mv.mk ?_ | refine gd_u ?_ | refine gd_ft ?_ | refine gd_tf ?_ | refine gd_i ?_ | refine pk_t ?_ | refine pk_f ?_ | refine br_t ?_ | refine br_f ?_))
   | (with_reducible ((first | apply st_bin | apply st_ext | apply st_conv); intro k' hk; simp [go_sem, thenR_ok, bin]; refine hk _ _ ?_; clear hk k')))
  refine cl (isthmuslaw06_num hs (.tl (.tl (.tl (.tl (.tl (.tl (.tl (.tl (.tl (.tl (.tl hT))))))))))) (.tl .hd)) ?_
  rintro _ w ⟨rfl, hs⟩
  repeat (first
   | (with_reducible (first | refine st_eqls ?_ | refine st_nels ?_ | refine mv.mk ?_ | refine gd_u ?_ | refine gd_ft ?_ | refine gd_tf ?_ | refine gd_i ?_ | refine pk_t ?_ | refine pk_f ?_ | refine br_t ?_ | refine br_f ?_))
   | (with_reducible ((first | apply st_bin | apply st_ext | apply st_conv); intro k' hk; simp [go_sem, thenR_ok, bin]; refine hk _ _ ?_; clear hk k')))
  refine cl (keys_SRoot (hs.sbl (.cons (.tl (.tl .hd)) .all)) (.tl (.tl (.tl (.tl (.tl (.tl (.tl (.tl (.tl (.tl hR)))))))))) hz32 (.tl (.tl (.tl (.tl (.tl (.tl (.tl (.tl (.tl .hd))))))))) (by rw [leavesB_len]; decide)) ?_
  rintro _ w ⟨rfl, hs⟩
  refine gd_i ?_
  refine cl (isthmuslaw06_small hs) ?_
  rintro _ w ⟨rfl, hs⟩
  refine gd_i ?_
  refine sp_brow (E := T.uint8) (by_ := 1) hs (by kernel_rfl) [97] rfl rfl (by decide) (by decide) fun g5 w hs => ?_
  refine gd_i ?_
  refine sp_mark (T := T.sl_uint8) (by_ := 1) hs (by kernel_rfl) (by kernel_rfl) rfl fun w hs => ?_
  repeat (first
   | (with_reducible (first | refine st_eqls ?_ | refine st_nels ?_ | refine mv.mk ?_ | refine gd_u ?_ | refine gd_ft ?_ | refine gd_tf ?_ | refine gd_i ?_ | refine pk_t ?_ | refine pk_f ?_ | refine br_t ?_ | refine br_f ?_))
   | (with_reducible ((first | apply st_bin | apply st_ext | apply st_conv); intro k' hk; simp [go_sem, thenR_ok, bin]; refine hk _ _ ?_; clear hk k')))
  have hrl : (rootB (leavesB zero32 (1 : Int).toNat (2 ^ (1 : Int).toNat))).length = 32 := rootB_len _ rfl (leavesB_32 _ _ _)
  refine cl (keys_Verify (dg := 1) (dp := 1) (text := [97]) hs (.tl (.tl (.tl (.tl (.tl (.tl (.tl (.tl (.tl (.tl (.tl (.tl hR)))))))))))) .hd (.tl (.tl (.tl (.tl (.tl (.tl (.tl (.tl (.tl .hd))))))))) (by omega) (by decide) hrl) ?_
  rintro r w hs
  have hv : verifyK (rootB (leavesB zero32 (1 : Int).toNat (2 ^ (1 : Int).toNat))) 1 1 [97] (signK zero32 1 1 0 [97]) = 0 := by
    rw [verify_sign hk (by decide)]
    exact if_pos rfl
  rw [hv] at hs
  obtain rfl := errF_zeroK hs .hd
  repeat (first
   | (with_reducible (first | refine st_eqls ?_ | refine st_nels ?_ | refine mv.mk ?_ | refine gd_u ?_ | refine gd_ft ?_ | refine gd_tf ?_ | refine gd_i ?_ | refine pk_t ?_ | refine pk_f ?_ | refine br_t ?_ | refine br_f ?_))
   | (with_reducible ((first | apply st_bin | apply st_ext | apply st_conv); intro k' hk; simp [go_sem, thenR_ok, bin]; refine hk _ _ ?_; clear hk k')))
  refine cl (keys_Left (hs.sbl (.cons (.tl (.tl .hd)) .all)) hz32 (.tl (.tl (.tl (.tl (.tl (.tl (.tl (.tl (.tl (.tl (.tl .hd))))))))))) (by rw [leavesB_len]; decide) (by rw [leavesB_len]; exact Nat.le_refl _)) ?_
  rintro _ w ⟨rfl, hs⟩
  rw [leavesB_len, Nat.sub_self]
  repeat (first
   | (with_reducible (first | refine st_eqls ?_ | refine st_nels ?_ | refine mv.mk ?_ | refine gd_u ?_ | refine gd_ft ?_ | refine gd_tf ?_ | refine gd_i ?_ | refine pk_t ?_ | refine pk_f ?_ | refine br_t ?_ | refine br_f ?_))
   | (with_reducible ((first | apply st_bin | apply st_ext | apply st_conv); intro k' hk; simp [go_sem, thenR_ok, bin]; refine hk _ _ ?_; clear hk k')))
  exact ⟨rfl, hs.sbl (.drop (.drop (.drop (.drop (.drop (.drop (.drop (.drop (.drop (.drop (.drop (.drop (.drop .all)))))))))))))⟩
end
end Go.Proofs.YtbbmgkbinnomgaaGreatDoor
set_option linter.unusedVariables false
set_option linter.unusedSimpArgs false
set_option linter.unusedSectionVars false
namespace Go.Isk
open Go Go.RowKit
section
variable {P : Program} {b : Base} {w w' : World} {L R : List It} {v x : Value} {n m sz : Nat} {l t : List UInt8} {k : Value → World → Prop}
/-- a text is laid behind bytes with no room behind them -/
theorem sp_appT {A : Option Addr} {T E by_ T' TX : Nat} (h : Sep b w L) (hT : slT P T E 1 by_ = true) (hX : P.underlying TX = some .string) (hm : Ins L (byF (.slice A l.length l.length) l).it) (hby : by_ ≤ 1) (hl : l.length + t.length ≤ 1000000000)
    (hk : ∀ v' w', Sep b w' ((byF v' (l ++ t)).it :: L) → k v' w') : ob P (fun _ => Builtin.append_ #[T, TX] T' #[.slice A l.length l.length, str t]) w k := by
  obtain ⟨e1, hsz, j, z, hj, hz, hs1, hs2, hs3⟩ := slT.spec hT
  have f1 : SlS (Stb w L) w (.slice A l.length l.length) l.length 1 (u8s l) := h.get hm
  have hbc : byteCells ⟨t.toArray⟩ = u8s t := by simp [byteCells, u8s]
  have hsz : (⟨t.toArray⟩ : ByteArray).size = t.length := by simp [ByteArray.size]
  have hs : Src P 1 TX (str t) t.length (u8s t) w := by
    have := Src.ofString (P := P) (w := w) hX ⟨t.toArray⟩
    rw [hbc, hsz] at this
    exact this
  by_cases ht : t = []
  · subst ht
    have hs0 : Src P j.size TX (str []) 0 [] w := by rw [hs1]; exact hs
    refine stb (run_append_nothing w T TX T' E j e1 hj A l.length l.length (Nat.le_refl _) (str []) hs0) (hk _ _ ?_)
    rw [List.append_nil]
    exact h.fact f1
  · have htl : 0 < t.length := List.length_pos_iff.2 ht
    have hold : (Builtin.firstCells j.size l.length (.slice A l.length l.length)).run P w.drew = .ok (u8s l).toArray w.drew := by
      have := (src_sl hT f1.1 (u8s_one l)).cellsD
      rw [hs1]; exact this
    have hcap := nextslicecap_le (need := l.length + t.length) (old := l.length) (by omega)
    have hr := run_append_grow_src (P := P) w T TX T' E j z e1 hj hz A l.length l.length (u8s l) hold (str t) t.length (u8s t) (by rw [hs1]; exact hs) (by omega) (by omega) (by
      rw [hs2]
      have : Builtin.nextslicecap (l.length + t.length) l.length * by_ ≤ Builtin.nextslicecap (l.length + t.length) l.length * 1 := Nat.mul_le_mul_left _ hby
      omega)
    refine stb hr (hk _ _ ?_)
    generalize hZ : Builtin.zeroCells z.cells (grownCap w (l.length + t.length) l.length E - (l.length + t.length)) = Z
    have hcap2 := grownCap_ge w (l.length + t.length) l.length E
    generalize grownCap w (l.length + t.length) l.length E = cap at hcap2
    have hb : Blk (w.drew.alloc (.cells ((u8s l ++ u8s t).toArray ++ Z) E)) w.heap.size E (u8s l ++ u8s t ++ Z.toList) := by
      have ez : (u8s l ++ u8s t).toArray ++ Z = (u8s l ++ u8s t ++ Z.toList).toArray := by apply Array.ext'; simp
      rw [ez]
      exact Blk.new
    have h2 : Sep b (w.drew.alloc (.cells ((u8s l ++ u8s t).toArray ++ Z) E)) (blkI w.heap.size E (u8s l ++ u8s t ++ Z.toList) :: L) := h.add (upd_drew.alloc _) (by
      intro k hk
      simp only [blkI, List.mem_singleton] at hk
      subst hk
      exact ⟨hb.lt, Nat.le_refl _⟩) hb
    refine h2.freeze .hd fun S hB => ?_
    have hsl := Sl.of_blk (n := l.length + t.length) (m := cap) (o := 0) (sz := 1) (show Blk _ w.heap.size E (u8s l ++ u8s t ++ Z.toList) from hB) (by simp only [List.length_append, u8s_length]; omega) (by omega)
    have e : ((u8s l ++ u8s t ++ Z.toList).drop 0).take ((l.length + t.length) * 1) = u8s (l ++ t) := by
      rw [List.drop_zero, Nat.mul_one, List.take_append_of_le_length (by simp only [List.length_append, u8s_length]; omega), List.take_of_length_le (by simp only [List.length_append, u8s_length]; omega)]
      simp [u8s]
    rw [e] at hsl
    exact SlS.of (by rw [List.length_append]; exact hsl) fun k hk => .inr (by simp [Value.ownBlock] at hk; simp [blkI, hk])
/-- a row of bytes of one's own, from now on left alone -/
theorem Sep.byt {g E : Nat} (h : Sep b w (blkI g E (u8s l) :: R)) : Sep b w ((byF (.slice (some ⟨g, 0, none⟩) l.length l.length) l).it :: R) := by
  refine h.freeze .hd fun S hB => ?_
  have hsl := Sl.of_blk (n := l.length) (m := l.length) (o := 0) (sz := 1) (show Blk _ g E (u8s l) from hB) (by rw [u8s_length]; omega) (by omega)
  have e : ((u8s l).drop 0).take (l.length * 1) = u8s l := by
    rw [List.drop_zero, Nat.mul_one, List.take_of_length_le (by rw [u8s_length]; omega)]
  rw [e] at hsl
  exact SlS.of hsl fun k hk => .inr (by simp [Value.ownBlock] at hk; simp [blkI, hk])
end
end Go.Isk
namespace Go.Proofs.YtbbmgkbinnomgaaGreatDoor
open Go Go.Isk Go.RowKit
set_option maxRecDepth 20000
def seedK (name : Bytes) : Bytes := shaB (5 :: name)
theorem seedK_len (name : Bytes) : (seedK name).length = 32 := shaB_len _
section
variable {b : Base} {w : World} {L R : List It} {name : Bytes}
theorem keys_Seed (hs : Isk.Sep b w L) (hR : Ins L rndF.it) (hl : name.length ≤ 10000000) : C Tryz.prog N.keys_Seed #[str name] w fun r w' => r = .agg (u8s (seedK name)).toArray ∧ Isk.Sep b w' L := by
  refine C.keys_Seed ?_
  unfold F.keys_Seed
  refine sp_newr hs (by kernel_rfl) fun g w hs => ?_
  refine sp_brow (E := T.uint8) (by_ := 1) hs (by kernel_rfl) [5] rfl rfl (by decide) (by decide) fun g5 w hs => ?_
  repeat with_reducible refine mv.mk ?_
  refine sp_appT (E := T.uint8) (by_ := 1) (l := [5]) hs.byt (by kernel_rfl) (by kernel_rfl) .hd (Nat.le_refl _) (by simp; omega) fun v w hs => ?_
  refine cl (sha_Sum hs (.tl (.tl (.tl hR))) .hd (by simp; omega)) ?_
  rintro _ w ⟨rfl, hs⟩
  refine sp_setr (ds := u8s (seedK name)) hs (.tl (.tl .hd)) (by kernel_rfl) ((u8s_length _).trans (seedK_len name)) (u8s_one _) fun w hs => ?_
  refine sp_rc hs .hd (by kernel_rfl) ((u8s_length _).trans (seedK_len name)) ?_
  exact ⟨rfl, hs.sbl (.drop (.drop (.drop .all)))⟩
end
end Go.Proofs.YtbbmgkbinnomgaaGreatDoor
