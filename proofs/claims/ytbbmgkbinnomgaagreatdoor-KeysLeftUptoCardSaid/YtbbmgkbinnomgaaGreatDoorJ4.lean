/- Keys: leaves, Root, Leaf, paths, a signature's bytes, in the program. -/
import Derived.Test.YtbbmgkbinnomgaaGreatDoorJ3
import Derived.Test.YtbbmgkbinnomgaaGreatDoorK9
import Derived.Test.YtbbmgkbinnomgaaGreatDoorJT
set_option linter.unusedVariables false
set_option linter.unusedSimpArgs false
set_option linter.unusedSectionVars false
namespace Go.Proofs.YtbbmgkbinnomgaaGreatDoor
open Go Go.Isk Go.RowKit
set_option maxRecDepth 20000
section
variable {b : Base} {w : World} {L R : List It} {g n leaf chain : Nat} {v x pv dv sv cv : Value} {l h xs seed d sign : List UInt8} {ps : List Nat} {dg dp : Int} {path : List Bytes}
theorem leavesB_succ (seed : Bytes) (n i : Nat) : leavesB seed n (i + 1) = leavesB seed n i ++ [publicB seed i n] := by
  simp [leavesB, List.range_succ]
theorem keys_leaves (hs : Isk.Sep b w L) (hR : Ins L rndF.it) (hsd : seed.length = 32) :
    C Tryz.prog N.keys_leaves #[.agg (u8s seed).toArray, .agg #[.int .i64 dg, .int .i64 dp]] w fun r w' => ∃ v e, r = .tuple #[v, e] ∧ Isk.Sep b w' ((errF e (kCheck dg dp)).it :: (listF hshF 32 v (if kCheck dg dp = 0 then leavesB seed dg.toNat (2 ^ dp.toNat) else [])).it :: L) := by
  refine C.keys_leaves ?_
  unfold F.keys_leaves
  refine sp_boxa hs fun g2 w hs => ?_
  refine sp_box (cs := paraC (.int .i64 dg) (.int .i64 dp)) hs rfl fun g3 w hs => ?_
  repeat with_reducible refine mv.mk ?_
  refine sp_loadall hs .hd (by kernel_rfl) rfl ?_
  refine cl (keys_Check hs) ?_
  rintro e w hs
  repeat with_reducible refine mv.mk ?_
  refine st_of (err_neq hs .hd) ?_
  by_cases hc : kCheck dg dp = 0
  · rw [hc, if_pos rfl]
    rw [hc] at hs
    refine br_f ?_
    obtain ⟨h1, h2, h3, h4⟩ := kCheck_ok hc
    have hp := pow_small h3 h4
    obtain ⟨n, rfl⟩ := Int.eq_ofNat_of_zero_le (show 0 ≤ dg by omega)
    rw [Int.toNat_natCast]
    repeat with_reducible refine mv.mk ?_
    refine para.l1 hs (.tl .blk) ?_
    refine st_of (i_shl w ⟨h3, h4⟩) ?_
    generalize 2 ^ dp.toNat = K at *
    replace hs := (hs.drop .hd).grow0 hshF T.api_Hash 32
    repeat with_reducible refine mv.mk ?_
    refine lp_by (fun us w' => ∃ (i : Nat) (v y z : Value), us = [.slice none 0 0, .nilIface, v, y, z, .int .i64 (i : Int)] ∧ i ≤ K ∧ Isk.Sep b w' (growI hshF T.api_Hash 32 v (leavesB seed n i) :: blkI g3 T.api_Params (paraC (.int .i64 (n : Int)) (.int .i64 dp)) :: blkI g2 T.api_Hash (u8s seed) :: L)) (fun us _ => match us with | [_, _, _, _, _, .int _ m] => K - m.toNat | _ => 0) ⟨0, _, _, _, rfl, Nat.zero_le _, hs⟩ ?_
    clear hs
    rintro x1 w ⟨i, v, y, z, hx1, hi, hs⟩
    simp only [List.cons.injEq, and_true] at hx1
    simp only [hx1.1, hx1.2.1, hx1.2.2.1, hx1.2.2.2.1, hx1.2.2.2.2.1, hx1.2.2.2.2.2]
    have hll := leavesB_len seed n i
    repeat (first
     | (with_reducible (first | refine st_nels ?_ | refine mv.mk ?_ | refine br_t ?_ | refine br_f ?_ | refine sp_boxa hs fun g w hs => ?_))
     | (with_reducible ((first | apply st_bin | apply st_ext); intro k' hk; simp [go_sem, thenR_ok, bin]; refine hk _ _ ?_; clear hk k'))
     | ((with_reducible apply sp_newr hs); (· kernel_rfl); intro g w hs))
    refine br_split (fun hq => ?_) (fun hq => ?_)
    · have hin : i < K := by have := of_decide_eq_true hq; omega
      repeat with_reducible refine mv.mk ?_
      refine sp_ldn hs (.tl (.tl .blk)) (by kernel_rfl) (by rw [u8s_length, hsd]) ?_
      repeat (first
       | (with_reducible refine para.a0 ?_)
       | ((with_reducible apply para.r0 hs); (· (with_reducible (repeat (first | exact .blk | exact .rng | apply Rng.tl)))))
       | (with_reducible refine para.a1 ?_)
       | ((with_reducible apply para.r1 hs); (· (with_reducible (repeat (first | exact .blk | exact .rng | apply Rng.tl)))))
       | (with_reducible (first | refine st_nels ?_ | refine mv.mk ?_ | refine br_t ?_ | refine br_f ?_ | refine sp_boxa hs fun g w hs => ?_))
       | (with_reducible ((first | apply st_bin | apply st_ext); intro k' hk; simp [go_sem, thenR_ok, bin]; refine hk _ _ ?_; clear hk k'))
       | ((with_reducible apply sp_newr hs); (· kernel_rfl); intro g w hs))
      refine cl (wots_Public (leaf := i) (n := n) hs (.tl (.tl (.tl hR))) hsd (by omega) (by omega) (by omega)) ?_
      rintro _ w ⟨rfl, hs⟩
      have hpl : (publicB seed i n).length = 32 := shaB_len _
      repeat (first
       | (with_reducible (first | refine st_nels ?_ | refine mv.mk ?_ | refine br_t ?_ | refine br_f ?_ | refine sp_boxa hs fun g w hs => ?_))
       | (with_reducible ((first | apply st_bin | apply st_ext); intro k' hk; simp [go_sem, thenR_ok, bin]; refine hk _ _ ?_; clear hk k'))
       | ((with_reducible apply sp_newr hs); (· kernel_rfl); intro g w hs))
      refine sp_setr (ds := u8s (publicB seed i n)) hs .hd (by kernel_rfl) ((u8s_length _).trans hpl) (u8s_one _) fun w hs => ?_
      repeat (first
       | (with_reducible (first | refine st_nels ?_ | refine mv.mk ?_ | refine br_t ?_ | refine br_f ?_ | refine sp_boxa hs fun g w hs => ?_))
       | (with_reducible ((first | apply st_bin | apply st_ext); intro k' hk; simp [go_sem, thenR_ok, bin]; refine hk _ _ ?_; clear hk k'))
       | ((with_reducible apply sp_newr hs); (· kernel_rfl); intro g w hs))
      refine sp_ldn hs .blk (by kernel_rfl) ((u8s_length _).trans hpl) ?_
      replace hs := Sep.hash hs hpl
      refine sp_lita hs tHashes ((u8s_length _).trans hpl) (by decide) fun u w hs => ?_
      refine sp_push (ys := u8s (publicB seed i n)) (a := publicB seed i n) hs (.tl (.tl (.tl .hd))) tHashes (by exact .sl) (by exact .tl .hd) (u8s_one _) (by omega) (by omega) fun v' w hs => ?_
      rw [← leavesB_succ] at hs
      repeat (first
       | (with_reducible (first | refine st_nels ?_ | refine mv.mk ?_ | refine br_t ?_ | refine br_f ?_ | refine sp_boxa hs fun g w hs => ?_))
       | (with_reducible ((first | apply st_bin | apply st_ext); intro k' hk; simp [go_sem, thenR_ok, bin]; refine hk _ _ ?_; clear hk k'))
       | ((with_reducible apply sp_newr hs); (· kernel_rfl); intro g w hs))
      rw [i64_succ (by omega)]
      exact ⟨⟨i + 1, v', _, _, rfl, hin, hs.sbl (.cons .hd (.drop (.drop (.drop .all))))⟩, by simp; omega⟩
    · obtain rfl : i = K := by have := of_decide_eq_false hq; omega
      repeat with_reducible refine mv.mk ?_
      replace hs := hs.growF .hd
      exact ⟨v, .nilIface, rfl, (errF_nil hs).sbl (.cons .hd (.cons .hd (.drop (.drop .all))))⟩
  · rw [decide_eq_false hc, if_neg hc]
    refine br_t ?_
    repeat with_reducible refine mv.mk ?_
    replace hs := hs.nilF hshF 32
    exact ⟨_, e, rfl, hs.sbl (.cons (.tl .hd) (.cons .hd (.drop (.drop .all))))⟩
theorem zero_hash {k : Value → World → Prop} {w : World} (hk : k (.agg (u8s zero32).toArray) w) : o1 Tryz.prog (Instr.build T.api_Hash #[]) w k := st_build (by kernel_rfl) hk
theorem keys_Root (hs : Isk.Sep b w L) (hR : Ins L rndF.it) (hsd : seed.length = 32) :
    C Tryz.prog N.keys_Root #[.agg (u8s seed).toArray, .agg #[.int .i64 dg, .int .i64 dp]] w fun r w' => ∃ e, r = .tuple #[.agg (u8s (if kCheck dg dp = 0 then rootK seed dg dp else zero32)).toArray, e] ∧ Isk.Sep b w' ((errF e (kCheck dg dp)).it :: L) := by
  refine C.keys_Root ?_
  unfold F.keys_Root
  refine sp_boxa hs fun g2 w hs => ?_
  refine sp_box (cs := [.int .i64 dg, .int .i64 dp]) hs rfl fun g3 w hs => ?_
  refine sp_newr hs (by kernel_rfl) fun g4 w hs => ?_
  repeat with_reducible refine mv.mk ?_
  refine sp_ldn hs (.tl (.tl .blk)) (by kernel_rfl) (by rw [u8s_length, hsd]) ?_
  refine sp_loadall hs (.tl .hd) (by kernel_rfl) rfl ?_
  refine cl (keys_leaves hs (.tl (.tl (.tl hR))) hsd) ?_
  rintro _ w ⟨v, e, rfl, hs⟩
  repeat with_reducible refine mv.mk ?_
  refine st_of (v := v) (w' := w) (by simp [go_sem]) ?_
  refine st_of (v := e) (w' := w) (by simp [go_sem]) ?_
  repeat with_reducible refine mv.mk ?_
  refine st_of (err_neq hs .hd) ?_
  by_cases hc : kCheck dg dp = 0
  · rw [hc, if_pos rfl]
    rw [hc, if_pos rfl] at hs
    obtain ⟨h1, h2, h3, h4⟩ := kCheck_ok hc
    have hp := pow_small h3 h4
    refine br_f ?_
    repeat with_reducible refine mv.mk ?_
    refine cl (sha_Root _ rfl hs (.tl (.tl (.tl (.tl (.tl hR))))) (.tl .hd) (by rw [leavesB_len]; omega)) ?_
    rintro _ w ⟨rfl, hs⟩
    have hrl : (u8s (rootK seed dg dp)).length = 32 := (u8s_length _).trans (rootB_len _ rfl (leavesB_32 _ _ _))
    refine sp_setr (ds := u8s (rootK seed dg dp)) hs (.tl (.tl .hd)) (by kernel_rfl) hrl (u8s_one _) fun w hs => mv.mk (sp_rc hs .hd (by kernel_rfl) hrl ?_)
    exact ⟨.nilIface, rfl, (errF_nil hs).sbl (.cons .hd (.drop (.drop (.drop (.drop (.drop .all))))))⟩
  · rw [decide_eq_false hc, if_neg hc]
    refine br_t ?_
    refine zero_hash ?_
    repeat with_reducible refine mv.mk ?_
    refine sp_setr (ds := u8s zero32) hs (.tl (.tl .hd)) (by kernel_rfl) rfl (u8s_one _) fun w hs => mv.mk (sp_rc hs .hd (by kernel_rfl) rfl ?_)
    exact ⟨e, rfl, hs.sbl (.cons (.tl .hd) (.drop (.drop (.drop (.drop .all)))))⟩
theorem keys_Leaf (hs : Isk.Sep b w L) (hm : Ins L (byF v l).it) (hl : l.length ≤ 2147483648) :
    C Tryz.prog N.keys_Leaf #[v] w fun r w' => ∃ e, r = .tuple #[.int .i64 (readK l).1.leaf, e] ∧ Isk.Sep b w' ((errF e (readK l).2).it :: L) := by
  refine C.keys_Leaf ?_
  unfold F.keys_Leaf
  repeat with_reducible refine mv.mk ?_
  refine cl (keys_read hs hm hl) ?_
  rintro _ w ⟨cv, pv, e, rfl, hs⟩
  obtain ⟨A, c, rfl⟩ := bytesF_slice hs .hd
  obtain ⟨A2, c2, rfl⟩ := hs.lst_len (Ins.tl (Ins.hd)).lst
  repeat (first
   | (with_reducible (first | refine mv.mk ?_))
   | (with_reducible ((first | apply st_ext); intro k' hk; simp [go_sem, thenR_ok, bin]; refine hk _ _ ?_; clear hk k'))
   | ((with_reducible apply sp_newr hs); (· kernel_rfl); intro g w hs))
  refine sp_setr (ds := ksigC (.int .i64 ((readK l).1.leaf : Int)) (.slice A (readK l).1.chain.length c) (.slice A2 (readK l).1.path.length c2)) hs .hd (by kernel_rfl) rfl (ksigC_one rfl rfl rfl) fun w hs => ?_
  repeat (first
   | (with_reducible refine ksig.a0 ?_)
   | ((with_reducible apply ksig.r0 hs); (· (with_reducible (repeat (first | exact .blk | exact .rng | apply Rng.tl)))))
   | (with_reducible (first | refine mv.mk ?_))
   | (with_reducible ((first | apply st_ext); intro k' hk; simp [go_sem, thenR_ok, bin]; refine hk _ _ ?_; clear hk k'))
   | ((with_reducible apply sp_newr hs); (· kernel_rfl); intro g w hs))
  exact ⟨e, rfl, hs.sbl (.cons (.tl (.tl (.tl .hd))) (.drop (.drop (.drop .all))))⟩
theorem sha_Path : ∀ (n : Nat) {l : List Bytes} {w : World} {L : List It} {sv : Value} {i : Nat}, l.length = n → Isk.Sep b w L → Ins L rndF.it → Ins L (listF hshF 32 sv l).it → n < 2147483648 → i < n →
    C Tryz.prog N.sha_Path #[sv, .int .i64 (i : Int)] w fun r w' => ∃ v, r = .tuple #[v, .nilIface] ∧ Isk.Sep b w' (growI hshF T.api_Hash 32 v (pathB l i) :: L) := by
  intro n
  induction n using Nat.strongRecOn with
  | ind n ih =>
  intro l w L sv i hn hs hR hm hb hi
  have h32 := hshs_len hs hm
  obtain ⟨A, c, rfl⟩ := hs.lst_len hm.lst
  refine C.sha_Path ?_
  unfold F.sha_Path
  repeat (first
   | (with_reducible (first | refine st_lens ?_ | refine st_eqls ?_ | refine mv.mk ?_ | refine gd_u ?_ | refine gd_ft ?_ | refine gd_tf ?_ | refine gd_i ?_ | refine pk_t ?_ | refine pk_f ?_ | refine br_t ?_ | refine br_f ?_ | refine sp_boxa hs fun g w hs => ?_))
   | (with_reducible ((first | apply st_bin | apply st_ext | apply st_len | apply st_mki); intro k' hk; simp [go_sem, thenR_ok, bin]; refine hk _ _ ?_; clear hk k')))
  rw [show decide ((i : Int) < 0) = false by simp]
  repeat (first
   | (with_reducible (first | refine st_lens ?_ | refine st_eqls ?_ | refine mv.mk ?_ | refine gd_u ?_ | refine gd_ft ?_ | refine gd_tf ?_ | refine gd_i ?_ | refine pk_t ?_ | refine pk_f ?_ | refine br_t ?_ | refine br_f ?_ | refine sp_boxa hs fun g w hs => ?_))
   | (with_reducible ((first | apply st_bin | apply st_ext | apply st_len | apply st_mki); intro k' hk; simp [go_sem, thenR_ok, bin]; refine hk _ _ ?_; clear hk k')))
  rw [show decide (l.length ≤ i) = false by simp only [decide_eq_false_iff_not]; omega]
  repeat (first
   | (with_reducible (first | refine st_lens ?_ | refine st_eqls ?_ | refine mv.mk ?_ | refine gd_u ?_ | refine gd_ft ?_ | refine gd_tf ?_ | refine gd_i ?_ | refine pk_t ?_ | refine pk_f ?_ | refine br_t ?_ | refine br_f ?_ | refine sp_boxa hs fun g w hs => ?_))
   | (with_reducible ((first | apply st_bin | apply st_ext | apply st_len | apply st_mki); intro k' hk; simp [go_sem, thenR_ok, bin]; refine hk _ _ ?_; clear hk k')))
  by_cases h1 : l.length = 1
  · rw [show ((l.length : Int) == 1) = true by simp; omega]
    repeat (first
     | (with_reducible (first | refine st_lens ?_ | refine st_eqls ?_ | refine mv.mk ?_ | refine gd_u ?_ | refine gd_ft ?_ | refine gd_tf ?_ | refine gd_i ?_ | refine pk_t ?_ | refine pk_f ?_ | refine br_t ?_ | refine br_f ?_ | refine sp_boxa hs fun g w hs => ?_))
     | (with_reducible ((first | apply st_bin | apply st_ext | apply st_len | apply st_mki); intro k' hk; simp [go_sem, thenR_ok, bin]; refine hk _ _ ?_; clear hk k')))
    rw [pathB_one h1]
    exact ⟨_, rfl, hs.grow0 hshF T.api_Hash 32⟩
  rw [show ((l.length : Int) == 1) = false by simp; omega]
  repeat (first
   | (with_reducible (first | refine st_lens ?_ | refine st_eqls ?_ | refine mv.mk ?_ | refine gd_u ?_ | refine gd_ft ?_ | refine gd_tf ?_ | refine gd_i ?_ | refine pk_t ?_ | refine pk_f ?_ | refine br_t ?_ | refine br_f ?_ | refine sp_boxa hs fun g w hs => ?_))
   | (with_reducible ((first | apply st_bin | apply st_ext | apply st_len | apply st_mki); intro k' hk; simp [go_sem, thenR_ok, bin]; refine hk _ _ ?_; clear hk k')))
  refine cl (sha_half (n := l.length) (by omega) (by omega)) ?_
  rintro _ w ⟨rfl, rfl⟩
  repeat with_reducible refine mv.mk ?_
  have hlt := halfN_lt (n := l.length) (by omega)
  have hgt := halfN_pos l.length
  obtain ⟨v1, hr1, hs⟩ := lst_to (P := Tryz.prog) hs hm tHashes (halfN l.length) (by omega) .i64
  obtain ⟨v2, hr2, hs⟩ := lst_fr (P := Tryz.prog) hs (.tl hm) tHashes (halfN l.length) (by omega) .i64
  refine tk_run hr1 ?_
  repeat with_reducible refine mv.mk ?_
  refine tk_run hr2 ?_
  have ht : (l.take (halfN l.length)).length = halfN l.length := by rw [List.length_take]; omega
  have hd : (l.drop (halfN l.length)).length = l.length - halfN l.length := List.length_drop ..
  have hpl := pathB_step (l := l) (i := i) (by omega) (by omega)
  replace hs := hs.drew
  repeat (first
   | (with_reducible (first | refine st_lens ?_ | refine st_eqls ?_ | refine mv.mk ?_ | refine gd_u ?_ | refine gd_ft ?_ | refine gd_tf ?_ | refine gd_i ?_ | refine pk_t ?_ | refine pk_f ?_ | refine br_t ?_ | refine br_f ?_ | refine sp_boxa hs fun g w hs => ?_))
   | (with_reducible ((first | apply st_bin | apply st_ext | apply st_len | apply st_mki); intro k' hk; simp [go_sem, thenR_ok, bin]; refine hk _ _ ?_; clear hk k')))
  refine jn_by (fun us w' => ∃ (j : Nat) (m : List Bytes) (u1 u2 : Value) (o : List Bytes), us = [.int .i64 (j : Int), u1, u2] ∧ j < m.length ∧ m.length < n ∧ o.length < n ∧ (∀ x ∈ o, x.length = 32) ∧ pathB l i = pathB m j ++ [rootB o] ∧ Isk.Sep b w' ((listF hshF 32 u1 m).it :: (listF hshF 32 u2 o).it :: L)) ?_ ?_
  · by_cases hc : halfN l.length ≤ i
    · rw [show decide (halfN l.length ≤ i) = true by simp only [decide_eq_true_eq]; omega]
      repeat (first
       | (with_reducible (first | refine st_lens ?_ | refine st_eqls ?_ | refine mv.mk ?_ | refine gd_u ?_ | refine gd_ft ?_ | refine gd_tf ?_ | refine gd_i ?_ | refine pk_t ?_ | refine pk_f ?_ | refine br_t ?_ | refine br_f ?_ | refine sp_boxa hs fun g w hs => ?_))
       | (with_reducible ((first | apply st_bin | apply st_ext | apply st_len | apply st_mki); intro k' hk; simp [go_sem, thenR_ok, bin]; refine hk _ _ ?_; clear hk k')))
      rw [show IntKind.i64.wrap ((i : Int) - ((halfN l.length : Nat) : Int)) = ((i - halfN l.length : Nat) : Int) by simp [IntKind.wrap, IntKind.signed, IntKind.bits]; omega]
      rw [if_pos hc] at hpl
      exact ⟨i - halfN l.length, _, _, _, _, rfl, by omega, by omega, by omega, fun x hx => h32 x (List.mem_of_mem_take hx), hpl, hs⟩
    · rw [show decide (halfN l.length ≤ i) = false by simp only [decide_eq_false_iff_not]; omega]
      repeat (first
       | (with_reducible (first | refine st_lens ?_ | refine st_eqls ?_ | refine mv.mk ?_ | refine gd_u ?_ | refine gd_ft ?_ | refine gd_tf ?_ | refine gd_i ?_ | refine pk_t ?_ | refine pk_f ?_ | refine br_t ?_ | refine br_f ?_ | refine sp_boxa hs fun g w hs => ?_))
       | (with_reducible ((first | apply st_bin | apply st_ext | apply st_len | apply st_mki); intro k' hk; simp [go_sem, thenR_ok, bin]; refine hk _ _ ?_; clear hk k')))
      rw [if_neg hc] at hpl
      exact ⟨i, _, _, _, _, rfl, by omega, by omega, by omega, fun x hx => h32 x (List.mem_of_mem_drop hx), hpl, hs.sbl (.cons (.tl .hd) (.cons .hd .all))⟩
  · rintro x1 w ⟨j, m, u1, u2, o, hx1, hj, hm1, ho1, ho32, hpb, hs⟩
    simp only [List.cons.injEq, and_true] at hx1
    simp only [hx1.1, hx1.2.1, hx1.2.2]
    repeat with_reducible refine mv.mk ?_
    refine cl (ih m.length hm1 rfl hs (.tl (.tl hR)) .hd (by omega) hj) ?_
    rintro _ w ⟨v, rfl, hs⟩
    repeat (first
     | (with_reducible (first | refine st_lens ?_ | refine st_eqls ?_ | refine mv.mk ?_ | refine gd_u ?_ | refine gd_ft ?_ | refine gd_tf ?_ | refine gd_i ?_ | refine pk_t ?_ | refine pk_f ?_ | refine br_t ?_ | refine br_f ?_ | refine sp_boxa hs fun g w hs => ?_))
     | (with_reducible ((first | apply st_bin | apply st_ext | apply st_len | apply st_mki); intro k' hk; simp [go_sem, thenR_ok, bin]; refine hk _ _ ?_; clear hk k')))
    refine cl (sha_Root _ rfl hs (.tl (.tl (.tl hR))) (.tl (.tl .hd)) (by omega)) ?_
    rintro _ w ⟨rfl, hs⟩
    have hrl : (rootB o).length = 32 := rootB_len _ rfl ho32
    replace hs := Sep.hash hs hrl
    have hpl2 : (pathB m j).length ≤ m.length := by
      have := fold_path m.length (l := m) (i := j) (Nat.le_refl _) hj
      rw [pathB, ← this.1]
      exact turnsN_len _ _ _
    refine sp_lita hs tHashes ((u8s_length _).trans hrl) (by decide) fun u w hs => ?_
    refine sp_push (ys := u8s (rootB o)) (a := rootB o) hs (.tl (.tl .hd)) tHashes (by exact .sl) (by exact .tl .hd) (u8s_one _) (by omega) (by omega) fun v' w hs => ?_
    repeat with_reducible refine mv.mk ?_
    rw [hpb]
    exact ⟨v', rfl, hs.sbl (.cons .hd (.drop (.drop (.drop (.drop .all)))))⟩
theorem keys_signature_bytes (hs : Isk.Sep b w L) (hc : Ins L (byF cv l).it) (hp : Ins L (listF hshF 32 pv path).it) (hl : leaf < 1024) (hcl : l.length ≤ 1000000) (hpl : path.length ≤ 1000) :
    C Tryz.prog N.keys_signature_bytes #[.agg #[.int .i64 (leaf : Int), cv, pv]] w fun r w' => Isk.Sep b w' ((byF r (sigB leaf l path)).it :: L) := by
  have h32 := hshs_len hs hp
  obtain ⟨A, c, rfl⟩ := bytesF_slice hs hc
  obtain ⟨A2, c2, rfl⟩ := hs.lst_len hp.lst
  have l1 := encU_two (n := leaf) (by omega)
  have l2 := encU_two (n := path.length) (by omega)
  have l3 : (encU l.length).length ≤ 4 := encU_len 3 _ (by simp; omega)
  refine C.keys_signature_bytes ?_
  unfold F.keys_signature_bytes
  refine sp_box (cs := ksigC (.int .i64 (leaf : Int)) (.slice A l.length c) (.slice A2 path.length c2)) hs rfl fun g1 w hs => ?_
  replace hs := hs.drew
  repeat with_reducible refine mv.mk ?_
  refine dr_can (R := [blkI g1 T.keys_signature (ksigC (.int .i64 (leaf : Int)) (.slice A l.length c) (.slice A2 path.length c2))]) hs (.cons .hd .nil) ?_
  have hS : ∀ w, Mayr [blkI g1 T.keys_signature (ksigC (.int .i64 (leaf : Int)) (.slice A l.length c) (.slice A2 path.length c2))] w → Mayr [blkI g1 T.keys_signature (ksigC (.int .i64 (leaf : Int)) (.slice A l.length c) (.slice A2 path.length c2))] w := fun _ h => h
  refine ksig.c0 ?_
  refine ksig.e0 hS .blk ?_
  refine tk_run (fun w => n_u w (by kernel_rfl) (by kernel_rfl) (by omega)) ?_
  refine ksig.c1 ?_
  refine ksig.e1 hS .blk ?_
  refine ksig.c2 ?_
  refine ksig.e2 hS .blk ?_
  refine tk_run (v := .int .i64 (path.length : Int)) (fun w => by simp [go_sem]) ?_
  refine tk_run (fun w => n_u w (by kernel_rfl) (by kernel_rfl) (by omega)) ?_
  refine cl (sp_wNew hs) ?_
  rintro _ w ⟨gw, rfl, hs⟩
  refine ⟨hs.mayr (.drop (.cons .hd .nil)), ?_⟩
  refine cl (sp_wUint hs .hd (by omega) (by simp)) ?_
  rintro _ w ⟨rfl, v1, hs⟩
  refine ⟨hs.mayr (.drop (.cons .hd .nil)), ?_⟩
  rw [List.nil_append] at hs
  refine cl (sp_wBytes hs .hd (.tl hc) (by omega)) ?_
  rintro _ w ⟨rfl, v2, hs⟩
  refine ⟨hs.mayr (.drop (.cons .hd .nil)), ?_⟩
  have hb1 : (encU leaf ++ encB l).length ≤ 1000010 := by simp only [encB, List.length_append]; omega
  refine cl (sp_wUint hs .hd (by omega) (by omega)) ?_
  rintro _ w ⟨rfl, v3, hs⟩
  refine ⟨hs.mayr (.drop (.cons .hd .nil)), ?_⟩
  repeat (first
   | (with_reducible refine ksig.a0 ?_)
   | ((with_reducible apply ksig.r0 hs); (· (with_reducible (repeat (first | exact .blk | exact .rng | apply Rng.tl)))))
   | (with_reducible refine ksig.c0 ?_)
   | ((with_reducible apply ksig.e0); (· first | exact hS | exact hid); (· (with_reducible (repeat (first | exact .blk | exact .rng | apply Rng.tl)))))
   | (with_reducible refine ksig.a1 ?_)
   | ((with_reducible apply ksig.r1 hs); (· (with_reducible (repeat (first | exact .blk | exact .rng | apply Rng.tl)))))
   | (with_reducible refine ksig.c1 ?_)
   | ((with_reducible apply ksig.e1); (· first | exact hS | exact hid); (· (with_reducible (repeat (first | exact .blk | exact .rng | apply Rng.tl)))))
   | (with_reducible refine ksig.a2 ?_)
   | ((with_reducible apply ksig.r2 hs); (· (with_reducible (repeat (first | exact .blk | exact .rng | apply Rng.tl)))))
   | (with_reducible refine ksig.c2 ?_)
   | ((with_reducible apply ksig.e2); (· first | exact hS | exact hid); (· (with_reducible (repeat (first | exact .blk | exact .rng | apply Rng.tl)))))
   | (with_reducible (first | refine st_lens ?_ | refine mv.mk ?_ | refine br_t ?_ | refine br_f ?_ | refine sp_boxa hs fun g w hs => ?_))
   | (with_reducible ((first | apply st_bin | apply st_len | apply st_conv); intro k' hk; simp [go_sem, thenR_ok, bin]; refine hk _ _ ?_; clear hk k'))
   | ((with_reducible (first | apply tk_len)); (· intro w; simp [go_sem, bin]; rfl))
   | ((with_reducible apply sp_newr hs); (· kernel_rfl); intro g w hs))
  have hb2 : (encU leaf ++ encB l ++ encU path.length).length ≤ 1000020 := by rw [List.length_append]; omega
  generalize hpre : encU leaf ++ encB l ++ encU path.length = pre at *
  have hfl : ∀ i, i ≤ path.length → ((path.take i).flatten).length = 32 * i := fun i hi => by
    rw [List.length_flatten]
    have : (path.take i).map List.length = List.replicate i 32 := by
      apply List.eq_replicate_iff.2
      refine ⟨by simp; omega, fun y hy => ?_⟩
      obtain ⟨z, hz, rfl⟩ := List.mem_map.1 hy
      exact h32 z (List.mem_of_mem_take hz)
    rw [this]
    simp [Nat.mul_comm]
  refine lp_by (fun us w' => ∃ (i : Nat) (v : Value), us = [.int .i64 (i : Int)] ∧ i ≤ path.length ∧ Isk.Sep b w' (wrI gw v (pre ++ (path.take i).flatten) :: blkI g1 T.keys_signature (ksigC (.int .i64 (leaf : Int)) (.slice A l.length c) (.slice A2 path.length c2)) :: L)) (fun us _ => match us with | [.int _ m] => path.length - m.toNat | _ => 0) ⟨0, v3, rfl, Nat.zero_le _, by simpa using hs⟩ ?_
  clear hs
  rintro x1 w ⟨i, v, hx1, hi, hs⟩
  simp only [List.cons.injEq, and_true] at hx1
  simp only [hx1]
  repeat (first
   | (with_reducible (first | refine st_lens ?_ | refine mv.mk ?_ | refine br_t ?_ | refine br_f ?_ | refine sp_boxa hs fun g w hs => ?_))
   | (with_reducible ((first | apply st_bin | apply st_len | apply st_conv); intro k' hk; simp [go_sem, thenR_ok, bin]; refine hk _ _ ?_; clear hk k'))
   | ((with_reducible (first | apply tk_len)); (· intro w; simp [go_sem, bin]; rfl))
   | ((with_reducible apply sp_newr hs); (· kernel_rfl); intro g w hs))
  refine br_split (fun hq => ?_) (fun hq => ?_)
  · have hi' : i < path.length := by have := of_decide_eq_true hq; omega
    refine sp_eln hs (F := hshF) (ls := path) (.tl (.tl hp.lst)) tHashes (by kernel_rfl) i rfl hi' fun x hxl hs => ?_
    obtain ⟨hx1, hx2⟩ : x = u8s path[i] ∧ (path[i]).length = 32 := hs.get (I := (hshF x path[i]).it) .hd
    subst hx1
    refine sp_newr hs (by kernel_rfl) fun g5 w hs => ?_
    refine sp_setr (ds := u8s path[i]) hs .hd (by kernel_rfl) hxl (u8s_one _) fun w hs => ?_
    repeat with_reducible refine mv.mk ?_
    refine sp_ldn hs .blk (by kernel_rfl) hxl ?_
    have := hfl i hi
    refine cl (sp_wHash hs (.tl (.tl .hd)) hx2 (by rw [List.length_append]; omega)) ?_
    rintro _ w ⟨rfl, v', hs⟩
    repeat (first
     | (with_reducible (first | refine st_lens ?_ | refine mv.mk ?_ | refine br_t ?_ | refine br_f ?_ | refine sp_boxa hs fun g w hs => ?_))
     | (with_reducible ((first | apply st_bin | apply st_len | apply st_conv); intro k' hk; simp [go_sem, thenR_ok, bin]; refine hk _ _ ?_; clear hk k'))
     | ((with_reducible (first | apply tk_len)); (· intro w; simp [go_sem, bin]; rfl))
     | ((with_reducible apply sp_newr hs); (· kernel_rfl); intro g w hs))
    rw [i64_succ (by omega)]
    refine ⟨⟨i + 1, v', rfl, hi', ?_⟩, by simp; omega⟩
    rw [List.take_succ_eq_append_getElem hi', List.flatten_append, ← List.append_assoc, List.flatten_cons, List.flatten_nil, List.append_nil]
    exact hs.sbl (.cons .hd (.drop (.drop .all)))
  · obtain rfl : i = path.length := by have := of_decide_eq_false hq; omega
    have := hfl path.length (Nat.le_refl _)
    repeat with_reducible refine mv.mk ?_
    refine cl (sp_wDone hs .hd (by rw [List.length_append]; omega)) ?_
    rintro r w hs
    repeat with_reducible refine mv.mk ?_
    rw [List.take_length, ← hpre, List.append_assoc, List.append_assoc] at hs
    exact hs.sbl (.cons .hd (.drop .all))
end
end Go.Proofs.YtbbmgkbinnomgaaGreatDoor
