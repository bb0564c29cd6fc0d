/- Writers as items. -/
import Derived.Test.YtbbmgkbinnomgaaGreatDoorJ1
import Derived.Test.YtbbmgkbinnomgaaGreatDoorK9
import Derived.Test.YtbbmgkbinnomgaaGreatDoorW7
set_option linter.unusedVariables false
set_option linter.unusedSimpArgs false
set_option linter.unusedSectionVars false
namespace Go.Proofs.YtbbmgkbinnomgaaGreatDoor
open Go Go.Isk Go.RowKit
set_option maxRecDepth 20000
def wrI (g : Nat) (v : Value) (l : List UInt8) : It :=
  ⟨g :: v.ownBlock.toList, fun _ w => Wr 0 w g v l, fun h hu hd => ⟨Nat.zero_le _, h.blk.keep hu (hd g (.inl (List.mem_cons_self ..))), own_keep h.own hu fun k hk => hd k (.inl (by simp [hk]))⟩, fun h _ => h⟩
section
variable {b : Base} {w : World} {L R : List It} {g n : Nat} {v x : Value} {l h xs : List UInt8}
theorem wr_turn {w' : World} {l' : List UInt8} (hs : Isk.Sep b w L) (hm : Has L (wrI g v l) R) (hS : Ws 0 w v g w' l') : ∃ v', Isk.Sep b w' (wrI g v' l' :: R) := by
  obtain ⟨v', hW', hv⟩ := hS.now
  refine ⟨v', hs.turn hm hS.upd (fun k _ hk => ?_) (fun k hk => ?_) hW'⟩
  · rcases hk with rfl | hk
    · exact .head _
    · exact List.mem_cons_of_mem _ (by simp [hk])
  · rcases List.mem_cons.1 (show k ∈ g :: v'.ownBlock.toList from hk) with rfl | hk
    · exact ⟨hW'.blk.lt, .inl (.head _)⟩
    · have hk : v'.ownBlock = some k := by simpa using hk
      refine ⟨own_ids hW'.own k (by simp [hk]), ?_⟩
      rcases hv with e | ⟨k', e, hk'⟩
      · exact .inl (List.mem_cons_of_mem _ (by simp [← e, hk]))
      · rw [e] at hk
        cases hk
        exact .inr hk'
theorem sp_wNew (hs : Isk.Sep b w L) : C Tryz.prog N.pack_New #[] w fun r w' => ∃ g, r = .pointer (some ⟨g, 0, none⟩) ∧ Isk.Sep b w' (wrI g (.slice none 0 0) [] :: L) := by
  refine cl pack_New ?_
  rintro _ w2 ⟨g, rfl, hW, hu⟩
  exact ⟨g, rfl, hs.add (I := wrI g (.slice none 0 0) []) hu (fun k hk => by
    have hk : k = g := by simpa [wrI, Value.ownBlock] using hk
    subst hk
    exact ⟨hW.blk.lt, hW.ge⟩) ⟨Nat.zero_le _, hW.blk, own_nil⟩⟩
theorem sp_wUint (hs : Isk.Sep b w L) (hm : Has L (wrI g v l) R) (hn : n < 18446744073709551616) (hl : l.length + 10 ≤ 2147483648) :
    C Tryz.prog N.pack_Writer_Uint #[.pointer (some ⟨g, 0, none⟩), .int .u64 n] w fun r w' => r = .pointer (some ⟨g, 0, none⟩) ∧ ∃ v', Isk.Sep b w' (wrI g v' (l ++ encU n) :: R) := by
  have hW : Wr 0 w g v l := hs.get hm.ins
  refine cl (pack_Writer_Uint hn hW.start hl) ?_
  rintro _ w' ⟨rfl, hS⟩
  exact ⟨rfl, wr_turn hs hm hS⟩
theorem sp_wHash (hs : Isk.Sep b w L) (hm : Has L (wrI g v l) R) (hh : h.length = 32) (hl : l.length + 32 ≤ 2147483648) :
    C Tryz.prog N.pack_Writer_Hash #[.pointer (some ⟨g, 0, none⟩), .agg (u8s h).toArray] w fun r w' => r = .pointer (some ⟨g, 0, none⟩) ∧ ∃ v', Isk.Sep b w' (wrI g v' (l ++ h) :: R) := by
  have hW : Wr 0 w g v l := hs.get hm.ins
  refine cl (pack_Writer_Hash hh hW.start hl) ?_
  rintro _ w' ⟨rfl, hS⟩
  exact ⟨rfl, wr_turn hs hm hS⟩
theorem sp_wDone (hs : Isk.Sep b w L) (hm : Has L (wrI g v l) R) (hl : l.length ≤ 2147483648) :
    C Tryz.prog N.pack_Writer_Done #[.pointer (some ⟨g, 0, none⟩)] w fun r w' => Isk.Sep b w' ((byF r l).it :: R) := by
  have hW : Wr 0 w g v l := hs.get hm.ins
  refine cl (pack_Writer_Done hW hl) ?_
  intro r w' hN
  exact newB_sep (hs.drop hm) hN
theorem sp_wBytes (hs : Isk.Sep b w L) (hm : Has L (wrI g v l) R) (hx : Ins R (byF x xs).it) (hl : l.length + xs.length + 10 ≤ 2147483648) :
    C Tryz.prog N.pack_Writer_Bytes #[.pointer (some ⟨g, 0, none⟩), x] w fun r w' => r = .pointer (some ⟨g, 0, none⟩) ∧ ∃ v', Isk.Sep b w' (wrI g v' (l ++ encB xs) :: R) := by
  have hW : Wr 0 w g v l := hs.get hm.ins
  have hp := hs.perm hm.perm
  have hf : (byF x xs).holds (Stb w (wrI g v l :: R)) w := hp.get (Ins.tl hx)
  refine cl (pack_Writer_Bytes' hf.1 (fun hn k hk => ?_) hW hl) ?_
  · have hst := hf.2 (by rw [Nat.mul_one]; exact hn) k hk
    refine ⟨fun e => hst.2 ⟨_, .head _, by rw [e]; exact .head _⟩, fun e => hst.2 ⟨_, .head _, List.mem_cons_of_mem _ (by simp [e])⟩⟩
  · rintro _ w' ⟨rfl, hS⟩
    exact ⟨rfl, wr_turn hs hm hS⟩
end
end Go.Proofs.YtbbmgkbinnomgaaGreatDoor
set_option linter.unusedVariables false
set_option linter.unusedSimpArgs false
set_option linter.unusedSectionVars false
namespace Go.Proofs.YtbbmgkbinnomgaaGreatDoor
open Go Go.Isk Go.RowKit
set_option maxRecDepth 20000
section
variable {b : Base} {w : World} {L R : List It} {g n leaf chain : Nat} {v x pv dv : Value} {l h xs seed d : List UInt8} {ps : List Nat}
theorem sp_mkn {P : Program} {T E by_ sz : Nat} {k : Value → World → Prop} {c : Int} (h : Isk.Sep b w L) (hT : slT P T E sz by_ = true) (n : Nat) (hc : c = n) (hb : by_ * n ≤ 140737488355328) (hn : n ≤ 140737488355328)
    (hk : ∀ v w' zs, zs.length = n * sz → Isk.Sep b w' (rowI v E sz n zs :: L) → k v w') : o1 P (Instr.makeSlice T (.int .i64 c) (.int .i64 c)) w k := by
  obtain ⟨ht, _, i, z, hi, hz, hs, hby, _⟩ := slT.spec hT
  obtain ⟨w', hrun, ho, hg⟩ := run_make_full (P := P) w w.heap.size T E i z sz ht hi hz hs .i64 .i64 n (by rw [hby]; omega) (by simp only [maxLen]; omega) (Nat.le_refl _)
  subst hc
  refine st_of hrun (hk _ _ _ ho.1 ?_)
  have hu : Ext w w' := ⟨hg.os, hg.tape, hg.output, hg.size, fun k hk _ => hg.block k hk (by simp)⟩
  exact h.add (I := rowI _ E sz n _) hu (fun k hk => ⟨own_ids ho k (by simpa [rowI] using hk), by simp [rowI, Value.ownBlock] at hk; omega⟩) (own0 ho)
theorem wots_first (hs : Isk.Sep b w L) (hR : Ins L rndF.it) (hsd : seed.length = 32) (hl : leaf < 1024) (hc : chain < 1024) :
    C Tryz.prog N.wots_first #[.agg (u8s seed).toArray, .int .i64 (leaf : Int), .int .i64 (chain : Int)] w fun r w' => r = .agg (u8s (firstB seed leaf chain)).toArray ∧ Isk.Sep b w' L := by
  have l1 := encU_two (n := leaf) (by omega)
  have l2 := encU_two (n := chain) (by omega)
  refine C.wots_first ?_
  unfold F.wots_first
  refine sp_boxa hs fun g3 w hs => ?_
  refine sp_newr hs (by kernel_rfl) fun g6 w hs => ?_
  replace hs := hs.drew
  refine dr_can (R := [blkI g3 T.api_Hash (u8s seed)]) hs (.drop (.cons .hd .nil)) ?_
  repeat with_reducible refine mv.mk ?_
  refine tk_ldn hid .blk (by kernel_rfl) (by rw [u8s_length, hsd]) ?_
  repeat with_reducible refine mv.mk ?_
  refine tk_run (fun w => n_u w (by kernel_rfl) (by kernel_rfl) (by omega)) ?_
  repeat with_reducible refine mv.mk ?_
  refine tk_run (fun w => n_u w (by kernel_rfl) (by kernel_rfl) (by omega)) ?_
  refine cl (sp_wNew hs) ?_
  rintro _ w ⟨gw, rfl, hs⟩
  refine ⟨hs.mayr (.drop (.drop (.cons .hd .nil))), ?_⟩
  refine cl (sp_wHash hs .hd hsd (by simp)) ?_
  rintro _ w ⟨rfl, v1, hs⟩
  refine ⟨hs.mayr (.drop (.drop (.cons .hd .nil))), ?_⟩
  rw [List.nil_append] at hs
  refine cl (sp_wUint hs .hd (by omega) (by omega)) ?_
  rintro _ w ⟨rfl, v2, hs⟩
  refine ⟨hs.mayr (.drop (.drop (.cons .hd .nil))), ?_⟩
  refine cl (sp_wUint hs .hd (by omega) (by rw [List.length_append]; omega)) ?_
  rintro _ w ⟨rfl, v3, hs⟩
  refine ⟨hs.mayr (.drop (.drop (.cons .hd .nil))), ?_⟩
  rw [List.append_assoc] at hs
  have hlen : (seed ++ (encU leaf ++ encU chain)).length ≤ 36 := by simp only [List.length_append]; omega
  repeat with_reducible refine mv.mk ?_
  refine sp_row1 (c := 2) hs fun u w hs => ?_
  repeat with_reducible refine mv.mk ?_
  refine cl (sp_wDone hs (.tl .hd) (by omega)) ?_
  rintro r w hs
  refine sp_appY (m := seed ++ (encU leaf ++ encU chain)) hs (.tl .hd) .byt (by simp only [List.length_cons, List.length_nil]; omega) fun u w hs => ?_
  replace hs := hs.rowB .hd
  refine cl (sha_Sum hs (.tl (.tl (.tl (.tl hR)))) .hd (by rw [List.length_append]; simp only [List.length_cons, List.length_nil]; omega)) ?_
  rintro _ w ⟨rfl, hs⟩
  refine sp_ret hs (.tl (.tl .hd)) (by kernel_rfl) (by rw [u8s_length, shaB_len]) (u8s_one _) fun w hs => ?_
  exact ⟨rfl, hs.sbl (.drop (.drop (.drop .all)))⟩
theorem wots_chains (hs : Isk.Sep b w L) (hR : Ins L rndF.it) (hsd : seed.length = 32) (hl : leaf < 1024) (hn : n < 1024) (hpl : ps.length = n) (h15 : ∀ x ∈ ps, x ≤ 15) (hp : Ins L (slF pv n 1 (ints ps)).it) :
    C Tryz.prog N.wots_chains #[.agg (u8s seed).toArray, .int .i64 (leaf : Int), pv] w fun r w' => Isk.Sep b w' (rowI r T.uint8 1 (chainsB seed leaf ps n).length (u8s (chainsB seed leaf ps n)) :: L) := by
  have hDs := (hs.get hp).1
  obtain ⟨A3, c3, hds0, -⟩ := id hDs
  have hlen3 : ∀ w', (Builtin.len_ #[T.sl_int] T.int #[pv]).run Tryz.prog w' = .ok (.int .i64 (n : Int)) w' := fun w' => by rw [hds0]; simp [go_sem]
  clear hds0 hDs
  refine C.wots_chains ?_
  unfold F.wots_chains
  refine sp_boxa hs fun g3 w hs => ?_
  replace hs := hs.row0 T.uint8 1
  repeat with_reducible refine mv.mk ?_
  refine st_of (hlen3 w) ?_
  repeat with_reducible refine mv.mk ?_
  refine lp_by (fun us w' => ∃ (i : Nat) (v7 y z : Value), us = [v7, y, z, .int .i64 (i : Int)] ∧ i ≤ n ∧ Isk.Sep b w' (rowI v7 T.uint8 1 (chainsB seed leaf ps i).length (u8s (chainsB seed leaf ps i)) :: blkI g3 T.api_Hash (u8s seed) :: L)) (fun us _ => match us with | [_, _, _, .int _ m] => n - m.toNat | _ => 0) ⟨0, _, _, _, rfl, Nat.zero_le _, hs⟩ ?_
  clear hs
  rintro x1 w ⟨i, v7, y, z, hx1, hi, hs⟩
  simp only [List.cons.injEq, and_true] at hx1
  simp only [hx1.1, hx1.2.1, hx1.2.2.1, hx1.2.2.2]
  have hel : (chainsB seed leaf ps i).length = 32 * i := chainsB_len
  repeat (first
   | (with_reducible (first | refine st_lens ?_ | refine mv.mk ?_ | refine br_t ?_ | refine br_f ?_ | refine sp_boxa hs fun g w hs => ?_))
   | (with_reducible ((first | apply st_bin | apply st_len); intro k' hk; simp [go_sem, thenR_ok, bin]; refine hk _ _ ?_; clear hk k'))
   | ((with_reducible apply sp_newr hs); (· kernel_rfl); intro g w hs))
  refine br_split (fun hq => ?_) (fun hq => ?_)
  · have hin : i < n := by have := of_decide_eq_true hq; omega
    have hix : i < ps.length := by omega
    have hx15 := h15 _ (List.getElem_mem hix)
    repeat with_reducible refine mv.mk ?_
    refine int_at ((hs.get (.tl (.tl hp))).1) hin (List.getElem?_eq_getElem hix) ?_
    repeat with_reducible refine mv.mk ?_
    refine sp_ldn hs (.tl .blk) (by kernel_rfl) (by rw [u8s_length, hsd]) ?_
    repeat with_reducible refine mv.mk ?_
    refine cl (wots_first hs (.tl (.tl hR)) hsd hl (by omega)) ?_
    rintro _ w ⟨rfl, hs⟩
    repeat with_reducible refine mv.mk ?_
    refine cl (wots_Step (x := firstB seed leaf i) (f := 0) (to := ps[i]) hs (.tl (.tl hR)) (by unfold firstB; exact shaB_len _) hl (by omega) (by decide) (by omega)) ?_
    rintro _ w ⟨rfl, hs⟩
    have hcv : stepB (firstB seed leaf i) leaf i 0 ps[i] = chainV seed leaf i (ps.getD i 0) := by
      rw [List.getD_eq_getElem?_getD, List.getElem?_eq_getElem hix]
      rfl
    rw [hcv]
    have hvl := chainV_len seed leaf i (ps.getD i 0)
    have hst := chainsB_succ seed leaf ps i
    generalize chainV seed leaf i (ps.getD i 0) = val at *
    refine sp_newr hs (by kernel_rfl) fun g12 w hs => ?_
    refine sp_setr (ds := u8s val) hs .hd (by kernel_rfl) ((u8s_length _).trans hvl) (u8s_one _) fun w hs => ?_
    repeat with_reducible refine mv.mk ?_
    refine sp_sla tHash (by decide) ?_
    replace hs := Sep.blkSl hs .hd hvl
    refine sp_app (m := 32) (ys := u8s val) hs (.tl .hd) tByt (hvl ▸ .byt) (u8s_one _) (by omega) (by omega) fun v10 w hs => ?_
    repeat (first
     | (with_reducible (first | refine st_lens ?_ | refine mv.mk ?_ | refine br_t ?_ | refine br_f ?_ | refine sp_boxa hs fun g w hs => ?_))
     | (with_reducible ((first | apply st_bin | apply st_len); intro k' hk; simp [go_sem, thenR_ok, bin]; refine hk _ _ ?_; clear hk k'))
     | ((with_reducible apply sp_newr hs); (· kernel_rfl); intro g w hs))
    have e2 : u8s (chainsB seed leaf ps i) ++ u8s val = u8s (chainsB seed leaf ps (i + 1)) := by rw [hst]; simp [u8s]
    have e3 : (chainsB seed leaf ps i).length + 32 = (chainsB seed leaf ps (i + 1)).length := by rw [hst, List.length_append, hvl]
    rw [e2, e3] at hs
    rw [i64_succ (by omega)]
    exact ⟨⟨i + 1, v10, _, _, rfl, hin, hs.sbl (.cons .hd (.drop .all))⟩, by simp; omega⟩
  · obtain rfl : i = n := by have := of_decide_eq_false hq; omega
    repeat with_reducible refine mv.mk ?_
    exact hs.sbl (.cons .hd (.drop .all))
theorem wots_Public (hs : Isk.Sep b w L) (hR : Ins L rndF.it) (hsd : seed.length = 32) (hl : leaf < 1024) (h1 : 1 ≤ n) (h2 : n ≤ 32) :
    C Tryz.prog N.wots_Public #[.agg (u8s seed).toArray, .int .i64 (leaf : Int), .int .i64 (n : Int)] w fun r w' => r = .tuple #[.agg (u8s (publicB seed leaf n)).toArray, .nilIface] ∧ Isk.Sep b w' L := by
  have hok : digOk (n : Int) = true := by simp [digOk]; omega
  have hck : wCheck (leaf : Int) (n : Int) = 0 := by unfold wCheck; rw [if_pos ⟨by omega, by omega, hok⟩]
  refine C.wots_Public ?_
  unfold F.wots_Public
  refine sp_boxa hs fun g3 w hs => ?_
  refine sp_newr hs (by kernel_rfl) fun g6 w hs => ?_
  repeat with_reducible refine mv.mk ?_
  refine cl (wots_check hs) ?_
  rintro e w hs
  rw [hck] at hs
  repeat with_reducible refine mv.mk ?_
  refine st_of (err_neq hs .hd) ?_
  refine br_f ?_
  repeat with_reducible refine mv.mk ?_
  refine cl (wots_Len hok) ?_
  rintro _ _ ⟨rfl, rfl⟩
  refine sp_mkn hs tInts (2 * n + 3) (by omega) (by omega) (by omega) fun v9 w zs hz hs => ?_
  obtain ⟨A, c, rfl, hcap⟩ := own_cap (hs.get .hd)
  rw [Nat.mul_one] at hz
  repeat (first
   | (with_reducible (first | refine st_lens ?_ | refine st_nels ?_ | refine mv.mk ?_ | refine br_t ?_ | refine br_f ?_ | refine sp_boxa hs fun g w hs => ?_))
   | (with_reducible ((first | apply st_bin | apply st_len); intro k' hk; simp [go_sem, thenR_ok, bin]; refine hk _ _ ?_; clear hk k'))
   | ((with_reducible apply sp_newr hs); (· kernel_rfl); intro g w hs))
  refine lp_by (fun us w' => ∃ (i : Nat) (y : Value) (zs : List Value), us = [y, .int .i64 (i : Int)] ∧ i ≤ 2 * n + 3 ∧ zs.length = 2 * n + 3 ∧ zs.take i = ints (List.replicate i 15) ∧ Isk.Sep b w' (rowI (.slice A (2 * n + 3) c) T.int 1 (2 * n + 3) zs :: (errF e 0).it :: resI Tryz.prog g6 T.api_Hash :: blkI g3 T.api_Hash (u8s seed) :: L)) (fun us _ => match us with | [_, .int _ m] => 2 * n + 3 - m.toNat | _ => 0) ⟨0, _, zs, rfl, Nat.zero_le _, hz, rfl, hs⟩ ?_
  clear hs hz zs
  rintro x1 w ⟨i, y, zs, hx1, hi, hz, htk, hs⟩
  simp only [List.cons.injEq, and_true] at hx1
  simp only [hx1.1, hx1.2]
  repeat (first
   | (with_reducible (first | refine st_lens ?_ | refine st_nels ?_ | refine mv.mk ?_ | refine br_t ?_ | refine br_f ?_ | refine sp_boxa hs fun g w hs => ?_))
   | (with_reducible ((first | apply st_bin | apply st_len); intro k' hk; simp [go_sem, thenR_ok, bin]; refine hk _ _ ?_; clear hk k'))
   | ((with_reducible apply sp_newr hs); (· kernel_rfl); intro g w hs))
  refine br_split (fun hq => ?_) (fun hq => ?_)
  · have hin : i < 2 * n + 3 := by have := of_decide_eq_true hq; omega
    repeat with_reducible refine mv.mk ?_
    refine sp_setv hs .hd tInts (by kernel_rfl) i rfl hin ⟨rfl, rfl⟩ fun w hs => ?_
    repeat (first
     | (with_reducible (first | refine st_lens ?_ | refine st_nels ?_ | refine mv.mk ?_ | refine br_t ?_ | refine br_f ?_ | refine sp_boxa hs fun g w hs => ?_))
     | (with_reducible ((first | apply st_bin | apply st_len); intro k' hk; simp [go_sem, thenR_ok, bin]; refine hk _ _ ?_; clear hk k'))
     | ((with_reducible apply sp_newr hs); (· kernel_rfl); intro g w hs))
    rw [i64_succ (by omega)]
    refine ⟨⟨i + 1, _, _, rfl, hin, by rw [List.length_set]; exact hz, ?_, hs⟩, by simp; omega⟩
    rw [List.take_succ_eq_append_getElem (by rw [List.length_set]; omega), List.getElem_set_self, List.take_set, List.set_eq_of_length_le (by rw [List.length_take]; omega), htk, List.replicate_succ']
    simp [ints]
  · obtain rfl : i = 2 * n + 3 := by have := of_decide_eq_false hq; omega
    rw [List.take_of_length_le (by omega)] at htk
    subst htk
    replace hs := hs.rowF .hd
    refine sp_ldn hs (.tl (.tl (.tl .blk))) (by kernel_rfl) (by rw [u8s_length, hsd]) ?_
    repeat with_reducible refine mv.mk ?_
    refine cl (wots_chains (ps := List.replicate (2 * n + 3) 15) hs (.tl (.tl (.tl (.tl hR)))) hsd hl (by omega) (by simp) (fun x hx => by rw [List.eq_of_mem_replicate hx]; exact Nat.le_refl _) .hd) ?_
    rintro r w hs
    replace hs := hs.rowB .hd
    refine cl (sha_Leaf hs (.tl (.tl (.tl (.tl (.tl hR))))) .hd (by rw [chainsB_len]; omega)) ?_
    rintro _ w ⟨rfl, hs⟩
    have hpl : (u8s (publicB seed leaf n)).length = 32 := (u8s_length _).trans (shaB_len _)
    refine sp_setr (ds := u8s (publicB seed leaf n)) hs (.tl (.tl (.tl .hd))) (by kernel_rfl) hpl (u8s_one _) fun w hs => mv.mk (sp_rc hs .hd (by kernel_rfl) hpl ?_)
    exact ⟨rfl, hs.sbl (.drop (.drop (.drop (.drop (.drop .all)))))⟩
theorem wots_Sign (hs : Isk.Sep b w L) (hR : Ins L rndF.it) (hd : Ins L (byF dv d).it) (hsd : seed.length = 32) (hl : leaf < 1024) (h1 : 1 ≤ d.length) (h2 : d.length ≤ 32) :
    C Tryz.prog N.wots_Sign #[.agg (u8s seed).toArray, .int .i64 (leaf : Int), dv] w fun r w' => ∃ v, r = .tuple #[v, .nilIface] ∧ Isk.Sep b w' ((byF v (signW seed leaf d)).it :: L) := by
  have hok : digOk (d.length : Int) = true := by simp [digOk]; omega
  have hck : wCheck (leaf : Int) (d.length : Int) = 0 := by unfold wCheck; rw [if_pos ⟨by omega, by omega, hok⟩]
  obtain ⟨A2, c2, rfl⟩ := bytesF_slice hs hd
  refine C.wots_Sign ?_
  unfold F.wots_Sign
  refine sp_boxa hs fun g3 w hs => ?_
  repeat (first
   | (with_reducible (first | refine st_lens ?_ | refine st_nels ?_ | refine mv.mk ?_ | refine br_t ?_ | refine br_f ?_ | refine sp_boxa hs fun g w hs => ?_))
   | (with_reducible ((first | apply st_bin | apply st_len); intro k' hk; simp [go_sem, thenR_ok, bin]; refine hk _ _ ?_; clear hk k')))
  refine cl (wots_check hs) ?_
  rintro e w hs
  rw [hck] at hs
  repeat with_reducible refine mv.mk ?_
  refine st_of (err_neq hs .hd) ?_
  refine br_f ?_
  replace hs := hs.drew
  refine dr_can (R := [blkI g3 T.api_Hash (u8s seed)]) hs (.drop (.cons .hd .nil)) ?_
  repeat with_reducible refine mv.mk ?_
  refine tk_ldn hid .blk (by kernel_rfl) (by rw [u8s_length, hsd]) ?_
  repeat with_reducible refine mv.mk ?_
  refine cl (wots_Digits hs (.tl (.tl hd)) h1 h2) ?_
  rintro ds w hs
  refine ⟨hs.mayr (.drop (.drop (.cons .hd .nil))), ?_⟩
  replace hs := hs.rowF .hd
  refine cl (wots_chains (ps := digitsB d) hs (.tl (.tl (.tl hR))) hsd hl (by omega) (digitsB_len d) (digitsB_lt d) .hd) ?_
  rintro r w hs
  refine ⟨hs.mayr (.drop (.drop (.drop (.cons .hd .nil)))), ?_⟩
  replace hs := hs.rowB .hd
  repeat with_reducible refine mv.mk ?_
  exact ⟨r, rfl, hs.sbl (.cons .hd (.drop (.drop (.drop .all))))⟩
end
end Go.Proofs.YtbbmgkbinnomgaaGreatDoor
