/- Keys: what a key may be, in the program. -/
import Derived.Test.YtbbmgkbinnomgaaGreatDoorW9
set_option linter.unusedVariables false
set_option linter.unusedSimpArgs false
set_option linter.unusedSectionVars false
namespace Go.Proofs.YtbbmgkbinnomgaaGreatDoor
open Go Go.Isk Go.RowKit
set_option maxRecDepth 20000
section
variable {b : Base} {w : World} {L R : List It} {g : Nat} {v sv : Value} {cs : List Value} {l : Bytes} {s : Rdr} {most : Nat}
theorem keys_fault {x : ByteArray} {e : Int} (he : e ≠ 0) (h1 : -9223372036854775808 ≤ e) (h2 : e ≤ 9223372036854775807) (hs : Isk.Sep b w L) : C Tryz.prog N.keys_fault #[.string x, .iface EN (.int .i64 e)] w fun r w' => Isk.Sep b w' ((errF r e).it :: L) := by
  refine C.keys_fault ?_
  unfold F.keys_fault
  repeat with_reducible refine mv.mk ?_
  refine st_build (cells := #[.string x, .iface EN (.int .i64 e)]) (by kernel_rfl) ?_
  refine sp_box (cs := [.string x, .iface EN (.int .i64 e)]) hs rfl fun g w hs => ?_
  refine st1 fun k' hk => ?_; simp [go_sem, thenR_ok, bin]; refine hk _ _ ?_; clear hk k'
  repeat with_reducible refine mv.mk ?_
  exact mkFault he h1 h2 hs (by first | ((repeat (first | with_reducible exact Has.hd | with_reducible apply Has.tl)); done) | (repeat (first | exact Has.hd | with_reducible apply Has.tl)))
/-- may a key be so: 0 or the error -/
def kCheck (digest depth : Int) : Int := if digest < 1 ∨ 32 < digest ∨ depth < 0 ∨ 10 < depth then 20 else 0
theorem keys_Check {dg dp : Int} (hs : Isk.Sep b w L) : C Tryz.prog N.keys_Check #[.agg #[.int .i64 dg, .int .i64 dp]] w fun r w' => Isk.Sep b w' ((errF r (kCheck dg dp)).it :: L) := by
  refine C.keys_Check ?_
  unfold F.keys_Check
  refine sp_box (cs := [.int .i64 dg, .int .i64 dp]) hs rfl fun g w hs => ?_
  have f0 : ∀ w', (Instr.fieldAt T.api_Params (.pointer (some ⟨g, 0, none⟩)) 0).run Tryz.prog w' = .ok (.pointer (some ⟨g, 0, none⟩)) w' := fun w' => fieldAt_run (off := 0) (by kernel_rfl) _ _ _
  have f1 : ∀ w', (Instr.fieldAt T.api_Params (.pointer (some ⟨g, 0, none⟩)) 1).run Tryz.prog w' = .ok (.pointer (some ⟨g, 1, none⟩)) w' := fun w' => fieldAt_run (off := 1) (by kernel_rfl) _ _ _
  have hB : Blk w g _ _ := hs.get .hd
  have l0 : (Instr.loadAt 3 (.pointer (some ⟨g, 0, none⟩))).run Tryz.prog w = .ok (.int .i64 dg) w := load_one (by kernel_rfl) (by rw [hB.cell]; rfl)
  have l1 : (Instr.loadAt 3 (.pointer (some ⟨g, 1, none⟩))).run Tryz.prog w = .ok (.int .i64 dp) w := load_one (by kernel_rfl) (by rw [hB.cell]; rfl)
  have fin1 : kCheck dg dp = 20 → C Tryz.prog N.keys_fault #[.string ⟨#[112, 97, 114, 97, 109, 115]⟩, .iface EN (.int .i64 20)] w fun r w' => Isk.Sep b w' ((errF r (kCheck dg dp)).it :: L) := fun e => by
    rw [e]
    refine cl (keys_fault (by decide) (by decide) (by decide) hs) ?_
    rintro r w hs
    exact hs.sbl (.cons .hd (.drop .all))
  repeat with_reducible refine mv.mk ?_
  refine st_of (f0 _) (st_of l0 ?_)
  by_cases h1 : dg < 1
  · repeat (first
     | (with_reducible (first | refine mv.mk ?_ | refine gd_u ?_ | refine gd_ft ?_ | refine gd_tf ?_ | refine gd_i ?_ | refine pk_t ?_ | refine pk_f ?_ | refine br_t ?_ | refine br_f ?_ | refine sp_boxa hs fun g w hs => ?_))
     | (with_reducible ((first | apply st_bin | apply st_mki); intro k' hk; simp [go_sem, thenR_ok, bin]; refine hk _ _ ?_; clear hk k')))
    rw [decide_eq_true h1]
    repeat (first
     | (with_reducible (first | refine mv.mk ?_ | refine gd_u ?_ | refine gd_ft ?_ | refine gd_tf ?_ | refine gd_i ?_ | refine pk_t ?_ | refine pk_f ?_ | refine br_t ?_ | refine br_f ?_ | refine sp_boxa hs fun g w hs => ?_))
     | (with_reducible ((first | apply st_bin | apply st_mki); intro k' hk; simp [go_sem, thenR_ok, bin]; refine hk _ _ ?_; clear hk k')))
    exact cl (fin1 (by rw [kCheck, if_pos (.inl h1)])) fun r w hs => mv.mk hs
  repeat (first
   | (with_reducible (first | refine mv.mk ?_ | refine gd_u ?_ | refine gd_ft ?_ | refine gd_tf ?_ | refine gd_i ?_ | refine pk_t ?_ | refine pk_f ?_ | refine br_t ?_ | refine br_f ?_ | refine sp_boxa hs fun g w hs => ?_))
   | (with_reducible ((first | apply st_bin | apply st_mki); intro k' hk; simp [go_sem, thenR_ok, bin]; refine hk _ _ ?_; clear hk k')))
  rw [decide_eq_false h1]
  repeat (first
   | (with_reducible (first | refine mv.mk ?_ | refine gd_u ?_ | refine gd_ft ?_ | refine gd_tf ?_ | refine gd_i ?_ | refine pk_t ?_ | refine pk_f ?_ | refine br_t ?_ | refine br_f ?_ | refine sp_boxa hs fun g w hs => ?_))
   | (with_reducible ((first | apply st_bin | apply st_mki); intro k' hk; simp [go_sem, thenR_ok, bin]; refine hk _ _ ?_; clear hk k')))
  refine st_of (f0 _) ?_
  repeat (first
   | (with_reducible (first | refine mv.mk ?_ | refine gd_u ?_ | refine gd_ft ?_ | refine gd_tf ?_ | refine gd_i ?_ | refine pk_t ?_ | refine pk_f ?_ | refine br_t ?_ | refine br_f ?_ | refine sp_boxa hs fun g w hs => ?_))
   | (with_reducible ((first | apply st_bin | apply st_mki); intro k' hk; simp [go_sem, thenR_ok, bin]; refine hk _ _ ?_; clear hk k')))
  refine st_of l0 ?_
  repeat (first
   | (with_reducible (first | refine mv.mk ?_ | refine gd_u ?_ | refine gd_ft ?_ | refine gd_tf ?_ | refine gd_i ?_ | refine pk_t ?_ | refine pk_f ?_ | refine br_t ?_ | refine br_f ?_ | refine sp_boxa hs fun g w hs => ?_))
   | (with_reducible ((first | apply st_bin | apply st_mki); intro k' hk; simp [go_sem, thenR_ok, bin]; refine hk _ _ ?_; clear hk k')))
  by_cases h2 : 32 < dg
  · rw [decide_eq_true h2]
    repeat (first
     | (with_reducible (first | refine mv.mk ?_ | refine gd_u ?_ | refine gd_ft ?_ | refine gd_tf ?_ | refine gd_i ?_ | refine pk_t ?_ | refine pk_f ?_ | refine br_t ?_ | refine br_f ?_ | refine sp_boxa hs fun g w hs => ?_))
     | (with_reducible ((first | apply st_bin | apply st_mki); intro k' hk; simp [go_sem, thenR_ok, bin]; refine hk _ _ ?_; clear hk k')))
    exact cl (fin1 (by rw [kCheck, if_pos (.inr (.inl h2))])) fun r w hs => mv.mk hs
  rw [decide_eq_false h2]
  repeat (first
   | (with_reducible (first | refine mv.mk ?_ | refine gd_u ?_ | refine gd_ft ?_ | refine gd_tf ?_ | refine gd_i ?_ | refine pk_t ?_ | refine pk_f ?_ | refine br_t ?_ | refine br_f ?_ | refine sp_boxa hs fun g w hs => ?_))
   | (with_reducible ((first | apply st_bin | apply st_mki); intro k' hk; simp [go_sem, thenR_ok, bin]; refine hk _ _ ?_; clear hk k')))
  refine st_of (f1 _) ?_
  repeat (first
   | (with_reducible (first | refine mv.mk ?_ | refine gd_u ?_ | refine gd_ft ?_ | refine gd_tf ?_ | refine gd_i ?_ | refine pk_t ?_ | refine pk_f ?_ | refine br_t ?_ | refine br_f ?_ | refine sp_boxa hs fun g w hs => ?_))
   | (with_reducible ((first | apply st_bin | apply st_mki); intro k' hk; simp [go_sem, thenR_ok, bin]; refine hk _ _ ?_; clear hk k')))
  refine st_of l1 ?_
  repeat (first
   | (with_reducible (first | refine mv.mk ?_ | refine gd_u ?_ | refine gd_ft ?_ | refine gd_tf ?_ | refine gd_i ?_ | refine pk_t ?_ | refine pk_f ?_ | refine br_t ?_ | refine br_f ?_ | refine sp_boxa hs fun g w hs => ?_))
   | (with_reducible ((first | apply st_bin | apply st_mki); intro k' hk; simp [go_sem, thenR_ok, bin]; refine hk _ _ ?_; clear hk k')))
  by_cases h3 : dp < 0
  · rw [decide_eq_true h3]
    repeat (first
     | (with_reducible (first | refine mv.mk ?_ | refine gd_u ?_ | refine gd_ft ?_ | refine gd_tf ?_ | refine gd_i ?_ | refine pk_t ?_ | refine pk_f ?_ | refine br_t ?_ | refine br_f ?_ | refine sp_boxa hs fun g w hs => ?_))
     | (with_reducible ((first | apply st_bin | apply st_mki); intro k' hk; simp [go_sem, thenR_ok, bin]; refine hk _ _ ?_; clear hk k')))
    exact cl (fin1 (by rw [kCheck, if_pos (.inr (.inr (.inl h3)))])) fun r w hs => mv.mk hs
  rw [decide_eq_false h3]
  repeat (first
   | (with_reducible (first | refine mv.mk ?_ | refine gd_u ?_ | refine gd_ft ?_ | refine gd_tf ?_ | refine gd_i ?_ | refine pk_t ?_ | refine pk_f ?_ | refine br_t ?_ | refine br_f ?_ | refine sp_boxa hs fun g w hs => ?_))
   | (with_reducible ((first | apply st_bin | apply st_mki); intro k' hk; simp [go_sem, thenR_ok, bin]; refine hk _ _ ?_; clear hk k')))
  refine st_of (f1 _) ?_
  repeat (first
   | (with_reducible (first | refine mv.mk ?_ | refine gd_u ?_ | refine gd_ft ?_ | refine gd_tf ?_ | refine gd_i ?_ | refine pk_t ?_ | refine pk_f ?_ | refine br_t ?_ | refine br_f ?_ | refine sp_boxa hs fun g w hs => ?_))
   | (with_reducible ((first | apply st_bin | apply st_mki); intro k' hk; simp [go_sem, thenR_ok, bin]; refine hk _ _ ?_; clear hk k')))
  refine st_of l1 ?_
  repeat (first
   | (with_reducible (first | refine mv.mk ?_ | refine gd_u ?_ | refine gd_ft ?_ | refine gd_tf ?_ | refine gd_i ?_ | refine pk_t ?_ | refine pk_f ?_ | refine br_t ?_ | refine br_f ?_ | refine sp_boxa hs fun g w hs => ?_))
   | (with_reducible ((first | apply st_bin | apply st_mki); intro k' hk; simp [go_sem, thenR_ok, bin]; refine hk _ _ ?_; clear hk k')))
  by_cases h4 : 10 < dp
  · rw [decide_eq_true h4]
    repeat (first
     | (with_reducible (first | refine mv.mk ?_ | refine gd_u ?_ | refine gd_ft ?_ | refine gd_tf ?_ | refine gd_i ?_ | refine pk_t ?_ | refine pk_f ?_ | refine br_t ?_ | refine br_f ?_ | refine sp_boxa hs fun g w hs => ?_))
     | (with_reducible ((first | apply st_bin | apply st_mki); intro k' hk; simp [go_sem, thenR_ok, bin]; refine hk _ _ ?_; clear hk k')))
    exact cl (fin1 (by rw [kCheck, if_pos (.inr (.inr (.inr h4)))])) fun r w hs => mv.mk hs
  rw [decide_eq_false h4]
  repeat (first
   | (with_reducible (first | refine mv.mk ?_ | refine gd_u ?_ | refine gd_ft ?_ | refine gd_tf ?_ | refine gd_i ?_ | refine pk_t ?_ | refine pk_f ?_ | refine br_t ?_ | refine br_f ?_ | refine sp_boxa hs fun g w hs => ?_))
   | (with_reducible ((first | apply st_bin | apply st_mki); intro k' hk; simp [go_sem, thenR_ok, bin]; refine hk _ _ ?_; clear hk k')))
  rw [kCheck, if_neg (by omega)]
  exact (errF_nil hs).sbl (.cons .hd (.drop .all))
theorem sp_rUint (h : Isk.Sep b w L) (hm : Has L (rdI g s) R) (hl : most < 18446744073709551616) : C Tryz.prog N.pack_Reader_Uint #[.pointer (some ⟨g, 0, none⟩), .int .u64 most] w fun r w' => r = .int .u64 (rU most s).2 ∧ Isk.Sep b w' (rdI g (rU most s).1 :: R) :=
  (rd_call h hm fun B hB => pack_Reader_Uint hB hl).mono fun r w' ⟨h1, _, h2⟩ => ⟨h1, h2⟩
end
end Go.Proofs.YtbbmgkbinnomgaaGreatDoor
set_option linter.unusedVariables false
set_option linter.unusedSimpArgs false
set_option linter.unusedSectionVars false
namespace Go.Proofs.YtbbmgkbinnomgaaGreatDoor
open Go Go.Isk Go.RowKit
set_option maxRecDepth 20000
structure SignD where
  leaf : Nat
  chain : Bytes
  path : List Bytes
def gSign (s : Rdr) : Rdr × SignD :=
  ((gList rH (rU 10 (rB 4096 (rU 1023 s).1).1).2 (rU 10 (rB 4096 (rU 1023 s).1).1).1).1,
   ⟨(rU 1023 s).2, (rB 4096 (rU 1023 s).1).2, (gList rH (rU 10 (rB 4096 (rU 1023 s).1).1).2 (rU 10 (rB 4096 (rU 1023 s).1).1).1).2⟩)
def noSign : SignD := ⟨0, [], []⟩
def readK (l : Bytes) : SignD × Int := if (gSign (some l)).1 = some [] then ((gSign (some l)).2, 0) else (noSign, 3)
section
variable {b : Base} {w : World} {L R : List It} {g : Nat} {v sv : Value} {cs : List Value} {l : Bytes} {s : Rdr} {most : Nat}
theorem w_u2i (w : World) {x : Nat} (hx : x < 4294967296) : (convert T.uint64 T.int (.int .u64 (x : Int))).run Tryz.prog w = .ok (.int .i64 (x : Int)) w := by
  have hu1 : Tryz.prog.underlying T.uint64 = some (.int .u64) := by kernel_rfl
  have hu2 : Tryz.prog.underlying T.int = some (.int .i64) := by kernel_rfl
  simp only [convert, Sem.run_bind, run_underlying hu1, run_underlying hu2, Result.andThen_ok]
  show (Conv.intToInt .i64 (x : Int)).run Tryz.prog w = _
  simp only [Conv.intToInt, i64_wrap (show (-9223372036854775808 : Int) ≤ (x : Int) by omega) (by omega)]
  rfl
theorem keys_read (hs : Isk.Sep b w L) (hm : Ins L (byF v l).it) (hl : l.length ≤ 2147483648) :
    C Tryz.prog N.keys_read #[v] w fun r w' => ∃ cv pv e, r = .tuple #[.agg #[.int .i64 (readK l).1.leaf, cv, pv], e] ∧ Isk.Sep b w' ((byF cv (readK l).1.chain).it :: (listF hshF 32 pv (readK l).1.path).it :: (errF e (readK l).2).it :: L) := by
  refine C.keys_read ?_
  unfold F.keys_read
  refine sp_newr hs (by kernel_rfl) fun g2 w hs => ?_
  repeat with_reducible refine mv.mk ?_
  refine cl (sp_Read hs (.tl hm) hl) ?_
  rintro _ w ⟨g, rfl, hs⟩
  repeat with_reducible refine mv.mk ?_
  refine cl (sp_rUint (most := 1023) hs .hd (by decide)) ?_
  rintro _ w ⟨rfl, hs⟩
  have hlf := rU_most (most := 1023) (s := some l)
  refine st_of (w_u2i w (by omega)) ?_
  repeat with_reducible refine mv.mk ?_
  refine cl (sp_rBytes (most := 4096) hs .hd (by decide)) ?_
  rintro cv w hs
  obtain ⟨A, c, hcv⟩ := bytesF_slice hs .hd
  refine st_build (cells := #[.int .i64 ((rU 1023 (some l)).2 : Int), cv, .slice none 0 0]) (by subst hcv; kernel_rfl) ?_
  refine sp_newr hs (by kernel_rfl) fun g5 w hs => ?_
  refine sp_setr (ds := [.int .i64 ((rU 1023 (some l)).2 : Int), cv, .slice none 0 0]) hs .hd (by kernel_rfl) rfl (by subst hcv; simp [Value.oneCell']) fun w hs => ?_
  repeat with_reducible refine mv.mk ?_
  refine cl (sp_rUint (most := 10) hs (.tl (.tl .hd)) (by decide)) ?_
  rintro _ w ⟨rfl, hs⟩
  have hmst := rU_most (most := 10) (s := (rB 4096 (rU 1023 (some l)).1).1)
  generalize hsd : rU 10 (rB 4096 (rU 1023 (some l)).1).1 = d at *
  repeat with_reducible refine mv.mk ?_
  replace hs := hs.grow0 hshF T.api_Hash 32
  refine lp_by (fun us w' => ∃ (i : Nat) (sv : Value), us = [.int .u64 (i : Int)] ∧ i ≤ d.2 ∧ Isk.Sep b w' (rdI g (gList rH i d.1).1 :: blkI g5 T.keys_signature [.int .i64 ((rU 1023 (some l)).2 : Int), cv, sv] :: growI hshF T.api_Hash 32 sv (gList rH i d.1).2 :: (byF cv (rB 4096 (rU 1023 (some l)).1).2).it :: resI Tryz.prog g2 T.keys_signature :: L)) (fun us _ => match us with | [.int _ i] => d.2 - i.toNat | _ => 0) ⟨0, _, rfl, Nat.zero_le _, hs.sbl (.cons (.tl .hd) (.cons (.tl .hd) (.cons .hd .all)))⟩ ?_
  clear hs
  rintro x1 w ⟨i, sv, hx1, hi, hs⟩
  simp only [List.cons.injEq, and_true] at hx1
  rw [hx1]
  repeat (first
   | (with_reducible (first | refine st_nels ?_ | refine mv.mk ?_ | refine br_t ?_ | refine br_f ?_))
   | (with_reducible ((first | apply st_bin | apply st_conv | apply st_mki); intro k' hk; simp [go_sem, thenR_ok, bin]; refine hk _ _ ?_; clear hk k'))
   | ((with_reducible apply sp_newr hs); (· kernel_rfl); intro g w hs))
  refine br_split (fun hq => ?_) (fun hq => ?_)
  · have hq := of_decide_eq_true hq
    have hid' : i < d.2 := by omega
    refine dr_can (R := [blkI g5 T.keys_signature [.int .i64 ((rU 1023 (some l)).2 : Int), cv, sv]]) hs.drew (.cons (.tl .hd) .nil) ?_
    refine tk_of _ (fun w _ => fieldAt_run (off := 2) (by kernel_rfl) _ _ _) ?_
    refine tx_ld (o := 0) (p := 2) hid (by repeat (first | with_reducible exact Rng.blk | with_reducible exact Rng.rng | with_reducible apply Rng.tl)) (by kernel_rfl) rfl ?_
    repeat with_reducible refine mv.mk ?_
    refine cl (sp_rHash hs.drew .hd) ?_
    rintro _ w ⟨rfl, hs⟩
    refine ⟨hs.mayr (by repeat (first | with_reducible exact Sbl.all | with_reducible exact Sbl.nil | refine Sbl.cons (by first | ((repeat (first | with_reducible exact Has.hd | with_reducible apply Has.tl)); done) | (repeat (first | exact Has.hd | with_reducible apply Has.tl))) ?_ | refine Sbl.drop ?_)), ?_⟩
    have hrl : (rH (gList rH i d.1).1).2.length = 32 := rH_len
    have hll := gList_len rH i d.1
    replace hs := Sep.hash hs hrl
    refine sp_lita hs tHashes (by rw [u8s_length, hrl]) (by decide) fun u w hs => ⟨hs.mayr (by repeat (first | with_reducible exact Sbl.all | with_reducible exact Sbl.nil | refine Sbl.cons (by first | ((repeat (first | with_reducible exact Has.hd | with_reducible apply Has.tl)); done) | (repeat (first | exact Has.hd | with_reducible apply Has.tl))) ?_ | refine Sbl.drop ?_)), ?_⟩
    refine sp_push (a := (rH (gList rH i d.1).1).2) hs (by first | ((repeat (first | with_reducible exact Has.hd | with_reducible apply Has.tl)); done) | (repeat (first | exact Has.hd | with_reducible apply Has.tl))) tHashes .sl (by repeat (first | with_reducible exact Ins.hd | with_reducible apply Ins.tl)) (u8s_one _) (by rw [hll]; omega) (by rw [hll]; omega) fun v' w hs => ⟨hs.mayr (by repeat (first | with_reducible exact Sbl.all | with_reducible exact Sbl.nil | refine Sbl.cons (by first | ((repeat (first | with_reducible exact Has.hd | with_reducible apply Has.tl)); done) | (repeat (first | exact Has.hd | with_reducible apply Has.tl))) ?_ | refine Sbl.drop ?_)), ?_⟩
    refine tk_of _ (fun w _ => fieldAt_run (off := 2) (by kernel_rfl) _ _ _) ?_
    refine sp_store1 (p := 2) hs (by first | ((repeat (first | with_reducible exact Has.hd | with_reducible apply Has.tl)); done) | (repeat (first | exact Has.hd | with_reducible apply Has.tl))) (by kernel_rfl) (hs.gcells (by first | ((repeat (first | with_reducible exact Has.hd | with_reducible apply Has.tl)); done) | (repeat (first | exact Has.hd | with_reducible apply Has.tl)))) (by simp) fun w hs => ?_
    have hadd : ∀ (o1 o2 : Operand), (bin .add T.uint64 o1 o2 (.int .u64 (i : Int)) (.int .u64 1)).run Tryz.prog w = .ok (.int .u64 ((i + 1 : Nat) : Int)) w := fun o1 o2 => by
      have : IntKind.u64.wrap ((i : Int) + 1) = ((i + 1 : Nat) : Int) := by rw [u64_wrap]; omega
      simp [go_sem, bin, this]
    refine st_of (hadd _ _) ?_
    repeat with_reducible refine mv.mk ?_
    refine ⟨⟨i + 1, v', rfl, by omega, hs.sbl (by repeat (first | with_reducible exact Sbl.all | with_reducible exact Sbl.nil | refine Sbl.cons (by first | ((repeat (first | with_reducible exact Has.hd | with_reducible apply Has.tl)); done) | (repeat (first | exact Has.hd | with_reducible apply Has.tl))) ?_ | refine Sbl.drop ?_))⟩, ?_⟩
    show d.2 - ((i + 1 : Nat) : Int).toNat < d.2 - (i : Int).toNat
    omega
  · have hq := of_decide_eq_false hq
    obtain rfl : i = d.2 := by omega
    repeat with_reducible refine mv.mk ?_
    refine cl (sp_rDone hs .hd) ?_
    rintro e w ⟨h1, h2, hs⟩
    by_cases hd : (gList rH d.2 d.1).1 = some []
    · rw [h1 hd]
      have e1 : readK l = (⟨(rU 1023 (some l)).2, (rB 4096 (rU 1023 (some l)).1).2, (gList rH d.2 d.1).2⟩, 0) := by
        subst hsd
        rw [readK, if_pos (show (gSign (some l)).1 = some [] from hd)]
        rfl
      rw [e1]
      repeat (first
       | (with_reducible (first | refine st_nels ?_ | refine mv.mk ?_ | refine br_t ?_ | refine br_f ?_))
       | (with_reducible ((first | apply st_bin | apply st_conv | apply st_mki); intro k' hk; simp [go_sem, thenR_ok, bin]; refine hk _ _ ?_; clear hk k'))
       | ((with_reducible apply sp_newr hs); (· kernel_rfl); intro g w hs))
      have hsv1 := (hs.gcells (.tl (.tl .hd))).2
      replace hs := hs.growF (.tl (.tl .hd))
      refine sp_loadall hs (.tl (.tl .hd)) (by kernel_rfl) rfl ?_
      refine sp_setr (ds := [.int .i64 ((rU 1023 (some l)).2 : Int), cv, sv]) hs (.tl (.tl (.tl (.tl .hd)))) (by kernel_rfl) rfl (by
        intro u hu
        simp only [List.mem_cons, List.not_mem_nil, or_false] at hu
        rcases hu with rfl | rfl | rfl
        · rfl
        · rw [hcv]; rfl
        · exact hsv1) fun w hs => mv.mk (sp_rc hs .hd (by kernel_rfl) rfl ?_)
      exact ⟨_, _, _, rfl, (errF_nil hs).sbl (.cons (.tl (.tl (.tl (.tl (.tl .hd))))) (.cons (.tl (.tl .hd)) (.cons .hd (.drop (.drop (.drop .all))))))⟩
    · obtain ⟨t, x, rfl⟩ := h2 hd
      have e1 : readK l = (noSign, 3) := by
        subst hsd
        rw [readK, if_neg (show ¬ (gSign (some l)).1 = some [] from hd)]
      rw [e1]
      repeat (first
       | (with_reducible (first | refine st_nels ?_ | refine mv.mk ?_ | refine br_t ?_ | refine br_f ?_))
       | (with_reducible ((first | apply st_bin | apply st_conv | apply st_mki); intro k' hk; simp [go_sem, thenR_ok, bin]; refine hk _ _ ?_; clear hk k'))
       | ((with_reducible apply sp_newr hs); (· kernel_rfl); intro g w hs))
      refine st_build (cells := #[.int .i64 0, .slice none 0 0, .slice none 0 0]) (by kernel_rfl) ?_
      refine st1 fun k' hk => ?_; simp [go_sem, thenR_ok, bin]; refine hk _ _ ?_; clear hk k'
      refine cl (keys_fault (by decide) (by decide) (by decide) hs) ?_
      rintro e w hs
      refine sp_setr (ds := [.int .i64 0, .slice none 0 0, .slice none 0 0]) hs (.tl (.tl (.tl (.tl (.tl .hd))))) (by kernel_rfl) rfl (by simp [Value.oneCell']) fun w hs => mv.mk (sp_rc hs .hd (by kernel_rfl) rfl ?_)
      replace hs := hs.grow0 hshF T.api_Hash 32
      replace hs := hs.growF .hd
      replace hs := hs.fact (f := byF (.slice none 0 0) []) (SlS.nil 1)
      exact ⟨_, _, _, rfl, hs.sbl (.cons .hd (.cons .hd (.cons (.tl .hd) (.drop (.drop (.drop (.drop (.drop .all))))))))⟩
end
end Go.Proofs.YtbbmgkbinnomgaaGreatDoor
