/- Keys: what a key may be, in the program. -/
import Derived.Test.YtlfelmikcdmkhaaGreatDoorW9
import Derived.Test.YtlfelmikcdmkhaaGreatDoorKH
set_option linter.unusedVariables false
set_option linter.unusedSimpArgs false
set_option linter.unusedSectionVars false
namespace Go.Proofs.YtlfelmikcdmkhaaGreatDoor
open Go Go.Isk Go.RowKit
set_option maxRecDepth 20000
section
variable {b : Base} {w : World} {L R : List It} {g : Nat} {v sv : Value} {cs : List Value} {l : Bytes} {s : Rdr} {most : Nat}
theorem keys_fault {x : ByteArray} {e : Int} (he : e ≠ 0) (h1 : -9223372036854775808 ≤ e) (h2 : e ≤ 9223372036854775807) (hs : Isk.Sep b w L) : C Tryz.prog N.keys_fault #[.string x, .iface EN (.int .i64 e)] w fun r w' => Isk.Sep b w' ((errF r e).it :: L) := by
  refine C.keys_fault ?_
  unfold F.keys_fault
  repeat with_reducible refine mv.mk ?_
  refine st_build (cells := #[.string x, .iface EN (.int .i64 e)]) (by kernel_rfl) ?_
  refine sp_box (cs := [.string x, .iface EN (.int .i64 e)]) hs rfl fun g w hs => ?_
  refine st1 fun k' hk => ?_; simp [go_sem, thenR_ok, bin]; refine hk _ _ ?_; clear hk k'
  repeat with_reducible refine mv.mk ?_
  exact mkFault he h1 h2 hs (by first | ((repeat (first | with_reducible exact Has.hd | with_reducible apply Has.tl)); done) | (repeat (first | exact Has.hd | with_reducible apply Has.tl)))
/-- may a key be so: 0 or the error -/
def kCheck (digest depth : Int) : Int := if digest < 1 ∨ 32 < digest ∨ depth < 0 ∨ 10 < depth then 20 else 0
theorem keys_Check {dg dp : Int} (hs : Isk.Sep b w L) : C Tryz.prog N.keys_Check #[.agg #[.int .i64 dg, .int .i64 dp]] w fun r w' => Isk.Sep b w' ((errF r (kCheck dg dp)).it :: L) := by
  refine C.keys_Check ?_
  unfold F.keys_Check
  refine sp_box (cs := [.int .i64 dg, .int .i64 dp]) hs rfl fun g w hs => ?_
  have f0 : ∀ w', (Instr.fieldAt T.api_Params (.pointer (some ⟨g, 0, none⟩)) 0).run Tryz.prog w' = .ok (.pointer (some ⟨g, 0, none⟩)) w' := fun w' => fieldAt_run (off := 0) (by kernel_rfl) _ _ _
  have f1 : ∀ w', (Instr.fieldAt T.api_Params (.pointer (some ⟨g, 0, none⟩)) 1).run Tryz.prog w' = .ok (.pointer (some ⟨g, 1, none⟩)) w' := fun w' => fieldAt_run (off := 1) (by kernel_rfl) _ _ _
  have hB : Blk w g _ _ := hs.get .hd
  have l0 : (Instr.loadAt 3 (.pointer (some ⟨g, 0, none⟩))).run Tryz.prog w = .ok (.int .i64 dg) w := load_one (by kernel_rfl) (by rw [hB.cell]; rfl)
  have l1 : (Instr.loadAt 3 (.pointer (some ⟨g, 1, none⟩))).run Tryz.prog w = .ok (.int .i64 dp) w := load_one (by kernel_rfl) (by rw [hB.cell]; rfl)
  have fin1 : kCheck dg dp = 20 → C Tryz.prog N.keys_fault #[.string ⟨#[112, 97, 114, 97, 109, 115]⟩, .iface EN (.int .i64 20)] w fun r w' => Isk.Sep b w' ((errF r (kCheck dg dp)).it :: L) := fun e => by
    rw [e]
    refine cl (keys_fault (by decide) (by decide) (by decide) hs) ?_
    rintro r w hs
    exact hs.sbl (.cons .hd (.drop .all))
  repeat with_reducible refine mv.mk ?_
  refine st_of (f0 _) (st_of l0 ?_)
  by_cases h1 : dg < 1
  · repeat (first
     | (with_reducible (first | refine mv.mk ?_ | refine gd_u ?_ | refine gd_ft ?_ | refine gd_tf ?_ | refine gd_i ?_ | refine pk_t ?_ | refine pk_f ?_ | refine br_t ?_ | refine br_f ?_ | refine sp_boxa hs fun g w hs => ?_))
     | (with_reducible ((first | apply st_bin | apply st_mki); intro k' hk; simp [go_sem, thenR_ok, bin]; refine hk _ _ ?_; clear hk k')))
    rw [decide_eq_true h1]
    repeat (first
     | (with_reducible (first | refine mv.mk ?_ | refine gd_u ?_ | refine gd_ft ?_ | refine gd_tf ?_ | refine gd_i ?_ | refine pk_t ?_ | refine pk_f ?_ | refine br_t ?_ | refine br_f ?_ | refine sp_boxa hs fun g w hs => ?_))
     | (with_reducible ((first | apply st_bin | apply st_mki); intro k' hk; simp [go_sem, thenR_ok, bin]; refine hk _ _ ?_; clear hk k')))
    exact cl (fin1 (by rw [kCheck, if_pos (.inl h1)])) fun r w hs => mv.mk hs
  repeat (first
   | (with_reducible (first | refine mv.mk ?_ | refine gd_u ?_ | refine gd_ft ?_ | refine gd_tf ?_ | refine gd_i ?_ | refine pk_t ?_ | refine pk_f ?_ | refine br_t ?_ | refine br_f ?_ | refine sp_boxa hs fun g w hs => ?_))
   | (with_reducible ((first | apply st_bin | apply st_mki); intro k' hk; simp [go_sem, thenR_ok, bin]; refine hk _ _ ?_; clear hk k')))
  rw [decide_eq_false h1]
  repeat (first
   | (with_reducible (first | refine mv.mk ?_ | refine gd_u ?_ | refine gd_ft ?_ | refine gd_tf ?_ | refine gd_i ?_ | refine pk_t ?_ | refine pk_f ?_ | refine br_t ?_ | refine br_f ?_ | refine sp_boxa hs fun g w hs => ?_))
   | (with_reducible ((first | apply st_bin | apply st_mki); intro k' hk; simp [go_sem, thenR_ok, bin]; refine hk _ _ ?_; clear hk k')))
  refine st_of (f0 _) ?_
  repeat (first
   | (with_reducible (first | refine mv.mk ?_ | refine gd_u ?_ | refine gd_ft ?_ | refine gd_tf ?_ | refine gd_i ?_ | refine pk_t ?_ | refine pk_f ?_ | refine br_t ?_ | refine br_f ?_ | refine sp_boxa hs fun g w hs => ?_))
   | (with_reducible ((first | apply st_bin | apply st_mki); intro k' hk; simp [go_sem, thenR_ok, bin]; refine hk _ _ ?_; clear hk k')))
  refine st_of l0 ?_
  repeat (first
   | (with_reducible (first | refine mv.mk ?_ | refine gd_u ?_ | refine gd_ft ?_ | refine gd_tf ?_ | refine gd_i ?_ | refine pk_t ?_ | refine pk_f ?_ | refine br_t ?_ | refine br_f ?_ | refine sp_boxa hs fun g w hs => ?_))
   | (with_reducible ((first | apply st_bin | apply st_mki); intro k' hk; simp [go_sem, thenR_ok, bin]; refine hk _ _ ?_; clear hk k')))
  by_cases h2 : 32 < dg
  · rw [decide_eq_true h2]
    repeat (first
     | (with_reducible (first | refine mv.mk ?_ | refine gd_u ?_ | refine gd_ft ?_ | refine gd_tf ?_ | refine gd_i ?_ | refine pk_t ?_ | refine pk_f ?_ | refine br_t ?_ | refine br_f ?_ | refine sp_boxa hs fun g w hs => ?_))
     | (with_reducible ((first | apply st_bin | apply st_mki); intro k' hk; simp [go_sem, thenR_ok, bin]; refine hk _ _ ?_; clear hk k')))
    exact cl (fin1 (by rw [kCheck, if_pos (.inr (.inl h2))])) fun r w hs => mv.mk hs
  rw [decide_eq_false h2]
  repeat (first
   | (with_reducible (first | refine mv.mk ?_ | refine gd_u ?_ | refine gd_ft ?_ | refine gd_tf ?_ | refine gd_i ?_ | refine pk_t ?_ | refine pk_f ?_ | refine br_t ?_ | refine br_f ?_ | refine sp_boxa hs fun g w hs => ?_))
   | (with_reducible ((first | apply st_bin | apply st_mki); intro k' hk; simp [go_sem, thenR_ok, bin]; refine hk _ _ ?_; clear hk k')))
  refine st_of (f1 _) ?_
  repeat (first
   | (with_reducible (first | refine mv.mk ?_ | refine gd_u ?_ | refine gd_ft ?_ | refine gd_tf ?_ | refine gd_i ?_ | refine pk_t ?_ | refine pk_f ?_ | refine br_t ?_ | refine br_f ?_ | refine sp_boxa hs fun g w hs => ?_))
   | (with_reducible ((first | apply st_bin | apply st_mki); intro k' hk; simp [go_sem, thenR_ok, bin]; refine hk _ _ ?_; clear hk k')))
  refine st_of l1 ?_
  repeat (first
   | (with_reducible (first | refine mv.mk ?_ | refine gd_u ?_ | refine gd_ft ?_ | refine gd_tf ?_ | refine gd_i ?_ | refine pk_t ?_ | refine pk_f ?_ | refine br_t ?_ | refine br_f ?_ | refine sp_boxa hs fun g w hs => ?_))
   | (with_reducible ((first | apply st_bin | apply st_mki); intro k' hk; simp [go_sem, thenR_ok, bin]; refine hk _ _ ?_; clear hk k')))
  by_cases h3 : dp < 0
  · rw [decide_eq_true h3]
    repeat (first
     | (with_reducible (first | refine mv.mk ?_ | refine gd_u ?_ | refine gd_ft ?_ | refine gd_tf ?_ | refine gd_i ?_ | refine pk_t ?_ | refine pk_f ?_ | refine br_t ?_ | refine br_f ?_ | refine sp_boxa hs fun g w hs => ?_))
     | (with_reducible ((first | apply st_bin | apply st_mki); intro k' hk; simp [go_sem, thenR_ok, bin]; refine hk _ _ ?_; clear hk k')))
    exact cl (fin1 (by rw [kCheck, if_pos (.inr (.inr (.inl h3)))])) fun r w hs => mv.mk hs
  rw [decide_eq_false h3]
  repeat (first
   | (with_reducible (first | refine mv.mk ?_ | refine gd_u ?_ | refine gd_ft ?_ | refine gd_tf ?_ | refine gd_i ?_ | refine pk_t ?_ | refine pk_f ?_ | refine br_t ?_ | refine br_f ?_ | refine sp_boxa hs fun g w hs => ?_))
   | (with_reducible ((first | apply st_bin | apply st_mki); intro k' hk; simp [go_sem, thenR_ok, bin]; refine hk _ _ ?_; clear hk k')))
  refine st_of (f1 _) ?_
  repeat (first
   | (with_reducible (first | refine mv.mk ?_ | refine gd_u ?_ | refine gd_ft ?_ | refine gd_tf ?_ | refine gd_i ?_ | refine pk_t ?_ | refine pk_f ?_ | refine br_t ?_ | refine br_f ?_ | refine sp_boxa hs fun g w hs => ?_))
   | (with_reducible ((first | apply st_bin | apply st_mki); intro k' hk; simp [go_sem, thenR_ok, bin]; refine hk _ _ ?_; clear hk k')))
  refine st_of l1 ?_
  repeat (first
   | (with_reducible (first | refine mv.mk ?_ | refine gd_u ?_ | refine gd_ft ?_ | refine gd_tf ?_ | refine gd_i ?_ | refine pk_t ?_ | refine pk_f ?_ | refine br_t ?_ | refine br_f ?_ | refine sp_boxa hs fun g w hs => ?_))
   | (with_reducible ((first | apply st_bin | apply st_mki); intro k' hk; simp [go_sem, thenR_ok, bin]; refine hk _ _ ?_; clear hk k')))
  by_cases h4 : 10 < dp
  · rw [decide_eq_true h4]
    repeat (first
     | (with_reducible (first | refine mv.mk ?_ | refine gd_u ?_ | refine gd_ft ?_ | refine gd_tf ?_ | refine gd_i ?_ | refine pk_t ?_ | refine pk_f ?_ | refine br_t ?_ | refine br_f ?_ | refine sp_boxa hs fun g w hs => ?_))
     | (with_reducible ((first | apply st_bin | apply st_mki); intro k' hk; simp [go_sem, thenR_ok, bin]; refine hk _ _ ?_; clear hk k')))
    exact cl (fin1 (by rw [kCheck, if_pos (.inr (.inr (.inr h4)))])) fun r w hs => mv.mk hs
  rw [decide_eq_false h4]
  repeat (first
   | (with_reducible (first | refine mv.mk ?_ | refine gd_u ?_ | refine gd_ft ?_ | refine gd_tf ?_ | refine gd_i ?_ | refine pk_t ?_ | refine pk_f ?_ | refine br_t ?_ | refine br_f ?_ | refine sp_boxa hs fun g w hs => ?_))
   | (with_reducible ((first | apply st_bin | apply st_mki); intro k' hk; simp [go_sem, thenR_ok, bin]; refine hk _ _ ?_; clear hk k')))
  rw [kCheck, if_neg (by omega)]
  exact (errF_nil hs).sbl (.cons .hd (.drop .all))
theorem sp_rUint (h : Isk.Sep b w L) (hm : Has L (rdI g s) R) (hl : most < 18446744073709551616) : C Tryz.prog N.pack_Reader_Uint #[.pointer (some ⟨g, 0, none⟩), .int .u64 most] w fun r w' => r = .int .u64 (rU most s).2 ∧ Isk.Sep b w' (rdI g (rU most s).1 :: R) :=
  (rd_call h hm fun B hB => pack_Reader_Uint hB hl).mono fun r w' ⟨h1, _, h2⟩ => ⟨h1, h2⟩
end
end Go.Proofs.YtlfelmikcdmkhaaGreatDoor
set_option linter.unusedVariables false
set_option linter.unusedSimpArgs false
set_option linter.unusedSectionVars false
namespace Go.Proofs.YtlfelmikcdmkhaaGreatDoor
open Go Go.Isk Go.RowKit
set_option maxRecDepth 20000
structure SignD where
  leaf : Nat
  chain : Bytes
  path : List Bytes
def gSign (s : Rdr) : Rdr × SignD :=
  ((gList rH (rU 10 (rB 4096 (rU 1023 s).1).1).2 (rU 10 (rB 4096 (rU 1023 s).1).1).1).1,
   ⟨(rU 1023 s).2, (rB 4096 (rU 1023 s).1).2, (gList rH (rU 10 (rB 4096 (rU 1023 s).1).1).2 (rU 10 (rB 4096 (rU 1023 s).1).1).1).2⟩)
def noSign : SignD := ⟨0, [], []⟩
def readK (l : Bytes) : SignD × Int := if (gSign (some l)).1 = some [] then ((gSign (some l)).2, 0) else (noSign, 3)
section
variable {b : Base} {w : World} {L R : List It} {g : Nat} {v sv : Value} {cs : List Value} {l : Bytes} {s : Rdr} {most : Nat}
theorem w_u2i (w : World) {x : Nat} (hx : x < 4294967296) : (convert T.uint64 T.int (.int .u64 (x : Int))).run Tryz.prog w = .ok (.int .i64 (x : Int)) w := by
  have hu1 : Tryz.prog.underlying T.uint64 = some (.int .u64) := by kernel_rfl
  have hu2 : Tryz.prog.underlying T.int = some (.int .i64) := by kernel_rfl
  simp only [convert, Sem.run_bind, run_underlying hu1, run_underlying hu2, Result.andThen_ok]
  show (Conv.intToInt .i64 (x : Int)).run Tryz.prog w = _
  simp only [Conv.intToInt, i64_wrap (show (-9223372036854775808 : Int) ≤ (x : Int) by omega) (by omega)]
  rfl
theorem keys_read (hs : Isk.Sep b w L) (hm : Ins L (byF v l).it) (hl : l.length ≤ 2147483648) :
    C Tryz.prog N.keys_read #[v] w fun r w' => ∃ cv pv e, r = .tuple #[.agg #[.int .i64 (readK l).1.leaf, cv, pv], e] ∧ Isk.Sep b w' ((byF cv (readK l).1.chain).it :: (listF hshF 32 pv (readK l).1.path).it :: (errF e (readK l).2).it :: L) := by
  refine C.keys_read ?_
  unfold F.keys_read
  refine sp_newr hs (by kernel_rfl) fun g2 w hs => ?_
  repeat with_reducible refine mv.mk ?_
  refine cl (sp_Read hs (.tl hm) hl) ?_
  rintro _ w ⟨g, rfl, hs⟩
  repeat with_reducible refine mv.mk ?_
  refine cl (sp_rUint (most := 1023) hs .hd (by decide)) ?_
  rintro _ w ⟨rfl, hs⟩
  have hlf := rU_most (most := 1023) (s := some l)
  refine st_of (w_u2i w (by omega)) ?_
  repeat with_reducible refine mv.mk ?_
  refine cl (sp_rBytes (most := 4096) hs .hd (by decide)) ?_
  rintro cv w hs
  obtain ⟨A, c, hcv⟩ := bytesF_slice hs .hd
  refine st_build (cells := #[.int .i64 ((rU 1023 (some l)).2 : Int), cv, .slice none 0 0]) (by subst hcv; kernel_rfl) ?_
  refine sp_newr hs (by kernel_rfl) fun g5 w hs => ?_
  refine sp_setr (ds := [.int .i64 ((rU 1023 (some l)).2 : Int), cv, .slice none 0 0]) hs .hd (by kernel_rfl) rfl (by subst hcv; simp [Value.oneCell']) fun w hs => ?_
  repeat with_reducible refine mv.mk ?_
  refine cl (sp_rUint (most := 10) hs (.tl (.tl .hd)) (by decide)) ?_
  rintro _ w ⟨rfl, hs⟩
  have hmst := rU_most (most := 10) (s := (rB 4096 (rU 1023 (some l)).1).1)
  generalize hsd : rU 10 (rB 4096 (rU 1023 (some l)).1).1 = d at *
  repeat with_reducible refine mv.mk ?_
  replace hs := hs.grow0 hshF T.api_Hash 32
  refine lp_by (fun us w' => ∃ (i : Nat) (sv : Value), us = [.int .u64 (i : Int)] ∧ i ≤ d.2 ∧ Isk.Sep b w' (rdI g (gList rH i d.1).1 :: blkI g5 T.keys_signature [.int .i64 ((rU 1023 (some l)).2 : Int), cv, sv] :: growI hshF T.api_Hash 32 sv (gList rH i d.1).2 :: (byF cv (rB 4096 (rU 1023 (some l)).1).2).it :: resI Tryz.prog g2 T.keys_signature :: L)) (fun us _ => match us with | [.int _ i] => d.2 - i.toNat | _ => 0) ⟨0, _, rfl, Nat.zero_le _, hs.sbl (.cons (.tl .hd) (.cons (.tl .hd) (.cons .hd .all)))⟩ ?_
  clear hs
  rintro x1 w ⟨i, sv, hx1, hi, hs⟩
  simp only [List.cons.injEq, and_true] at hx1
  rw [hx1]
  repeat (first
   | (with_reducible (first | refine st_nels ?_ | refine mv.mk ?_ | refine br_t ?_ | refine br_f ?_))
   | (with_reducible ((first | apply st_bin | apply st_conv | apply st_mki); intro k' hk; simp [go_sem, thenR_ok, bin]; refine hk _ _ ?_; clear hk k'))
   | ((with_reducible apply sp_newr hs); (· kernel_rfl); intro g w hs))
  refine br_split (fun hq => ?_) (fun hq => ?_)
  · have hq := of_decide_eq_true hq
    have hid' : i < d.2 := by omega
    refine dr_can (R := [blkI g5 T.keys_signature [.int .i64 ((rU 1023 (some l)).2 : Int), cv, sv]]) hs.drew (.cons (.tl .hd) .nil) ?_
    refine tk_of _ (fun w _ => fieldAt_run (off := 2) (by kernel_rfl) _ _ _) ?_
    refine tx_ld (o := 0) (p := 2) hid (by repeat (first | with_reducible exact Rng.blk | with_reducible exact Rng.rng | with_reducible apply Rng.tl)) (by kernel_rfl) rfl ?_
    repeat with_reducible refine mv.mk ?_
    refine cl (sp_rHash hs.drew .hd) ?_
    rintro _ w ⟨rfl, hs⟩
    refine ⟨hs.mayr (by repeat (first | with_reducible exact Sbl.all | with_reducible exact Sbl.nil | refine Sbl.cons (by first | ((repeat (first | with_reducible exact Has.hd | with_reducible apply Has.tl)); done) | (repeat (first | exact Has.hd | with_reducible apply Has.tl))) ?_ | refine Sbl.drop ?_)), ?_⟩
    have hrl : (rH (gList rH i d.1).1).2.length = 32 := rH_len
    have hll := gList_len rH i d.1
    replace hs := Sep.hash hs hrl
    refine sp_lita hs tHashes (by rw [u8s_length, hrl]) (by decide) fun u w hs => ⟨hs.mayr (by repeat (first | with_reducible exact Sbl.all | with_reducible exact Sbl.nil | refine Sbl.cons (by first | ((repeat (first | with_reducible exact Has.hd | with_reducible apply Has.tl)); done) | (repeat (first | exact Has.hd | with_reducible apply Has.tl))) ?_ | refine Sbl.drop ?_)), ?_⟩
    refine sp_push (a := (rH (gList rH i d.1).1).2) hs (by first | ((repeat (first | with_reducible exact Has.hd | with_reducible apply Has.tl)); done) | (repeat (first | exact Has.hd | with_reducible apply Has.tl))) tHashes .sl (by repeat (first | with_reducible exact Ins.hd | with_reducible apply Ins.tl)) (u8s_one _) (by rw [hll]; omega) (by rw [hll]; omega) fun v' w hs => ⟨hs.mayr (by repeat (first | with_reducible exact Sbl.all | with_reducible exact Sbl.nil | refine Sbl.cons (by first | ((repeat (first | with_reducible exact Has.hd | with_reducible apply Has.tl)); done) | (repeat (first | exact Has.hd | with_reducible apply Has.tl))) ?_ | refine Sbl.drop ?_)), ?_⟩
    refine tk_of _ (fun w _ => fieldAt_run (off := 2) (by kernel_rfl) _ _ _) ?_
    refine sp_store1 (p := 2) hs (by first | ((repeat (first | with_reducible exact Has.hd | with_reducible apply Has.tl)); done) | (repeat (first | exact Has.hd | with_reducible apply Has.tl))) (by kernel_rfl) (hs.gcells (by first | ((repeat (first | with_reducible exact Has.hd | with_reducible apply Has.tl)); done) | (repeat (first | exact Has.hd | with_reducible apply Has.tl)))) (by simp) fun w hs => ?_
    have hadd : ∀ (o1 o2 : Operand), (bin .add T.uint64 o1 o2 (.int .u64 (i : Int)) (.int .u64 1)).run Tryz.prog w = .ok (.int .u64 ((i + 1 : Nat) : Int)) w := fun o1 o2 => by
      have : IntKind.u64.wrap ((i : Int) + 1) = ((i + 1 : Nat) : Int) := by rw [u64_wrap]; omega
      simp [go_sem, bin, this]
    refine st_of (hadd _ _) ?_
    repeat with_reducible refine mv.mk ?_
    refine ⟨⟨i + 1, v', rfl, by omega, hs.sbl (by repeat (first | with_reducible exact Sbl.all | with_reducible exact Sbl.nil | refine Sbl.cons (by first | ((repeat (first | with_reducible exact Has.hd | with_reducible apply Has.tl)); done) | (repeat (first | exact Has.hd | with_reducible apply Has.tl))) ?_ | refine Sbl.drop ?_))⟩, ?_⟩
    show d.2 - ((i + 1 : Nat) : Int).toNat < d.2 - (i : Int).toNat
    omega
  · have hq := of_decide_eq_false hq
    obtain rfl : i = d.2 := by omega
    repeat with_reducible refine mv.mk ?_
    refine cl (sp_rDone hs .hd) ?_
    rintro e w ⟨h1, h2, hs⟩
    by_cases hd : (gList rH d.2 d.1).1 = some []
    · rw [h1 hd]
      have e1 : readK l = (⟨(rU 1023 (some l)).2, (rB 4096 (rU 1023 (some l)).1).2, (gList rH d.2 d.1).2⟩, 0) := by
        subst hsd
        rw [readK, if_pos (show (gSign (some l)).1 = some [] from hd)]
        rfl
      rw [e1]
      repeat (first
       | (with_reducible (first | refine st_nels ?_ | refine mv.mk ?_ | refine br_t ?_ | refine br_f ?_))
       | (with_reducible ((first | apply st_bin | apply st_conv | apply st_mki); intro k' hk; simp [go_sem, thenR_ok, bin]; refine hk _ _ ?_; clear hk k'))
       | ((with_reducible apply sp_newr hs); (· kernel_rfl); intro g w hs))
      have hsv1 := (hs.gcells (.tl (.tl .hd))).2
      replace hs := hs.growF (.tl (.tl .hd))
      refine sp_loadall hs (.tl (.tl .hd)) (by kernel_rfl) rfl ?_
      refine sp_setr (ds := [.int .i64 ((rU 1023 (some l)).2 : Int), cv, sv]) hs (.tl (.tl (.tl (.tl .hd)))) (by kernel_rfl) rfl (by
        intro u hu
        simp only [List.mem_cons, List.not_mem_nil, or_false] at hu
        rcases hu with rfl | rfl | rfl
        · rfl
        · rw [hcv]; rfl
        · exact hsv1) fun w hs => mv.mk (sp_rc hs .hd (by kernel_rfl) rfl ?_)
      exact ⟨_, _, _, rfl, (errF_nil hs).sbl (.cons (.tl (.tl (.tl (.tl (.tl .hd))))) (.cons (.tl (.tl .hd)) (.cons .hd (.drop (.drop (.drop .all))))))⟩
    · obtain ⟨t, x, rfl⟩ := h2 hd
      have e1 : readK l = (noSign, 3) := by
        subst hsd
        rw [readK, if_neg (show ¬ (gSign (some l)).1 = some [] from hd)]
      rw [e1]
      repeat (first
       | (with_reducible (first | refine st_nels ?_ | refine mv.mk ?_ | refine br_t ?_ | refine br_f ?_))
       | (with_reducible ((first | apply st_bin | apply st_conv | apply st_mki); intro k' hk; simp [go_sem, thenR_ok, bin]; refine hk _ _ ?_; clear hk k'))
       | ((with_reducible apply sp_newr hs); (· kernel_rfl); intro g w hs))
      refine st_build (cells := #[.int .i64 0, .slice none 0 0, .slice none 0 0]) (by kernel_rfl) ?_
      refine st1 fun k' hk => ?_; simp [go_sem, thenR_ok, bin]; refine hk _ _ ?_; clear hk k'
      refine cl (keys_fault (by decide) (by decide) (by decide) hs) ?_
      rintro e w hs
      refine sp_setr (ds := [.int .i64 0, .slice none 0 0, .slice none 0 0]) hs (.tl (.tl (.tl (.tl (.tl .hd))))) (by kernel_rfl) rfl (by simp [Value.oneCell']) fun w hs => mv.mk (sp_rc hs .hd (by kernel_rfl) rfl ?_)
      replace hs := hs.grow0 hshF T.api_Hash 32
      replace hs := hs.growF .hd
      replace hs := hs.fact (f := byF (.slice none 0 0) []) (SlS.nil 1)
      exact ⟨_, _, _, rfl, hs.sbl (.cons .hd (.cons .hd (.cons (.tl .hd) (.drop (.drop (.drop (.drop (.drop .all))))))))⟩
end
end Go.Proofs.YtlfelmikcdmkhaaGreatDoor
set_option linter.unusedVariables false
set_option linter.unusedSimpArgs false
set_option linter.unusedSectionVars false
namespace Go.Proofs.YtlfelmikcdmkhaaGreatDoor
open Go Go.Isk Go.RowKit
set_option maxRecDepth 20000
/-- 0 or the error's number -/
def verifyK (root : Bytes) (dg dp : Int) (text sign : Bytes) : Int :=
  if kCheck dg dp ≠ 0 then kCheck dg dp
  else if (readK sign).2 ≠ 0 then (readK sign).2
  else
    let s := (readK sign).1
    let d := digestB text dg.toNat
    let f := fromB s.chain s.leaf d
    if f.2 ≠ 0 then 21
    else
      let h := foldB f.1 s.leaf (2 ^ dp.toNat) s.path
      if h.2 ≠ 0 ∨ h.1 ≠ root then 21 else 0
section
variable {b : Base} {w : World} {L R : List It} {g : Nat} {v sv tv : Value} {cs : List Value} {l text sign root : Bytes}
theorem fromB_len {leaf : Int} {d : Bytes} : (fromB sign leaf d).1.length = 32 := by
  unfold fromB
  split
  · exact List.length_replicate
  · split
    · exact List.length_replicate
    · exact shaB_len _
theorem readK_small : (readK sign).1.leaf ≤ 1023 ∧ (readK sign).1.path.length ≤ 10 := by
  unfold readK
  split
  · refine ⟨rU_most (most := 1023), ?_⟩
    show (gList rH _ _).2.length ≤ 10
    rw [gList_len]
    exact rU_most (most := 10)
  · exact ⟨by decide, by decide⟩
theorem foldB_len {i n : Nat} {path : List Bytes} (h : l.length = 32) : (foldB l i n path).1.length = 32 := by
  unfold foldB
  split
  · exact List.length_replicate
  · split
    · exact List.length_replicate
    · exact foldK_len h _
theorem i_shl (w : World) {x1 x2 : Operand} {i : Int} (h : 0 ≤ i ∧ i ≤ 10) : (bin .shl T.int x1 x2 (.int .i64 1) (.int .i64 i)).run Tryz.prog w = .ok (.int .i64 ((2 ^ i.toNat : Nat) : Int)) w := by
  have : i = 0 ∨ i = 1 ∨ i = 2 ∨ i = 3 ∨ i = 4 ∨ i = 5 ∨ i = 6 ∨ i = 7 ∨ i = 8 ∨ i = 9 ∨ i = 10 := by omega
  rcases this with rfl | rfl | rfl | rfl | rfl | rfl | rfl | rfl | rfl | rfl | rfl <;> (simp [go_sem, bin, IntKind.bits]; try decide)
theorem keys_Verify {dg dp : Int} (hs : Isk.Sep b w L) (hR : Ins L rndF.it) (ht : Ins L (byF tv text).it) (hm : Ins L (byF sv sign).it) (hl : sign.length ≤ 2147483648) (hl2 : text.length < 140737488354000) (hr : root.length = 32) :
    C Tryz.prog N.keys_Verify #[.agg (u8s root).toArray, .agg #[.int .i64 dg, .int .i64 dp], tv, sv] w fun r w' => Isk.Sep b w' ((errF r (verifyK root dg dp text sign)).it :: L) := by
  refine C.keys_Verify ?_
  unfold F.keys_Verify
  refine sp_boxa hs fun g4 w hs => ?_
  refine sp_box (cs := [.int .i64 dg, .int .i64 dp]) hs rfl fun g5 w hs => ?_
  repeat with_reducible refine mv.mk ?_
  refine sp_loadall hs .hd (by kernel_rfl) rfl ?_
  refine cl (keys_Check hs) ?_
  rintro e w hs
  repeat with_reducible refine mv.mk ?_
  refine st_of (err_neq hs .hd) ?_
  by_cases hc : kCheck dg dp = 0
  · rw [hc]
    refine br_f ?_
    repeat with_reducible refine mv.mk ?_
    refine cl (keys_read hs (.tl (.tl (.tl hm))) hl) ?_
    rintro _ w ⟨cv, pv, e2, rfl, hs⟩
    obtain ⟨A, c, hcv⟩ := bytesF_slice hs .hd
    obtain ⟨A2, c2, hpv⟩ := hs.lst_len (Ins.tl (Ins.hd)).lst
    have hone : ∀ u ∈ [Value.int .i64 ((readK sign).1.leaf : Int), cv, pv], u.oneCell' = true := by
      intro u hu
      simp only [List.mem_cons, List.not_mem_nil, or_false] at hu
      rcases hu with rfl | rfl | rfl
      · rfl
      · rw [hcv]; rfl
      · rw [hpv]; rfl
    repeat with_reducible refine mv.mk ?_
    refine st_of (v := .agg #[.int .i64 ((readK sign).1.leaf : Int), cv, pv]) (w' := w) (by simp [go_sem]) ?_
    refine st_of (v := e2) (w' := w) (by simp [go_sem]) ?_
    refine sp_newr hs (by kernel_rfl) fun g10 w hs => ?_
    refine sp_setr (ds := [.int .i64 ((readK sign).1.leaf : Int), cv, pv]) hs .hd (by kernel_rfl) rfl hone fun w hs => ?_
    repeat with_reducible refine mv.mk ?_
    refine st_of (err_neq hs (.tl (.tl (.tl .hd)))) ?_
    by_cases hc2 : (readK sign).2 = 0
    · rw [decide_eq_true hc2]
      refine br_f ?_
      repeat with_reducible refine mv.mk ?_
      have hk : 1 ≤ dg ∧ dg ≤ 32 ∧ 0 ≤ dp ∧ dp ≤ 10 := by
        unfold kCheck at hc
        split at hc
        · cases hc
        · omega
      have hdg : digOk dg = true := by simp [digOk]; omega
      refine st_of (fieldAt_run (off := 0) (by kernel_rfl) _ _ _) ?_
      refine sp_load1 (p := 0) hs (.tl (.tl (.tl (.tl (.tl .hd))))) (by kernel_rfl) rfl ?_
      refine cl (wots_Digest (n := dg) hs (.tl (.tl (.tl (.tl (.tl (.tl (.tl hR))))))) (.tl (.tl (.tl (.tl (.tl (.tl (.tl ht))))))) hl2) ?_
      rintro _ w ⟨dv, e3, rfl, hs⟩
      rw [if_pos hdg, if_pos hdg] at hs
      repeat with_reducible refine mv.mk ?_
      refine st_of (v := dv) (w' := w) (by simp [go_sem]) ?_
      refine st_of (v := e3) (w' := w) (by simp [go_sem]) ?_
      repeat with_reducible refine mv.mk ?_
      refine st_of (err_neq hs (.tl .hd)) ?_
      refine br_f ?_
      repeat with_reducible refine mv.mk ?_
      refine st_of (fieldAt_run (off := 1) (by kernel_rfl) _ _ _) ?_
      refine sp_load1 (p := 1) hs (.tl (.tl .hd)) (by kernel_rfl) rfl ?_
      refine st_of (fieldAt_run (off := 0) (by kernel_rfl) _ _ _) ?_
      refine sp_load1 (p := 0) hs (.tl (.tl .hd)) (by kernel_rfl) rfl ?_
      repeat with_reducible refine mv.mk ?_
      refine cl (wots_From hs (.tl (.tl (.tl (.tl (.tl (.tl (.tl (.tl (.tl hR))))))))) (.tl (.tl (.tl .hd))) .hd) ?_
      rintro _ w ⟨e4, rfl, hs⟩
      have hfl := fromB_len (sign := (readK sign).1.chain) (leaf := (readK sign).1.leaf) (d := digestB text dg.toNat)
      generalize hf : fromB (readK sign).1.chain (readK sign).1.leaf (digestB text dg.toNat) = f at hs hfl ⊢
      repeat with_reducible refine mv.mk ?_
      refine st_of (v := .agg (u8s f.1).toArray) (w' := w) (by simp [go_sem]) ?_
      refine st_of (v := e4) (w' := w) (by simp [go_sem]) ?_
      refine sp_newr hs (by kernel_rfl) fun g13 w hs => ?_
      refine sp_setr (ds := u8s f.1) hs .hd (by kernel_rfl) ((u8s_length _).trans hfl) (u8s_one _) fun w hs => ?_
      repeat with_reducible refine mv.mk ?_
      refine st_of (err_neq hs (.tl .hd)) ?_
      by_cases hf2 : f.2 = 0
      · rw [decide_eq_true hf2]
        refine br_f ?_
        refine dr_can (R := [blkI g13 T.api_Hash (u8s f.1), blkI g10 T.keys_signature [.int .i64 ((readK sign).1.leaf : Int), cv, pv], blkI g5 T.api_Params [.int .i64 dg, .int .i64 dp]]) hs.drew (.cons .hd (.cons (.tl (.tl (.tl .hd))) (.cons (.tl (.tl (.tl (.tl (.tl (.tl (.tl .hd))))))) .nil))) ?_
        refine tk_ldn hid (by repeat (first | with_reducible exact Rng.blk | with_reducible exact Rng.rng | with_reducible apply Rng.tl)) (by kernel_rfl) ((u8s_length _).trans hfl) ?_
        refine tk_of _ (fun w _ => fieldAt_run (off := 0) (by kernel_rfl) _ _ _) ?_
        refine tx_ld (o := 0) (p := 0) hid (by repeat (first | with_reducible exact Rng.blk | with_reducible exact Rng.rng | with_reducible apply Rng.tl)) (by kernel_rfl) rfl ?_
        refine tk_of _ (fun w _ => fieldAt_run (off := 1) (by kernel_rfl) _ _ _) ?_
        refine tx_ld (o := 0) (p := 1) hid (by repeat (first | with_reducible exact Rng.blk | with_reducible exact Rng.rng | with_reducible apply Rng.tl)) (by kernel_rfl) rfl ?_
        refine tk_run (fun w => i_shl w ⟨hk.2.2.1, hk.2.2.2⟩) ?_
        refine tk_of _ (fun w _ => fieldAt_run (off := 2) (by kernel_rfl) _ _ _) ?_
        refine tx_ld (o := 0) (p := 2) hid (by repeat (first | with_reducible exact Rng.blk | with_reducible exact Rng.rng | with_reducible apply Rng.tl)) (by kernel_rfl) rfl ?_
        have hsm := readK_small (sign := sign)
        have hpw : 2 ^ dp.toNat ≤ 2 ^ 10 := Nat.pow_le_pow_right (by decide) (by omega)
        refine cl (sha_Fold (sv := pv) (path := (readK sign).1.path) hs.drew (.tl (.tl (.tl (.tl (.tl (.tl (.tl (.tl (.tl (.tl (.tl hR))))))))))) (.tl (.tl (.tl (.tl (.tl (.tl .hd)))))) hfl (by omega) (by omega) (by omega)) ?_
        rintro _ w ⟨e5, rfl, hs⟩
        have hfo := foldB_len (l := f.1) (i := (readK sign).1.leaf) (n := 2 ^ dp.toNat) (path := (readK sign).1.path) hfl
        refine ⟨hs.mayr (.drop (.cons .hd (.cons (.tl (.tl (.tl .hd))) (.cons (.tl (.tl (.tl (.tl (.tl (.tl (.tl .hd))))))) .nil)))), ?_⟩
        generalize hF : foldB f.1 (readK sign).1.leaf (2 ^ dp.toNat) (readK sign).1.path = q at hs hfo ⊢
        repeat with_reducible refine mv.mk ?_
        refine tk_run (v := .agg (u8s q.1).toArray) (fun w => by simp [go_sem]) ?_
        refine tk_run (v := e5) (fun w => by simp [go_sem]) ?_
        refine sp_all hs (.tl .hd) (by kernel_rfl) ((u8s_length _).trans hfl) ((u8s_length _).trans hfo) (u8s_one _) fun w hs => ?_
        repeat with_reducible refine mv.mk ?_
        refine st_of (err_neq hs (.tl .hd)) ?_
        repeat with_reducible refine mv.mk ?_
        have ev : verifyK root dg dp text sign = if q.2 ≠ 0 ∨ q.1 ≠ root then 21 else 0 := by
          unfold verifyK
          rw [if_neg (by simpa using hc), if_neg (by simpa using hc2)]
          simp only [hf]
          rw [if_neg (by simpa using hf2)]
          simp only [hF]
        have hbad : ∀ {K : Value → World → Prop}, (q.2 ≠ 0 ∨ q.1 ≠ root) → (∀ r w', Isk.Sep b w' ((errF r (verifyK root dg dp text sign)).it :: L) → K r w') →
            C Tryz.prog N.keys_fault #[.string ⟨#[114, 111, 111, 116]⟩, .iface EN (.int .i64 21)] w K := by
          intro K hb hK
          rw [ev, if_pos hb] at hK
          refine cl (keys_fault (by decide) (by decide) (by decide) hs) ?_
          rintro r w hs
          exact hK r w (hs.sbl (.cons .hd (.drop (.drop (.drop (.drop (.drop (.drop (.drop (.drop (.drop (.drop (.drop (.drop .all))))))))))))))
        by_cases hF2 : q.2 = 0
        · rw [decide_eq_true hF2]
          refine gd_i ?_
          refine sp_ldn hs (by repeat (first | with_reducible exact Rng.blk | with_reducible exact Rng.rng | with_reducible apply Rng.tl)) (by kernel_rfl) ((u8s_length _).trans hfo) ?_
          refine gd_i ?_
          refine sp_ldn hs (by repeat (first | with_reducible exact Rng.blk | with_reducible exact Rng.rng | with_reducible apply Rng.tl)) (by kernel_rfl) ((u8s_length _).trans hr) ?_
          refine gd_i ?_
          refine st_of (hash_ne hfo hr _ _ _) ?_
          refine pk_f ?_
          refine br_split (fun hq => ?_) (fun hq => ?_)
          · refine st1 fun k' hk => ?_; simp [go_sem, thenR_ok, bin]; refine hk _ _ ?_; clear hk k'
            refine hbad (.inr (by simpa using hq)) fun r w' hs => ?_
            repeat with_reducible refine mv.mk ?_
            exact hs
          · repeat with_reducible refine mv.mk ?_
            have hq' : q.1 = root := by simpa using hq
            rw [ev, if_neg (by simp [hF2, hq'])]
            exact (errF_nil hs).sbl (.cons .hd (.drop (.drop (.drop (.drop (.drop (.drop (.drop (.drop (.drop (.drop (.drop (.drop .all)))))))))))))
        · rw [decide_eq_false hF2]
          refine gd_o ?_
          refine gd_o ?_
          refine gd_o ?_
          refine pk_t ?_
          refine br_t ?_
          refine st1 fun k' hk => ?_; simp [go_sem, thenR_ok, bin]; refine hk _ _ ?_; clear hk k'
          refine hbad (.inl hF2) fun r w' hs => ?_
          repeat with_reducible refine mv.mk ?_
          exact hs
      · rw [decide_eq_false hf2]
        refine br_t ?_
        refine st1 fun k' hk => ?_; simp [go_sem, thenR_ok, bin]; refine hk _ _ ?_; clear hk k'
        refine cl (keys_fault (by decide) (by decide) (by decide) hs) ?_
        rintro r w hs
        repeat with_reducible refine mv.mk ?_
        have ev : verifyK root dg dp text sign = 21 := by
          unfold verifyK
          rw [if_neg (by simpa using hc), if_neg (by simpa using hc2)]
          simp only [hf]
          rw [if_pos hf2]
        rw [ev]
        exact hs.sbl (.cons .hd (.drop (.drop (.drop (.drop (.drop (.drop (.drop (.drop (.drop (.drop (.drop .all))))))))))))
    · rw [decide_eq_false hc2]
      refine br_t ?_
      repeat with_reducible refine mv.mk ?_
      rw [verifyK, if_neg (by simpa using hc), if_pos hc2]
      exact hs.sbl (.cons (.tl (.tl (.tl .hd))) (.drop (.drop (.drop (.drop (.drop (.drop .all)))))))
  · rw [show decide (kCheck dg dp = 0) = false from decide_eq_false hc]
    refine br_t ?_
    repeat with_reducible refine mv.mk ?_
    rw [verifyK, if_pos hc]
    exact hs.sbl (.cons .hd (.drop (.drop .all)))
end
end Go.Proofs.YtlfelmikcdmkhaaGreatDoor
