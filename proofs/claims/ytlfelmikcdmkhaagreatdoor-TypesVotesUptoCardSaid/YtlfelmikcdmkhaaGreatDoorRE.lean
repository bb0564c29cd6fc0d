/- The document's answer, chapter 2: bytes behind others. -/
import Derived.Test.YtlfelmikcdmkhaaGreatDoorK8
import Derived.Test.YtlfelmikcdmkhaaGreatDoorTF
set_option linter.unusedVariables false
set_option linter.unusedSimpArgs false
set_option linter.unusedSectionVars false
namespace Go.Proofs.YtlfelmikcdmkhaaGreatDoor
open Go Go.Isk Go.RowKit
/-- r is a new row of just these bytes; what was there stays -/
def NewO (w : World) (r : Value) (w' : World) (l : Bytes) : Prop := w'.ownsRow w.heap.size T.uint8 1 r l.length (u8s l) ∧ Ext w w'
theorem NewO.b {w w' : World} {r : Value} {l : Bytes} (h : NewO w r w' l) : NewB w r w' l := ⟨.of_own h.1, h.2, fun _ hk => own_ge h.1 hk⟩
theorem NewO.after {w w1 w2 : World} {r : Value} {l : Bytes} (hu : Ext w w1) (h : NewO w1 r w2 l) : NewO w r w2 l := ⟨own_base h.1 fun k hk => Nat.le_trans hu.size (own_ge h.1 hk), hu.after h.2⟩
theorem isthmusref02_Uint {w : World} {b : Value} {l : Bytes} {n : Nat} (hb : Sl w b l.length 1 (u8s l)) (hn : n < 18446744073709551616) (hl : l.length + 10 ≤ 2147483648) :
    C Tryz.prog N.isthmusref02_Uint #[b, .int .u64 n] w fun r w' => NewO w r w' (l ++ encU n) := by
  refine C.isthmusref02_Uint ?_
  unfold F.isthmusref02_Uint
  refine mv.mk (mv.mk (mv.mk (mv.mk ?_)))
  refine st_app (B := w.heap.size) tBytes own_nil hb (u8s_one _) (by omega) (by omega) (Nat.le_refl _) fun v' w2 ho2 hu2 hv' => mv.mk ?_
  have hu2' : Ext w w2 := hu2.mono fun k _ hs => by simp [Value.ownBlock] at hs
  have hlen := encU_len10 hn
  refine lp_by (fun vs w' => ∃ (m : Nat) (l' : Bytes) (v : Value), vs = [.int .u64 m, v] ∧ m < 18446744073709551616 ∧ w'.ownsRow w.heap.size T.uint8 1 v l'.length (u8s l') ∧ Ext w w' ∧ l' ++ encU m = l ++ encU n) (fun vs _ => match vs with | [.int _ m, _] => m.toNat | _ => 0) ⟨n, l, _, rfl, hn, by simpa using ho2, hu2', rfl⟩ ?_
  rintro x w1 ⟨m, l', v, hx, hm, ho, hu, he⟩
  simp only [List.cons.injEq, and_true] at hx
  rw [hx.1, hx.2]
  have hll : l'.length + (encU m).length = l.length + (encU n).length := by rw [← List.length_append, he, List.length_append]
  have hpos := encU_pos m
  repeat (first
    | (refine st1 fun k' hk => ?_; simp [go_sem, thenR_ok, bin]; refine hk _ _ ?_; clear hk k')
    | (refine mv.mk ?_))
  by_cases h : 127 < m
  · rw [show decide ((127 : Int) < (m : Int)) = true by simpa using (by omega : (127 : Int) < (m : Int))]
    repeat (first
      | (refine st1 fun k' hk => ?_; simp [go_sem, thenR_ok, bin]; refine hk _ _ ?_; clear hk k')
      | (refine br_t ?_) | (refine mv.mk ?_))
    rw [rem128]
    refine st_app1 tBytes ho rfl (by omega) (by omega) hu.size fun v' w3 ho3 hu3 hv3 => ?_
    repeat (first
      | (refine st1 fun k' hk => ?_; simp [go_sem, thenR_ok, bin]; refine hk _ _ ?_; clear hk k')
      | (refine mv.mk ?_))
    rw [show IntKind.u64.wrap ((m : Int) / 128) = ((m / 128 : Nat) : Int) by rw [u64_wrap]; omega]
    have hu13 : Ext w w3 := hu.trans hu3 fun k hk hs => absurd (own_ge ho hs) (by omega)
    refine ⟨⟨m / 128, l' ++ [UInt8.ofNat (m % 128 + 128)], v', rfl, by omega, by rw [u8s_append, List.length_append]; exact ho3, hu13, ?_⟩, by simp; omega⟩
    rw [List.append_assoc, ← he, encU_big (n := m) (by omega)]; rfl
  · rw [show decide ((127 : Int) < (m : Int)) = false by simpa using (by omega : (m : Int) ≤ (127 : Int))]
    repeat (first
      | (refine st1 fun k' hk => ?_; simp [go_sem, thenR_ok, bin]; refine hk _ _ ?_; clear hk k')
      | (refine br_f ?_) | (refine mv.mk ?_))
    rw [u8_nat]
    refine st_app1 tBytes ho rfl (by omega) (by omega) hu.size fun v' w3 ho3 hu3 hv3 => mv.mk ?_
    have hu13 : Ext w w3 := hu.trans hu3 fun k hk hs => absurd (own_ge ho hs) (by omega)
    refine ⟨?_, hu13⟩
    rw [← he, encU_small (n := m) (by omega), u8s_append, List.length_append]; exact ho3
theorem isthmusref02_Int {w : World} {b : Value} {l : Bytes} {n : Int} (hb : Sl w b l.length 1 (u8s l)) (hn : I64 n) (hl : l.length + 10 ≤ 2147483648) :
    C Tryz.prog N.isthmusref02_Int #[b, .int .i64 n] w fun r w' => NewO w r w' (l ++ encI n) := by
  obtain ⟨h1, h2⟩ := hn
  refine C.isthmusref02_Int ?_
  unfold F.isthmusref02_Int
  repeat (first
    | (refine st1 fun k' hk => ?_; simp [go_sem, thenR_ok, bin]; refine hk _ _ ?_; clear hk k')
    | (refine mv.mk ?_))
  by_cases h : n < 0
  · rw [show decide (n < 0) = true by simpa using h]
    repeat (first
      | (refine st1 fun k' hk => ?_; simp [go_sem, thenR_ok, bin]; refine hk _ _ ?_; clear hk k')
      | (refine br_t ?_) | (refine mv.mk ?_))
    rw [show IntKind.u64.wrap (IntKind.u64.wrap (2 * IntKind.u64.wrap (IntKind.i64.wrap (-IntKind.i64.wrap (n + 1)))) + 1) = ((zig n : Nat) : Int) by
      rw [i64_wrap (n := n + 1) (by omega) (by omega), i64_wrap (by omega) (by omega)]
      simp only [u64_wrap, zig, if_pos h]
      omega]
    exact (isthmusref02_Uint hb (Go.Isk.zig_lt ⟨h1, h2⟩) hl).mono fun v w' h => mv.mk h
  · rw [show decide (n < 0) = false by simpa using h]
    repeat (first
      | (refine st1 fun k' hk => ?_; simp [go_sem, thenR_ok, bin]; refine hk _ _ ?_; clear hk k')
      | (refine br_f ?_) | (refine mv.mk ?_))
    rw [show IntKind.u64.wrap (2 * IntKind.u64.wrap n) = ((zig n : Nat) : Int) by
      simp only [u64_wrap, zig, if_neg h]
      omega]
    exact (isthmusref02_Uint hb (Go.Isk.zig_lt ⟨h1, h2⟩) hl).mono fun v w' h => mv.mk h
theorem isthmusref02_Text {w : World} {b : Value} {l xs : Bytes} (hb : Sl w b l.length 1 (u8s l)) (hl : l.length + xs.length + 10 ≤ 2147483648) :
    C Tryz.prog N.isthmusref02_Text #[b, str xs] w fun r w' => NewO w r w' (l ++ encB xs) := by
  refine C.isthmusref02_Text ?_
  unfold F.isthmusref02_Text
  repeat (first
    | (refine st1 fun k' hk => ?_; simp [go_sem, thenR_ok, bin, str, ByteArray.size]; refine hk _ _ ?_; clear hk k')
    | (refine mv.mk ?_))
  rw [u64_wrap, show ((xs.length : Nat) : Int) % 18446744073709551616 = ((xs.length : Nat) : Int) by omega]
  refine (isthmusref02_Uint hb (n := xs.length) (by omega) (by omega)).mono fun r w2 ⟨ho, hu⟩ => mv.mk ?_
  have hp := encU_len10 (n := xs.length) (by omega)
  refine st_appS (by kernel_rfl) (by kernel_rfl) (by kernel_rfl) ho (by simp only [List.length_append]; omega) hu.size fun v' w3 ho3 hu3 => mv.mk ⟨?_, hu.trans hu3 fun k hk hs => absurd (own_ge ho hs) (by omega)⟩
  rw [← u8s_append, ← List.length_append, List.append_assoc] at ho3; exact ho3
theorem isthmusref02_Hash {w : World} {b : Value} {l h : Bytes} (hb : Sl w b l.length 1 (u8s l)) (hh : h.length = 32) (hl : l.length + 32 ≤ 2147483648) :
    C Tryz.prog N.isthmusref02_Hash #[b, .agg (u8s h).toArray] w fun r w' => NewO w r w' (l ++ h) := by
  refine C.isthmusref02_Hash ?_
  unfold F.isthmusref02_Hash
  refine st_box rfl fun g2 w1 hb1 hu1 hg2 => ?_
  have hu1' : Ext w w1.drew := hu1.drew
  have hb1' : Blk w1.drew g2 _ _ := hb1.ext upd_drew
  refine mv.mk (mv.mk ?_)
  refine dr_by (fun w' => Blk w' g2 T.api_Hash (u8s h)) hb1' ?_
  refine mv.mk (mv.mk ?_)
  refine tk_of (.slice (some ⟨g2, 0, none⟩) 32 32) (fun w _ => by simp [go_sem]) ?_
  refine st_app (B := w1.drew.heap.size) tBytes own_nil (hb.ext hu1') (u8s_one _) (by omega) (by omega) (Nat.le_refl _) fun v' w2 ho2 hu2 _ => ?_
  have hu2' : Ext w1.drew w2 := hu2.mono fun k _ hs => by simp [Value.ownBlock] at hs
  refine ⟨hb1'.ext hu2', ?_⟩
  have hx := Sl.of_blk (n := 32) (m := 32) (o := 0) (sz := 1) (hb1'.ext hu2') (by simp [u8s, hh]) (Nat.le_refl _)
  rw [List.drop_zero, u8s_take, List.take_of_length_le (by omega)] at hx
  refine st_app (B := w1.drew.heap.size) tBytes ho2 hx (u8s_one _) (by omega) (by omega) hu2'.size fun v3 w3 ho3 hu3 _ => ?_
  have hu3' : Ext w1.drew w3 := hu2'.trans hu3 fun k hk hs => absurd (own_ge ho2 hs) (by omega)
  refine ⟨hb1'.ext hu3', mv.mk (NewO.after hu1' ⟨?_, hu3'⟩)⟩
  rw [List.nil_append, ← u8s_append, Nat.zero_add] at ho3
  rw [List.length_append, hh]; exact ho3
end Go.Proofs.YtlfelmikcdmkhaaGreatDoor
set_option linter.unusedVariables false
set_option linter.unusedSimpArgs false
set_option linter.unusedSectionVars false
namespace Go.Proofs.YtlfelmikcdmkhaaGreatDoor
open Go Go.Isk Go.RowKit
theorem NewB.then {w0 w w' : World} {r r' : Value} {l l' : Bytes} (h : NewB w0 r w l) (h' : NewB w r' w' l') : NewB w0 r' w' l' := NewB.after h.2.1 h'
theorem NewB.drew {w0 w : World} {r : Value} {l : Bytes} (h : NewB w0 r w l) : NewB w0 r w.drew l := ⟨h.1.ext upd_drew, h.2.1.drew, h.2.2⟩
theorem isthmusref11_VoteBytes {B : Nat} {w : World} {cs : List Value} {chain : Bytes} {v : Vote} (hv : VoteIs B w cs v) (hl : (encVoteBytes chain v).length + 10 ≤ 2147483648) :
    C Tryz.prog N.isthmusref11_VoteBytes #[str chain, .agg cs.toArray] w fun r w' => NewB w r w' (encVoteBytes chain v) := by
  obtain ⟨sv, rfl, hok, hs⟩ := hv
  refine C.isthmusref11_VoteBytes ?_
  unfold F.isthmusref11_VoteBytes
  refine st_box rfl fun g2 w1 hb1 hu0 hg2 => ?_
  have hblk := u8s_len hok.block
  have hbl := hok.block
  simp only [encVoteBytes, encI, encB, List.length_append] at hl
  refine mv.mk ?_
  rw [show (Value.string ⟨#[118, 111, 116, 101]⟩) = str voteTag from rfl]
  refine (isthmusref02_Text (l := []) (Sl.nil 1) (by simp only [List.length_append, List.length_nil]; omega)).mono fun r w2 h2 => mv.mk ?_
  have h2 := NewO.b h2
  refine (isthmusref02_Text h2.1 (by simp only [encB, List.length_append, List.length_nil]; omega)).mono fun r w3 h3 => mv.mk ?_
  have h3 := (NewB.then h2 h3.b).drew
  refine dr_by (fun w' => Blk w' g2 T.api_Vote (voteC (.int .i64 v.kind) (.int .i64 v.height) (.int .i64 v.round) (u8s v.block) (.int .i64 v.validator) sv)) (hb1.ext h3.2.1) ?_
  refine mv.mk ?_
  refine vote.t0 (fun _ h => h) ?_
  refine vote.t1 (fun _ h => h) ?_
  refine vote.t2 (fun _ h => h) ?_
  refine vote.t3 hblk (fun _ h => h) ?_
  refine (isthmusref02_Int h3.1 hok.kind (by simp only [encB, encI, List.length_append, List.length_nil]; omega)).mono fun r w4 h4 => ?_
  have h4 := NewB.then h3 h4.b
  refine ⟨hb1.ext h4.2.1, ?_⟩
  refine (isthmusref02_Int h4.1 hok.height (by simp only [encB, encI, List.length_append, List.length_nil]; omega)).mono fun r w5 h5 => ?_
  have h5 := NewB.then h4 h5.b
  refine ⟨hb1.ext h5.2.1, ?_⟩
  refine (isthmusref02_Int h5.1 hok.round (by simp only [encB, encI, List.length_append, List.length_nil]; omega)).mono fun r w6 h6 => ?_
  have h6 := NewB.then h5 h6.b
  refine ⟨hb1.ext h6.2.1, ?_⟩
  refine (isthmusref02_Hash h6.1 hok.block (by simp only [encB, encI, List.length_append, List.length_nil]; omega)).mono fun r w7 h7 => ?_
  have h7 := NewB.then h6 h7.b
  refine ⟨hb1.ext h7.2.1, ?_⟩
  refine mv.mk ?_
  have := NewB.after hu0 h7
  simpa only [encVoteBytes, List.append_assoc, List.nil_append] using this
end Go.Proofs.YtlfelmikcdmkhaaGreatDoor
