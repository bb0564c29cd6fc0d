/- pack: writers. -/
import Derived.Test.YtbbmgkbinnomgaaGreatDoorFT
import Derived.Test.YtbbmgkbinnomgaaGreatDoorM5
import Derived.Test.YtbbmgkbinnomgaaGreatDoorF0
import Derived.Test.YtbbmgkbinnomgaaGreatDoorF1
import Derived.Test.YtbbmgkbinnomgaaGreatDoorF2
import Derived.Test.YtbbmgkbinnomgaaGreatDoorF3
import Derived.Test.YtbbmgkbinnomgaaGreatDoorST
set_option linter.unusedVariables false
set_option linter.unusedSimpArgs false
set_option linter.unusedSectionVars false
namespace Go.Proofs.YtbbmgkbinnomgaaGreatDoor
open Go Go.Isk Go.RowKit
theorem tBytes : slT Tryz.prog T.sl_uint8 T.uint8 1 1 = true := by kernel_rfl
/-- below B all is as it was -/
abbrev Low (B : Nat) (w w' : World) : Prop := Upd (fun k => B ≤ k) w w'
/-- a writer, made since there were B blocks, whose slice v holds the bytes l -/
structure Wr (B : Nat) (w : World) (g : Nat) (v : Value) (l : List UInt8) : Prop where
  ge : B ≤ g
  blk : Blk w g T.pack_Writer [v]
  own : w.ownsRow B T.uint8 1 v l.length (u8s l)
/-- the writer of the world w0 (with the slice v0) holds in w the bytes l; nothing else was turned since -/
structure Ws (B : Nat) (w0 : World) (v0 : Value) (g : Nat) (w : World) (l : List UInt8) : Prop where
  now : ∃ v, Wr B w g v l ∧ (v.ownBlock = v0.ownBlock ∨ ∃ k, v.ownBlock = some k ∧ w0.heap.size ≤ k)
  upd : Upd (fun k => k = g ∨ v0.ownBlock = some k) w0 w
  lt : g < w0.heap.size
  base : ∀ k, v0.ownBlock = some k → B ≤ k
theorem Wr.start {B g : Nat} {w : World} {v : Value} {l : List UInt8} (h : Wr B w g v l) : Ws B w v g w l := ⟨⟨v, h, .inl rfl⟩, Upd.refl, h.blk.lt, fun k hk => own_ge h.own hk⟩
theorem Ws.trans {B g : Nat} {w0 w w' : World} {v0 v : Value} {l l' : List UInt8} (h : Ws B w0 v0 g w l) (hv : v.ownBlock = v0.ownBlock ∨ ∃ k, v.ownBlock = some k ∧ w0.heap.size ≤ k) (h' : Ws B w v g w' l') : Ws B w0 v0 g w' l' := by
  obtain ⟨v', hW', hv'⟩ := h'.now
  refine ⟨⟨v', hW', ?_⟩, h.upd.trans h'.upd fun k hk hs => ?_, h.lt, h.base⟩
  · rcases hv' with e | ⟨k, e, hk⟩
    · rw [e]; exact hv
    · exact .inr ⟨k, e, Nat.le_trans h.upd.size hk⟩
  · rcases hs with e | e
    · exact .inl e
    · rcases hv with e' | ⟨k', e', hk'⟩
      · exact .inr (e' ▸ e)
      · rw [e'] at e; cases e; omega
theorem Wr.ext {B g : Nat} {w w1 : World} {v : Value} {l : List UInt8} (h : Wr B w g v l) (hu : Ext w w1) : Wr B w1 g v l := ⟨h.ge, h.blk.ext hu, own_keep h.own hu fun _ _ h => h⟩
theorem Ws.after {B g : Nat} {w w1 w2 : World} {v : Value} {l l' : List UInt8} (h : Wr B w g v l) (hu : Ext w w1) (h2 : Ws B w1 v g w2 l') : Ws B w v g w2 l' := by
  obtain ⟨v2, hW2, hv2⟩ := h2.now
  exact ⟨⟨v2, hW2, hv2.imp id fun ⟨k, e, hk⟩ => ⟨k, e, Nat.le_trans hu.size hk⟩⟩, hu.after h2.upd, h.blk.lt, fun k hk => own_ge h.own hk⟩
/-- what a writer's method does, seen from an elder world -/
theorem Ws.call {f : Nat} {args : Array Value} {B g : Nat} {w0 w : World} {v0 : Value} {l l' : List UInt8} (h : Ws B w0 v0 g w l)
    (hc : ∀ v, Wr B w g v l → C Tryz.prog f args w fun r w' => r = .pointer (some ⟨g, 0, none⟩) ∧ Ws B w v g w' l') : C Tryz.prog f args w fun r w' => r = .pointer (some ⟨g, 0, none⟩) ∧ Ws B w0 v0 g w' l' := by
  obtain ⟨v, hW, hv⟩ := h.now
  exact (hc v hW).mono fun r w' ⟨e, h'⟩ => ⟨e, h.trans hv h'⟩
theorem wr_put {B g : Nat} {l x : List UInt8} {w1 w2 w3 : World} {v v' : Value} (h : Wr B w1 g v l) (ho2 : w2.ownsRow B T.uint8 1 v' (l.length + x.length) (u8s l ++ u8s x)) (hu2 : Upd (fun k => v.ownBlock = some k) w1 w2)
    (hv : v'.ownBlock = v.ownBlock ∨ ∃ k, v'.ownBlock = some k ∧ w1.heap.size ≤ k) (hb3 : Blk w3 g T.pack_Writer [v']) (hu3 : Upd (fun k => k = g) w2 w3) : Ws B w1 v g w3 (l ++ x) := by
  have hb2 := h.blk.keep hu2 (own_ne h.own h.blk (by decide))
  refine ⟨⟨v', ⟨h.ge, hb3, ?_⟩, hv⟩, (hu2.mono fun k hk hs => .inr hs).trans hu3 fun k hk hs => .inl hs, h.blk.lt, fun k hk => own_ge h.own hk⟩
  have := own_keep ho2 hu3 fun k hk hs => own_ne ho2 hb2 (by decide) (hs ▸ hk)
  rw [List.length_append, u8s_append]; exact this
theorem pack_Writer_Uint' {B g : Nat} {l : List UInt8} {n : Nat} {w : World} {v0 : Value} (hn : n < 18446744073709551616) (hW : Wr B w g v0 l) (hl : l.length + 10 ≤ 2147483648) :
    C Tryz.prog N.pack_Writer_Uint #[.pointer (some ⟨g, 0, none⟩), .int .u64 n] w fun r w' => r = .pointer (some ⟨g, 0, none⟩) ∧ Ws B w v0 g w' (l ++ encU n) := by
  refine C.pack_Writer_Uint ?_
  unfold F.pack_Writer_Uint
  repeat (first
    | (refine st1 fun k' hk => ?_; simp [go_sem, thenR_ok, bin]; refine hk _ _ ?_; clear hk k')
    | (refine nk_p ?_) | (refine br_t ?_) | (refine br_f ?_) | (refine mv.mk ?_))
  have hlen := encU_len10 hn
  refine lp_by (fun vs w' => ∃ (m : Nat) (l' : List UInt8), vs = [.int .u64 m] ∧ m < 18446744073709551616 ∧ Ws B w v0 g w' l' ∧ l' ++ encU m = l ++ encU n) (fun vs _ => match vs with | [.int _ m] => m.toNat | _ => 0) ⟨n, l, rfl, hn, hW.start, rfl⟩ ?_
  rintro x w1 ⟨m, l', hx, hm, hS, he⟩
  simp only [List.cons.injEq, and_true] at hx
  rw [hx]
  obtain ⟨v, hW1, hvv⟩ := hS.now
  have hc := hW1.blk.cell 0
  simp only [List.getElem?_cons_zero] at hc
  have hll : l'.length + (encU m).length = l.length + (encU n).length := by rw [← List.length_append, he, List.length_append]
  have hpos := encU_pos m
  have hB := Nat.le_trans hW1.ge (Nat.le_of_lt hW1.blk.lt)
  repeat (first
    | (refine st1 fun k' hk => ?_; simp [go_sem, thenR_ok, bin]; refine hk _ _ ?_; clear hk k')
    | (refine nk_p ?_) | (refine mv.mk ?_))
  by_cases h : 128 ≤ m
  · rw [show decide ((128 : Int) ≤ (m : Int)) = true by simpa using (by omega : (128 : Int) ≤ (m : Int))]
    repeat (first
      | (refine st1 fun k' hk => ?_; simp [go_sem, thenR_ok, bin, hc]; refine hk _ _ ?_; clear hk k')
      | (refine nk_p ?_) | (refine br_t ?_) | (refine mv.mk ?_))
    rw [or128]
    refine st_app1 tBytes hW1.own rfl (by omega) (by omega) hB fun v' w2 ho2 hu2 hv' => ?_
    have hb2 := hW1.blk.keep hu2 (own_ne hW1.own hW1.blk (by decide))
    refine nk_p (mv.mk ?_)
    refine st1 fun k' hk => ?_; simp [go_sem, thenR_ok]; refine hk _ _ ?_; clear hk k'
    refine st_store1 (by kernel_rfl) (own_cells ho2) hb2 (by simp) fun w3 hb3 hu3 => ?_
    repeat (first
      | (refine st1 fun k' hk => ?_; simp [go_sem, thenR_ok, bin, hc]; refine hk _ _ ?_; clear hk k')
      | (refine mv.mk ?_))
    have hS3 := wr_put (x := [UInt8.ofNat (m % 128 + 128)]) hW1 ho2 hu2 hv' hb3 hu3
    refine ⟨⟨m / 128, _, by simp, by omega, hS.trans hvv hS3, ?_⟩, by simp; omega⟩
    rw [List.append_assoc, ← he, encU_big (n := m) (by omega)]; rfl
  · rw [show decide ((128 : Int) ≤ (m : Int)) = false by simpa using (by omega : (m : Int) < (128 : Int))]
    repeat (first
      | (refine st1 fun k' hk => ?_; simp [go_sem, thenR_ok, bin, hc]; refine hk _ _ ?_; clear hk k')
      | (refine nk_p ?_) | (refine br_f ?_) | (refine mv.mk ?_))
    rw [u8_nat]
    refine st_app1 tBytes hW1.own rfl (by omega) (by omega) hB fun v' w2 ho2 hu2 hv' => ?_
    have hb2 := hW1.blk.keep hu2 (own_ne hW1.own hW1.blk (by decide))
    refine nk_p (mv.mk ?_)
    refine st1 fun k' hk => ?_; simp [go_sem, thenR_ok]; refine hk _ _ ?_; clear hk k'
    refine st_store1 (by kernel_rfl) (own_cells ho2) hb2 (by simp) fun w3 hb3 hu3 => ?_
    have hS3 := hS.trans hvv (wr_put (x := [UInt8.ofNat m]) hW1 ho2 hu2 hv' hb3 hu3)
    refine mv.mk (mv.mk ⟨rfl, ?_⟩)
    rw [← he, encU_small (n := m) (by omega)]; exact hS3
theorem pack_Writer_Uint {B g : Nat} {l : List UInt8} {n : Nat} {w0 w : World} {v0 : Value} (hn : n < 18446744073709551616) (hS : Ws B w0 v0 g w l) (hl : l.length + 10 ≤ 2147483648) :
    C Tryz.prog N.pack_Writer_Uint #[.pointer (some ⟨g, 0, none⟩), .int .u64 n] w fun r w' => r = .pointer (some ⟨g, 0, none⟩) ∧ Ws B w0 v0 g w' (l ++ encU n) := hS.call fun _ hW => pack_Writer_Uint' hn hW hl
theorem pack_Writer_raw' {B g m : Nat} {l xs : List UInt8} {x : Value} {w : World} {v : Value} (hx : Sl w x m 1 (u8s xs)) (hW : Wr B w g v l) (hl : l.length + xs.length ≤ 2147483648) :
    C Tryz.prog N.pack_Writer_raw #[.pointer (some ⟨g, 0, none⟩), x] w fun r w' => r = .pointer (some ⟨g, 0, none⟩) ∧ Ws B w v g w' (l ++ xs) := by
  have hc := hW.blk.cell 0
  simp only [List.getElem?_cons_zero] at hc
  have hm : xs.length = m := by have := hx.len; rw [u8s_length] at this; omega
  subst hm
  refine C.pack_Writer_raw ?_
  unfold F.pack_Writer_raw
  repeat (first
    | (refine st1 fun k' hk => ?_; simp [go_sem, thenR_ok, bin, hc]; refine hk _ _ ?_; clear hk k')
    | (refine nk_p ?_) | (refine br_t ?_) | (refine jn_in ?_) | (refine mv.mk ?_))
  refine st_app tBytes hW.own hx (u8s_one _) (by omega) (by omega) (Nat.le_trans hW.ge (Nat.le_of_lt hW.blk.lt)) fun v' w2 ho2 hu2 hv' => ?_
  have hb2 := hW.blk.keep hu2 (own_ne hW.own hW.blk (by decide))
  refine nk_p (mv.mk ?_)
  refine st1 fun k' hk => ?_; simp [go_sem, thenR_ok]; refine hk _ _ ?_; clear hk k'
  refine st_store1 (by kernel_rfl) (own_cells ho2) hb2 (by simp) fun w3 hb3 hu3 => ?_
  exact fun _ _ => mv.mk (mv.mk ⟨rfl, wr_put (x := xs) hW ho2 hu2 hv' hb3 hu3⟩)
theorem pack_Writer_raw {B g m : Nat} {l xs : List UInt8} {x : Value} {w0 w : World} {v0 : Value} (hx : Sl w x m 1 (u8s xs)) (hS : Ws B w0 v0 g w l) (hl : l.length + xs.length ≤ 2147483648) :
    C Tryz.prog N.pack_Writer_raw #[.pointer (some ⟨g, 0, none⟩), x] w fun r w' => r = .pointer (some ⟨g, 0, none⟩) ∧ Ws B w0 v0 g w' (l ++ xs) := hS.call fun _ hW => pack_Writer_raw' hx hW hl
theorem pack_Writer_Bytes' {B g m : Nat} {l xs : List UInt8} {x : Value} {w : World} {v0 : Value} (hx : Sl w x m 1 (u8s xs)) (hxb : 0 < xs.length → ∀ k, x.ownBlock = some k → k ≠ g ∧ v0.ownBlock ≠ some k) (hW : Wr B w g v0 l) (hl : l.length + xs.length + 10 ≤ 2147483648) :
    C Tryz.prog N.pack_Writer_Bytes #[.pointer (some ⟨g, 0, none⟩), x] w fun r w' => r = .pointer (some ⟨g, 0, none⟩) ∧ Ws B w v0 g w' (l ++ (encU xs.length ++ xs)) := by
  have hm : xs.length = m := by have := hx.len; rw [u8s_length] at this; omega
  subst hm
  refine C.pack_Writer_Bytes ?_
  unfold F.pack_Writer_Bytes
  have hx' := hx
  obtain ⟨A, c, rfl, _⟩ := hx'
  repeat (first
    | (refine st1 fun k' hk => ?_; simp [go_sem, thenR_ok, bin]; refine hk _ _ ?_; clear hk k')
    | (refine mv.mk ?_))
  rw [u64_wrap, show ((xs.length : Nat) : Int) % 18446744073709551616 = ((xs.length : Nat) : Int) by omega]
  refine (pack_Writer_Uint' (by omega) hW (by omega)).mono fun v w1 ⟨e, hS1⟩ => mv.mk ?_
  subst e
  have hp := encU_len10 (n := xs.length) (by omega)
  refine (pack_Writer_raw (hx.keep' hS1.upd fun hn k hk hs => hs.elim (hxb (by omega) k hk).1 (hxb (by omega) k hk).2) hS1 (by simp; omega)).mono fun v w2 ⟨e, hS2⟩ => mv.mk ⟨e, ?_⟩
  rw [← List.append_assoc]; exact hS2
theorem pack_New {w : World} : C Tryz.prog N.pack_New #[] w fun r w' => ∃ g, r = .pointer (some ⟨g, 0, none⟩) ∧ Wr w.heap.size w' g (.slice none 0 0) [] ∧ Ext w w' := by
  refine C.pack_New ?_
  unfold F.pack_New
  repeat (first
    | (refine st1 fun k' hk => ?_; simp [go_sem, thenR_ok, bin]; refine hk _ _ ?_; clear hk k')
    | (refine mv.mk ?_))
  exact ⟨_, rfl, ⟨Nat.le_refl _, Blk.new (cs := [.slice none 0 0]), own_nil⟩, upd_alloc _⟩
theorem pack_Writer_Hash {B g : Nat} {l h : List UInt8} {w0 w : World} {v0 : Value} (hh : h.length = 32) (hS : Ws B w0 v0 g w l) (hl : l.length + 32 ≤ 2147483648) :
    C Tryz.prog N.pack_Writer_Hash #[.pointer (some ⟨g, 0, none⟩), .agg (u8s h).toArray] w fun r w' => r = .pointer (some ⟨g, 0, none⟩) ∧ Ws B w0 v0 g w' (l ++ h) := by
  refine hS.call fun v hW => ?_
  refine C.pack_Writer_Hash ?_
  unfold F.pack_Writer_Hash
  refine st_box rfl fun g2 w1 hb1 hu1 hg2 => ?_
  repeat (first
    | (refine st1 fun k' hk => ?_; simp [go_sem, thenR_ok, bin]; refine hk _ _ ?_; clear hk k')
    | (refine mv.mk ?_))
  have hx := Sl.of_blk (n := 32) (m := 32) (o := 0) (sz := 1) hb1 (by simp [u8s, hh]) (Nat.le_refl _)
  rw [List.drop_zero, u8s_take, List.take_of_length_le (by omega)] at hx
  exact (pack_Writer_raw' hx (hW.ext hu1) (by omega)).mono fun r w2 ⟨e, hS2⟩ => mv.mk ⟨e, .after hW hu1 hS2⟩
theorem pack_Writer_Done {B g : Nat} {l : List UInt8} {w : World} {v : Value} (hW : Wr B w g v l) (hl : l.length ≤ 2147483648) :
    C Tryz.prog N.pack_Writer_Done #[.pointer (some ⟨g, 0, none⟩)] w fun r w' => Sl w' r l.length 1 (u8s l) ∧ Ext w w' ∧ (∀ k, r.ownBlock = some k → w.heap.size ≤ k) := by
  have hc := hW.blk.cell 0
  simp only [List.getElem?_cons_zero] at hc
  refine C.pack_Writer_Done ?_
  unfold F.pack_Writer_Done
  repeat (first
    | (refine st1 fun k' hk => ?_; simp [go_sem, thenR_ok, bin, hc]; refine hk _ _ ?_; clear hk k')
    | (refine nk_p ?_) | (refine br_f ?_) | (refine mv.mk ?_))
  refine st_app (B := w.heap.size) tBytes own_nil (Sl.of_own hW.own) (u8s_one _) (by omega) (by omega) (Nat.le_refl _) fun v' w2 ho2 hu2 hv' => mv.mk ⟨?_, ?_, ?_⟩
  · simpa using Sl.of_own ho2
  · exact hu2.mono fun k _ hs => by simp [Value.ownBlock] at hs
  · exact fun k hk => own_ge ho2 hk
end Go.Proofs.YtbbmgkbinnomgaaGreatDoor
set_option linter.unusedVariables false
set_option linter.unusedSimpArgs false
set_option linter.unusedSectionVars false
namespace Go.Proofs.YtbbmgkbinnomgaaGreatDoor
open Go Go.Isk Go.RowKit
/-- the cells of a vote -/
def VoteIs (B : Nat) (w : World) (cs : List Value) (v : Vote) : Prop :=
  ∃ sv, cs = voteC (.int .i64 v.kind) (.int .i64 v.height) (.int .i64 v.round) (u8s v.block) (.int .i64 v.validator) sv ∧ v.ok ∧ SlB B w sv v.sign.length 1 (u8s v.sign)
theorem u8s_len {l : Bytes} {n : Nat} (h : l.length = n) : (u8s l).length = n := by rw [u8s_length, h]
theorem VoteIs.keep {B : Nat} {w w' : World} {cs : List Value} {v : Vote} {S : Nat → Prop} (h : VoteIs B w cs v) (hu : Upd S w w') (hs : ∀ k, S k → B ≤ k) : VoteIs B w' cs v := by
  obtain ⟨sv, rfl, hok, h⟩ := h
  exact ⟨sv, rfl, hok, h.keep hu hs⟩
theorem VoteIs.len {B : Nat} {w : World} {cs : List Value} {v : Vote} (h : VoteIs B w cs v) : cs.length = 37 := by
  obtain ⟨sv, rfl, hok, h⟩ := h
  exact voteC_len (u8s_len hok.block)
theorem VoteIs.one {B : Nat} {w : World} {cs : List Value} {v : Vote} (h : VoteIs B w cs v) : ∀ u ∈ cs, u.oneCell' = true := by
  obtain ⟨sv, rfl, hok, h⟩ := h
  have h1 := u8s_one v.block
  have h2 := (sl_cells h.1).2
  intro u hu
  simp only [voteC, List.mem_cons, List.mem_append, List.not_mem_nil, or_false] at hu
  rcases hu with rfl | rfl | rfl | hu | rfl | rfl
  · rfl
  · rfl
  · rfl
  · exact h1 u hu
  · rfl
  · exact h2
/-- a box made beside the writer stays -/
theorem Ws.box {B g g2 : Nat} {T : TypeId} {cs : List Value} {w w1 w' : World} {v : Value} {l l' : List UInt8} (hW : Wr B w g v l) (hg2 : w.heap.size ≤ g2) (hb : Blk w1 g2 T cs) (h : Ws B w1 v g w' l') : Blk w' g2 T cs :=
  hb.keep h.upd (by
    rintro (e | e)
    · have := hW.blk.lt; omega
    · have := own_lt hW.own e; omega)
theorem Ws.ext {B g : Nat} {w0 w w1 : World} {v0 : Value} {l : Bytes} (h : Ws B w0 v0 g w l) (hu : Ext w w1) : Ws B w0 v0 g w1 l := by
  obtain ⟨v, hW, hv⟩ := h.now
  exact ⟨⟨v, hW.ext hu, hv⟩, h.upd.ext hu, h.lt, h.base⟩
theorem tHashes : slT Tryz.prog T.sl_api_Hash T.api_Hash 32 32 = true := by kernel_rfl
/-- the cells of a commit -/
def CommIs (B : Nat) (w : World) (cs : List Value) (c : Commit) : Prop :=
  ∃ sv, cs = commC (.int .i64 c.height) (.int .i64 c.round) (u8s c.block) sv ∧ c.ok ∧ ListIs (VoteIs B w) B w sv 37 c.votes
theorem VotesIs.keep {B : Nat} {w w' : World} {sv : Value} {l : List Vote} {S : Nat → Prop} (h : ListIs (VoteIs B w) B w sv 37 l) (hu : Upd S w w') (hs : ∀ k, S k → B ≤ k) : ListIs (VoteIs B w') B w' sv 37 l :=
  ListIs.keep h hu hs fun _ _ h => h.keep hu hs
theorem CommIs.keep {B : Nat} {w w' : World} {cs : List Value} {c : Commit} {S : Nat → Prop} (h : CommIs B w cs c) (hu : Upd S w w') (hs : ∀ k, S k → B ≤ k) : CommIs B w' cs c := by
  obtain ⟨sv, rfl, hok, h⟩ := h
  exact ⟨sv, rfl, hok, VotesIs.keep h hu hs⟩
theorem CommIs.len {B : Nat} {w : World} {cs : List Value} {c : Commit} (h : CommIs B w cs c) : cs.length = 35 := by
  obtain ⟨sv, rfl, hok, h⟩ := h
  exact commC_len (u8s_len hok.block)
theorem listIs_one {B sz : Nat} {w : World} {sv : Value} {α : Type} {R : List Value → α → Prop} {xs : List α} (h : ListIs R B w sv sz xs) : sv.cells = #[sv] ∧ sv.oneCell' = true := by
  obtain ⟨xss, h0, h1, h2, h3⟩ := h
  exact sl_cells h3.1
theorem CommIs.one {B : Nat} {w : World} {cs : List Value} {c : Commit} (h : CommIs B w cs c) : ∀ u ∈ cs, u.oneCell' = true := by
  obtain ⟨sv, rfl, hok, h⟩ := h
  have h1 := u8s_one c.block
  have h2 := (listIs_one h).2
  intro u hu
  simp only [commC, List.mem_cons, List.mem_append, List.not_mem_nil, or_false] at hu
  rcases hu with rfl | rfl | hu | rfl
  · rfl
  · rfl
  · exact h1 u hu
  · exact h2
/-- the cells of a header -/
def HeadIs (cs : List Value) (h : Header) : Prop :=
  cs = headC (str h.chain) (.int .i64 h.height) (.int .i64 h.time) (u8s h.last) (u8s h.app) (u8s h.txs) (u8s h.validators) (u8s h.next) (.int .i64 h.proposer) ∧ h.ok
theorem HeadIs.len {cs : List Value} {h : Header} (hh : HeadIs cs h) : cs.length = 164 := by
  obtain ⟨rfl, hok⟩ := hh
  exact headC_len (u8s_len hok.last) (u8s_len hok.app) (u8s_len hok.txs) (u8s_len hok.validators) (u8s_len hok.next)
theorem HeadIs.one {cs : List Value} {h : Header} (hh : HeadIs cs h) : ∀ u ∈ cs, u.oneCell' = true := by
  obtain ⟨rfl, hok⟩ := hh
  intro u hu
  simp only [headC, List.mem_cons, List.mem_append, List.not_mem_nil, or_false] at hu
  rcases hu with rfl | rfl | rfl | hu | hu | hu | hu | hu | rfl
  · rfl
  · rfl
  · rfl
  · exact u8s_one _ u hu
  · exact u8s_one _ u hu
  · exact u8s_one _ u hu
  · exact u8s_one _ u hu
  · exact u8s_one _ u hu
  · rfl
/-- the cell of some bytes -/
def ByteIs (B : Nat) (w : World) (cs : List Value) (t : Bytes) : Prop := ∃ x, cs = [x] ∧ SlB B w x t.length 1 (u8s t)
theorem ByteIs.keep {B : Nat} {w w' : World} {cs : List Value} {t : Bytes} {S : Nat → Prop} (h : ByteIs B w cs t) (hu : Upd S w w') (hs : ∀ k, S k → B ≤ k) : ByteIs B w' cs t := by
  obtain ⟨x, rfl, h⟩ := h
  exact ⟨x, rfl, h.keep hu hs⟩
theorem TxsIs.keep {B : Nat} {w w' : World} {sv : Value} {l : List Bytes} {S : Nat → Prop} (h : ListIs (ByteIs B w) B w sv 1 l) (hu : Upd S w w') (hs : ∀ k, S k → B ≤ k) : ListIs (ByteIs B w') B w' sv 1 l :=
  ListIs.keep h hu hs fun _ _ h => h.keep hu hs
/-- the cells of a block -/
def BlokIs (B : Nat) (w : World) (cs : List Value) (b : Block) : Prop :=
  ∃ hc sv cc, cs = blokC hc sv cc ∧ HeadIs hc b.header ∧ ListIs (ByteIs B w) B w sv 1 b.txs ∧ CommIs B w cc b.last
theorem BlokIs.keep {B : Nat} {w w' : World} {cs : List Value} {b : Block} {S : Nat → Prop} (h : BlokIs B w cs b) (hu : Upd S w w') (hs : ∀ k, S k → B ≤ k) : BlokIs B w' cs b := by
  obtain ⟨hc, sv, cc, rfl, h1, h2, h3⟩ := h
  exact ⟨hc, sv, cc, rfl, h1, TxsIs.keep h2 hu hs, h3.keep hu hs⟩
/-- the cells of a validator -/
def ValiIs (cs : List Value) (v : Validator) : Prop := cs = valiC (str v.name) (u8s v.key) (.int .i64 v.power) ∧ v.ok
theorem ValiIs.len {cs : List Value} {v : Validator} (h : ValiIs cs v) : cs.length = 34 := by
  obtain ⟨rfl, hok⟩ := h
  exact valiC_len (u8s_len hok.key)
theorem ValiIs.one {cs : List Value} {v : Validator} (h : ValiIs cs v) : ∀ u ∈ cs, u.oneCell' = true := by
  obtain ⟨rfl, hok⟩ := h
  intro u hu
  simp only [valiC, List.mem_cons, List.mem_append, List.not_mem_nil, or_false] at hu
  rcases hu with rfl | hu | rfl
  · rfl
  · exact u8s_one _ u hu
  · rfl
theorem ValsIs.keep {B : Nat} {w w' : World} {sv : Value} {l : List Validator} {S : Nat → Prop} (h : ListIs ValiIs B w sv 34 l) (hu : Upd S w w') (hs : ∀ k, S k → B ≤ k) : ListIs ValiIs B w' sv 34 l :=
  ListIs.keep h hu hs fun _ _ h => h
end Go.Proofs.YtbbmgkbinnomgaaGreatDoor
set_option linter.unusedVariables false
set_option linter.unusedSimpArgs false
set_option linter.unusedSectionVars false
namespace Go.Proofs.YtbbmgkbinnomgaaGreatDoor
open Go Go.Isk Go.RowKit
/-- r is a new slice of just these bytes; what was there stays -/
def NewB (w : World) (r : Value) (w' : World) (l : Bytes) : Prop := Sl w' r l.length 1 (u8s l) ∧ Ext w w' ∧ (∀ k, r.ownBlock = some k → w.heap.size ≤ k)
theorem NewB.after {w w1 w2 : World} {r : Value} {l : Bytes} (hu : Ext w w1) (h : NewB w1 r w2 l) : NewB w r w2 l := ⟨h.1, hu.after h.2.1, fun k hk => Nat.le_trans hu.size (h.2.2 k hk)⟩
theorem listIs_mono {α : Type} {R R' : List Value → α → Prop} {B B' sz : Nat} {w : World} {sv : Value} {xs : List α} (h : ListIs R B w sv sz xs) (hs : ∀ n ys, SlB B w sv n sz ys → SlB B' w sv n sz ys) (hR : ∀ x a, R x a → R' x a) : ListIs R' B' w sv sz xs := by
  obtain ⟨xss, h0, h1, h2, h3⟩ := h
  exact ⟨xss, h0, fun i hi x hx => hR _ _ (h1 i hi x hx), h2, hs _ _ h3⟩
theorem VoteIs.mono {B B' : Nat} {w : World} {cs : List Value} {v : Vote} (h : VoteIs B w cs v) (hB : B ≤ B') : VoteIs B' w cs v := by
  obtain ⟨sv, rfl, hok, h⟩ := h
  exact ⟨sv, rfl, hok, h.mono hB⟩
theorem VotesIs.mono {B B' : Nat} {w : World} {sv : Value} {l : List Vote} (h : ListIs (VoteIs B w) B w sv 37 l) (hB : B ≤ B') : ListIs (VoteIs B' w) B' w sv 37 l := listIs_mono h (fun _ _ h => h.mono hB) fun _ _ h => h.mono hB
theorem CommIs.mono {B B' : Nat} {w : World} {cs : List Value} {c : Commit} (h : CommIs B w cs c) (hB : B ≤ B') : CommIs B' w cs c := by
  obtain ⟨sv, rfl, hok, h⟩ := h
  exact ⟨sv, rfl, hok, VotesIs.mono h hB⟩
theorem ByteIs.mono {B B' : Nat} {w : World} {cs : List Value} {t : Bytes} (h : ByteIs B w cs t) (hB : B ≤ B') : ByteIs B' w cs t := by
  obtain ⟨x, rfl, h⟩ := h
  exact ⟨x, rfl, h.mono hB⟩
theorem TxsIs.mono {B B' : Nat} {w : World} {sv : Value} {l : List Bytes} (h : ListIs (ByteIs B w) B w sv 1 l) (hB : B ≤ B') : ListIs (ByteIs B' w) B' w sv 1 l := listIs_mono h (fun _ _ h => h.mono hB) fun _ _ h => h.mono hB
theorem BlokIs.mono {B B' : Nat} {w : World} {cs : List Value} {b : Block} (h : BlokIs B w cs b) (hB : B ≤ B') : BlokIs B' w cs b := by
  obtain ⟨hc, sv, cc, rfl, h1, h2, h3⟩ := h
  exact ⟨hc, sv, cc, rfl, h1, TxsIs.mono h2 hB, h3.mono hB⟩
theorem BlokIs.len {B : Nat} {w : World} {cs : List Value} {b : Block} (h : BlokIs B w cs b) : cs.length = 200 := by
  obtain ⟨hc, sv, cc, rfl, h1, h2, h3⟩ := h
  exact blokC_len h1.len h3.len
theorem ValsIs.mono {B B' : Nat} {w : World} {sv : Value} {l : List Validator} (h : ListIs ValiIs B w sv 34 l) (hB : B ≤ B') : ListIs ValiIs B' w sv 34 l := listIs_mono h (fun _ _ h => h.mono hB) fun _ _ h => h
end Go.Proofs.YtbbmgkbinnomgaaGreatDoor
