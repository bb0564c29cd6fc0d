/- pack: writers. -/
import Derived.Test.YtlfelmikcdmkhaaGreatDoorK6
import Derived.Test.YtlfelmikcdmkhaaGreatDoorM3
import Derived.Test.YtlfelmikcdmkhaaGreatDoorF0
import Derived.Test.YtlfelmikcdmkhaaGreatDoorF1
import Derived.Test.YtlfelmikcdmkhaaGreatDoorF2
import Derived.Test.YtlfelmikcdmkhaaGreatDoorF3
set_option linter.unusedVariables false
set_option linter.unusedSimpArgs false
set_option linter.unusedSectionVars false
namespace Go.Proofs.YtlfelmikcdmkhaaGreatDoor
open Go Go.Isk Go.RowKit
theorem tBytes : slT Tryz.prog T.sl_uint8 T.uint8 1 1 = true := by kernel_rfl
/-- below B all is as it was -/
abbrev Low (B : Nat) (w w' : World) : Prop := Upd (fun k => B ≤ k) w w'
/-- a writer, made since there were B blocks, whose slice v holds the bytes l -/
structure Wr (B : Nat) (w : World) (g : Nat) (v : Value) (l : List UInt8) : Prop where
  ge : B ≤ g
  blk : Blk w g T.pack_Writer [v]
  own : w.ownsRow B T.uint8 1 v l.length (u8s l)
/-- the writer of the world w0 (with the slice v0) holds in w the bytes l; nothing else was turned since -/
structure Ws (B : Nat) (w0 : World) (v0 : Value) (g : Nat) (w : World) (l : List UInt8) : Prop where
  now : ∃ v, Wr B w g v l ∧ (v.ownBlock = v0.ownBlock ∨ ∃ k, v.ownBlock = some k ∧ w0.heap.size ≤ k)
  upd : Upd (fun k => k = g ∨ v0.ownBlock = some k) w0 w
  lt : g < w0.heap.size
  base : ∀ k, v0.ownBlock = some k → B ≤ k
theorem Wr.start {B g : Nat} {w : World} {v : Value} {l : List UInt8} (h : Wr B w g v l) : Ws B w v g w l := ⟨⟨v, h, .inl rfl⟩, Upd.refl, h.blk.lt, fun k hk => own_ge h.own hk⟩
theorem Ws.low {B g : Nat} {w0 w : World} {v0 : Value} {l : List UInt8} (h : Ws B w0 v0 g w l) : Low B w0 w := by
  obtain ⟨v, hW, _⟩ := h.now
  exact h.upd.mono fun k _ hs => hs.elim (fun e => e ▸ hW.ge) (h.base k)
theorem Ws.trans {B g : Nat} {w0 w w' : World} {v0 v : Value} {l l' : List UInt8} (h : Ws B w0 v0 g w l) (hv : v.ownBlock = v0.ownBlock ∨ ∃ k, v.ownBlock = some k ∧ w0.heap.size ≤ k) (h' : Ws B w v g w' l') : Ws B w0 v0 g w' l' := by
  obtain ⟨v', hW', hv'⟩ := h'.now
  refine ⟨⟨v', hW', ?_⟩, h.upd.trans h'.upd fun k hk hs => ?_, h.lt, h.base⟩
  · rcases hv' with e | ⟨k, e, hk⟩
    · rw [e]; exact hv
    · exact .inr ⟨k, e, Nat.le_trans h.upd.size hk⟩
  · rcases hs with e | e
    · exact .inl e
    · rcases hv with e' | ⟨k', e', hk'⟩
      · exact .inr (e' ▸ e)
      · rw [e'] at e; cases e; omega
theorem Wr.ext {B g : Nat} {w w1 : World} {v : Value} {l : List UInt8} (h : Wr B w g v l) (hu : Ext w w1) : Wr B w1 g v l := ⟨h.ge, h.blk.ext hu, own_keep h.own hu fun _ _ h => h⟩
theorem Ws.after {B g : Nat} {w w1 w2 : World} {v : Value} {l l' : List UInt8} (h : Wr B w g v l) (hu : Ext w w1) (h2 : Ws B w1 v g w2 l') : Ws B w v g w2 l' := by
  obtain ⟨v2, hW2, hv2⟩ := h2.now
  exact ⟨⟨v2, hW2, hv2.imp id fun ⟨k, e, hk⟩ => ⟨k, e, Nat.le_trans hu.size hk⟩⟩, hu.after h2.upd, h.blk.lt, fun k hk => own_ge h.own hk⟩
/-- what a writer's method does, seen from an elder world -/
theorem Ws.call {f : Nat} {args : Array Value} {B g : Nat} {w0 w : World} {v0 : Value} {l l' : List UInt8} (h : Ws B w0 v0 g w l)
    (hc : ∀ v, Wr B w g v l → C Tryz.prog f args w fun r w' => r = .pointer (some ⟨g, 0, none⟩) ∧ Ws B w v g w' l') : C Tryz.prog f args w fun r w' => r = .pointer (some ⟨g, 0, none⟩) ∧ Ws B w0 v0 g w' l' := by
  obtain ⟨v, hW, hv⟩ := h.now
  exact (hc v hW).mono fun r w' ⟨e, h'⟩ => ⟨e, h.trans hv h'⟩
theorem wr_put {B g : Nat} {l x : List UInt8} {w1 w2 w3 : World} {v v' : Value} (h : Wr B w1 g v l) (ho2 : w2.ownsRow B T.uint8 1 v' (l.length + x.length) (u8s l ++ u8s x)) (hu2 : Upd (fun k => v.ownBlock = some k) w1 w2)
    (hv : v'.ownBlock = v.ownBlock ∨ ∃ k, v'.ownBlock = some k ∧ w1.heap.size ≤ k) (hb3 : Blk w3 g T.pack_Writer [v']) (hu3 : Upd (fun k => k = g) w2 w3) : Ws B w1 v g w3 (l ++ x) := by
  have hb2 := h.blk.keep hu2 (own_ne h.own h.blk (by decide))
  refine ⟨⟨v', ⟨h.ge, hb3, ?_⟩, hv⟩, (hu2.mono fun k hk hs => .inr hs).trans hu3 fun k hk hs => .inl hs, h.blk.lt, fun k hk => own_ge h.own hk⟩
  have := own_keep ho2 hu3 fun k hk hs => own_ne ho2 hb2 (by decide) (hs ▸ hk)
  rw [List.length_append, u8s_append]; exact this
theorem pack_Writer_Uint' {B g : Nat} {l : List UInt8} {n : Nat} {w : World} {v0 : Value} (hn : n < 18446744073709551616) (hW : Wr B w g v0 l) (hl : l.length + 10 ≤ 2147483648) :
    C Tryz.prog N.pack_Writer_Uint #[.pointer (some ⟨g, 0, none⟩), .int .u64 n] w fun r w' => r = .pointer (some ⟨g, 0, none⟩) ∧ Ws B w v0 g w' (l ++ encU n) := by
  refine C.pack_Writer_Uint ?_
  unfold F.pack_Writer_Uint
  repeat (first
    | (refine st1 fun k' hk => ?_; simp [go_sem, thenR_ok, bin]; refine hk _ _ ?_; clear hk k')
    | (refine nk_p ?_) | (refine br_t ?_) | (refine br_f ?_) | (refine mv.mk ?_))
  have hlen := encU_len10 hn
  refine lp_by (fun vs w' => ∃ (m : Nat) (l' : List UInt8), vs = [.int .u64 m] ∧ m < 18446744073709551616 ∧ Ws B w v0 g w' l' ∧ l' ++ encU m = l ++ encU n) (fun vs _ => match vs with | [.int _ m] => m.toNat | _ => 0) ⟨n, l, rfl, hn, hW.start, rfl⟩ ?_
  rintro x w1 ⟨m, l', hx, hm, hS, he⟩
  simp only [List.cons.injEq, and_true] at hx
  rw [hx]
  obtain ⟨v, hW1, hvv⟩ := hS.now
  have hc := hW1.blk.cell 0
  simp only [List.getElem?_cons_zero] at hc
  have hll : l'.length + (encU m).length = l.length + (encU n).length := by rw [← List.length_append, he, List.length_append]
  have hpos := encU_pos m
  have hB := Nat.le_trans hW1.ge (Nat.le_of_lt hW1.blk.lt)
  repeat (first
    | (refine st1 fun k' hk => ?_; simp [go_sem, thenR_ok, bin]; refine hk _ _ ?_; clear hk k')
    | (refine nk_p ?_) | (refine mv.mk ?_))
  by_cases h : 128 ≤ m
  · rw [show decide ((128 : Int) ≤ (m : Int)) = true by simpa using (by omega : (128 : Int) ≤ (m : Int))]
    repeat (first
      | (refine st1 fun k' hk => ?_; simp [go_sem, thenR_ok, bin, hc]; refine hk _ _ ?_; clear hk k')
      | (refine nk_p ?_) | (refine br_t ?_) | (refine mv.mk ?_))
    rw [or128]
    refine st_app1 tBytes hW1.own rfl (by omega) (by omega) hB fun v' w2 ho2 hu2 hv' => ?_
    have hb2 := hW1.blk.keep hu2 (own_ne hW1.own hW1.blk (by decide))
    refine nk_p (mv.mk ?_)
    refine st1 fun k' hk => ?_; simp [go_sem, thenR_ok]; refine hk _ _ ?_; clear hk k'
    refine st_store1 (by kernel_rfl) (own_cells ho2) hb2 (by simp) fun w3 hb3 hu3 => ?_
    repeat (first
      | (refine st1 fun k' hk => ?_; simp [go_sem, thenR_ok, bin, hc]; refine hk _ _ ?_; clear hk k')
      | (refine mv.mk ?_))
    have hS3 := wr_put (x := [UInt8.ofNat (m % 128 + 128)]) hW1 ho2 hu2 hv' hb3 hu3
    refine ⟨⟨m / 128, _, by simp, by omega, hS.trans hvv hS3, ?_⟩, by simp; omega⟩
    rw [List.append_assoc, ← he, encU_big (n := m) (by omega)]; rfl
  · rw [show decide ((128 : Int) ≤ (m : Int)) = false by simpa using (by omega : (m : Int) < (128 : Int))]
    repeat (first
      | (refine st1 fun k' hk => ?_; simp [go_sem, thenR_ok, bin, hc]; refine hk _ _ ?_; clear hk k')
      | (refine nk_p ?_) | (refine br_f ?_) | (refine mv.mk ?_))
    rw [u8_nat]
    refine st_app1 tBytes hW1.own rfl (by omega) (by omega) hB fun v' w2 ho2 hu2 hv' => ?_
    have hb2 := hW1.blk.keep hu2 (own_ne hW1.own hW1.blk (by decide))
    refine nk_p (mv.mk ?_)
    refine st1 fun k' hk => ?_; simp [go_sem, thenR_ok]; refine hk _ _ ?_; clear hk k'
    refine st_store1 (by kernel_rfl) (own_cells ho2) hb2 (by simp) fun w3 hb3 hu3 => ?_
    have hS3 := hS.trans hvv (wr_put (x := [UInt8.ofNat m]) hW1 ho2 hu2 hv' hb3 hu3)
    refine mv.mk (mv.mk ⟨rfl, ?_⟩)
    rw [← he, encU_small (n := m) (by omega)]; exact hS3
theorem pack_Writer_Uint {B g : Nat} {l : List UInt8} {n : Nat} {w0 w : World} {v0 : Value} (hn : n < 18446744073709551616) (hS : Ws B w0 v0 g w l) (hl : l.length + 10 ≤ 2147483648) :
    C Tryz.prog N.pack_Writer_Uint #[.pointer (some ⟨g, 0, none⟩), .int .u64 n] w fun r w' => r = .pointer (some ⟨g, 0, none⟩) ∧ Ws B w0 v0 g w' (l ++ encU n) := hS.call fun _ hW => pack_Writer_Uint' hn hW hl
theorem zig_bits {n : Int} (h1 : -9223372036854775808 ≤ n) (h2 : n ≤ 9223372036854775807) :
    bits .xor .u64 (IntKind.u64.wrap (IntKind.u64.wrap n * 2)) (IntKind.u64.wrap (n / 9223372036854775808)) = (zig n : Int) := by
  simp only [u64_wrap]
  by_cases h : n < 0
  · have e1 : n / 9223372036854775808 = -1 := by omega
    rw [e1]
    have e2 : (-1 : Int) % 18446744073709551616 = ((18446744073709551615 : Nat) : Int) := by decide
    have e3 : (n % 18446744073709551616 * 2) % 18446744073709551616 = (((n % 18446744073709551616 * 2) % 18446744073709551616).toNat : Int) := by omega
    rw [e2, e3, u64_xor_nat _ _ (by omega) (by omega), xor_ones _ (by omega)]
    unfold zig
    rw [if_pos h]
    omega
  · have e1 : n / 9223372036854775808 = 0 := by omega
    rw [e1]
    have e2 : (0 : Int) % 18446744073709551616 = ((0 : Nat) : Int) := by decide
    have e3 : (n % 18446744073709551616 * 2) % 18446744073709551616 = (((n % 18446744073709551616 * 2) % 18446744073709551616).toNat : Int) := by omega
    rw [e2, e3, u64_xor_nat _ _ (by omega) (by omega), Nat.xor_zero]
    unfold zig
    rw [if_neg h]
    omega
theorem zig_lt {n : Int} (h1 : -9223372036854775808 ≤ n) (h2 : n ≤ 9223372036854775807) : zig n < 18446744073709551616 := by
  unfold zig; split <;> omega
theorem pack_Writer_Int {B g : Nat} {l : List UInt8} {n : Int} {w0 w : World} {v0 : Value} (h1 : -9223372036854775808 ≤ n) (h2 : n ≤ 9223372036854775807) (hS : Ws B w0 v0 g w l) (hl : l.length + 10 ≤ 2147483648) :
    C Tryz.prog N.pack_Writer_Int #[.pointer (some ⟨g, 0, none⟩), .int .i64 n] w fun r w' => r = .pointer (some ⟨g, 0, none⟩) ∧ Ws B w0 v0 g w' (l ++ encU (zig n)) := by
  refine C.pack_Writer_Int ?_
  unfold F.pack_Writer_Int
  repeat (first
    | (refine st1 fun k' hk => ?_; simp [go_sem, thenR_ok, bin]; refine hk _ _ ?_; clear hk k')
    | (refine mv.mk ?_))
  rw [zig_bits h1 h2]
  exact (pack_Writer_Uint (zig_lt h1 h2) hS hl).mono fun v w' h => mv.mk h
theorem pack_Writer_raw' {B g m : Nat} {l xs : List UInt8} {x : Value} {w : World} {v : Value} (hx : Sl w x m 1 (u8s xs)) (hW : Wr B w g v l) (hl : l.length + xs.length ≤ 2147483648) :
    C Tryz.prog N.pack_Writer_raw #[.pointer (some ⟨g, 0, none⟩), x] w fun r w' => r = .pointer (some ⟨g, 0, none⟩) ∧ Ws B w v g w' (l ++ xs) := by
  have hc := hW.blk.cell 0
  simp only [List.getElem?_cons_zero] at hc
  have hm : xs.length = m := by have := hx.len; rw [u8s_length] at this; omega
  subst hm
  refine C.pack_Writer_raw ?_
  unfold F.pack_Writer_raw
  repeat (first
    | (refine st1 fun k' hk => ?_; simp [go_sem, thenR_ok, bin, hc]; refine hk _ _ ?_; clear hk k')
    | (refine nk_p ?_) | (refine br_t ?_) | (refine jn_in ?_) | (refine mv.mk ?_))
  refine st_app tBytes hW.own hx (u8s_one _) (by omega) (by omega) (Nat.le_trans hW.ge (Nat.le_of_lt hW.blk.lt)) fun v' w2 ho2 hu2 hv' => ?_
  have hb2 := hW.blk.keep hu2 (own_ne hW.own hW.blk (by decide))
  refine nk_p (mv.mk ?_)
  refine st1 fun k' hk => ?_; simp [go_sem, thenR_ok]; refine hk _ _ ?_; clear hk k'
  refine st_store1 (by kernel_rfl) (own_cells ho2) hb2 (by simp) fun w3 hb3 hu3 => ?_
  exact fun _ _ => mv.mk (mv.mk ⟨rfl, wr_put (x := xs) hW ho2 hu2 hv' hb3 hu3⟩)
theorem pack_Writer_raw {B g m : Nat} {l xs : List UInt8} {x : Value} {w0 w : World} {v0 : Value} (hx : Sl w x m 1 (u8s xs)) (hS : Ws B w0 v0 g w l) (hl : l.length + xs.length ≤ 2147483648) :
    C Tryz.prog N.pack_Writer_raw #[.pointer (some ⟨g, 0, none⟩), x] w fun r w' => r = .pointer (some ⟨g, 0, none⟩) ∧ Ws B w0 v0 g w' (l ++ xs) := hS.call fun _ hW => pack_Writer_raw' hx hW hl
theorem pack_Writer_Bytes' {B g m : Nat} {l xs : List UInt8} {x : Value} {w : World} {v0 : Value} (hx : Sl w x m 1 (u8s xs)) (hxb : 0 < xs.length → ∀ k, x.ownBlock = some k → k ≠ g ∧ v0.ownBlock ≠ some k) (hW : Wr B w g v0 l) (hl : l.length + xs.length + 10 ≤ 2147483648) :
    C Tryz.prog N.pack_Writer_Bytes #[.pointer (some ⟨g, 0, none⟩), x] w fun r w' => r = .pointer (some ⟨g, 0, none⟩) ∧ Ws B w v0 g w' (l ++ (encU xs.length ++ xs)) := by
  have hm : xs.length = m := by have := hx.len; rw [u8s_length] at this; omega
  subst hm
  refine C.pack_Writer_Bytes ?_
  unfold F.pack_Writer_Bytes
  have hx' := hx
  obtain ⟨A, c, rfl, _⟩ := hx'
  repeat (first
    | (refine st1 fun k' hk => ?_; simp [go_sem, thenR_ok, bin]; refine hk _ _ ?_; clear hk k')
    | (refine mv.mk ?_))
  rw [u64_wrap, show ((xs.length : Nat) : Int) % 18446744073709551616 = ((xs.length : Nat) : Int) by omega]
  refine (pack_Writer_Uint' (by omega) hW (by omega)).mono fun v w1 ⟨e, hS1⟩ => mv.mk ?_
  subst e
  have hp := encU_len10 (n := xs.length) (by omega)
  refine (pack_Writer_raw (hx.keep' hS1.upd fun hn k hk hs => hs.elim (hxb (by omega) k hk).1 (hxb (by omega) k hk).2) hS1 (by simp; omega)).mono fun v w2 ⟨e, hS2⟩ => mv.mk ⟨e, ?_⟩
  rw [← List.append_assoc]; exact hS2
theorem pack_Writer_Bytes {B g m : Nat} {l xs : List UInt8} {x : Value} {w0 w : World} {v0 : Value} (hx : SlB B w x m 1 (u8s xs)) (hS : Ws B w0 v0 g w l) (hl : l.length + xs.length + 10 ≤ 2147483648) :
    C Tryz.prog N.pack_Writer_Bytes #[.pointer (some ⟨g, 0, none⟩), x] w fun r w' => r = .pointer (some ⟨g, 0, none⟩) ∧ Ws B w0 v0 g w' (l ++ (encU xs.length ++ xs)) :=
  hS.call fun v hW => pack_Writer_Bytes' hx.1 (fun hn k hk => by
    have hlen := hx.1.len
    rw [u8s_length] at hlen
    have hb := hx.2 (by omega) k hk
    exact ⟨fun e => by have := hW.ge; omega, fun e => by have := own_ge hW.own e; omega⟩) hW hl
theorem pack_New {w : World} : C Tryz.prog N.pack_New #[] w fun r w' => ∃ g, r = .pointer (some ⟨g, 0, none⟩) ∧ Wr w.heap.size w' g (.slice none 0 0) [] ∧ Ext w w' := by
  refine C.pack_New ?_
  unfold F.pack_New
  repeat (first
    | (refine st1 fun k' hk => ?_; simp [go_sem, thenR_ok, bin]; refine hk _ _ ?_; clear hk k')
    | (refine mv.mk ?_))
  exact ⟨_, rfl, ⟨Nat.le_refl _, Blk.new (cs := [.slice none 0 0]), own_nil⟩, upd_alloc _⟩
theorem pack_Writer_Text {B g : Nat} {l xs : List UInt8} {w0 w : World} {v0 : Value} (hS : Ws B w0 v0 g w l) (hl : l.length + xs.length + 10 ≤ 2147483648) :
    C Tryz.prog N.pack_Writer_Text #[.pointer (some ⟨g, 0, none⟩), str xs] w fun r w' => r = .pointer (some ⟨g, 0, none⟩) ∧ Ws B w0 v0 g w' (l ++ (encU xs.length ++ xs)) := by
  refine hS.call fun v hW => ?_
  refine C.pack_Writer_Text ?_
  unfold F.pack_Writer_Text
  refine mv.mk (mv.mk (mv.mk ?_))
  refine st_bytes (E := T.uint8) (by kernel_rfl) (by kernel_rfl) (by kernel_rfl) fun x w1 hx hu1 hk1 => ?_
  refine (pack_Writer_Bytes' hx (fun _ k hk => ⟨fun e => ?_, fun e => ?_⟩) (hW.ext hu1) hl).mono fun r w2 ⟨e, hS2⟩ => mv.mk ⟨e, .after hW hu1 hS2⟩
  · have := hk1 k hk; have := hW.blk.lt; omega
  · have := hk1 k hk; have := own_lt hW.own e; omega
theorem pack_Writer_Hash {B g : Nat} {l h : List UInt8} {w0 w : World} {v0 : Value} (hh : h.length = 32) (hS : Ws B w0 v0 g w l) (hl : l.length + 32 ≤ 2147483648) :
    C Tryz.prog N.pack_Writer_Hash #[.pointer (some ⟨g, 0, none⟩), .agg (u8s h).toArray] w fun r w' => r = .pointer (some ⟨g, 0, none⟩) ∧ Ws B w0 v0 g w' (l ++ h) := by
  refine hS.call fun v hW => ?_
  refine C.pack_Writer_Hash ?_
  unfold F.pack_Writer_Hash
  refine st_box rfl fun g2 w1 hb1 hu1 hg2 => ?_
  repeat (first
    | (refine st1 fun k' hk => ?_; simp [go_sem, thenR_ok, bin]; refine hk _ _ ?_; clear hk k')
    | (refine mv.mk ?_))
  have hx := Sl.of_blk (n := 32) (m := 32) (o := 0) (sz := 1) hb1 (by simp [u8s, hh]) (Nat.le_refl _)
  rw [List.drop_zero, u8s_take, List.take_of_length_le (by omega)] at hx
  exact (pack_Writer_raw' hx (hW.ext hu1) (by omega)).mono fun r w2 ⟨e, hS2⟩ => mv.mk ⟨e, .after hW hu1 hS2⟩
theorem pack_Writer_Done {B g : Nat} {l : List UInt8} {w : World} {v : Value} (hW : Wr B w g v l) (hl : l.length ≤ 2147483648) :
    C Tryz.prog N.pack_Writer_Done #[.pointer (some ⟨g, 0, none⟩)] w fun r w' => Sl w' r l.length 1 (u8s l) ∧ Ext w w' ∧ (∀ k, r.ownBlock = some k → w.heap.size ≤ k) := by
  have hc := hW.blk.cell 0
  simp only [List.getElem?_cons_zero] at hc
  refine C.pack_Writer_Done ?_
  unfold F.pack_Writer_Done
  repeat (first
    | (refine st1 fun k' hk => ?_; simp [go_sem, thenR_ok, bin, hc]; refine hk _ _ ?_; clear hk k')
    | (refine nk_p ?_) | (refine br_f ?_) | (refine mv.mk ?_))
  refine st_app (B := w.heap.size) tBytes own_nil (Sl.of_own hW.own) (u8s_one _) (by omega) (by omega) (Nat.le_refl _) fun v' w2 ho2 hu2 hv' => mv.mk ⟨?_, ?_, ?_⟩
  · simpa using Sl.of_own ho2
  · exact hu2.mono fun k _ hs => by simp [Value.ownBlock] at hs
  · exact fun k hk => own_ge ho2 hk
end Go.Proofs.YtlfelmikcdmkhaaGreatDoor
