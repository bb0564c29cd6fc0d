/- pack: readers. -/
import Derived.Test.YtbbmgkbinnomgaaGreatDoorKT
import Derived.Test.YtbbmgkbinnomgaaGreatDoorM4
import Derived.Test.YtbbmgkbinnomgaaGreatDoorTF
import Derived.Lib.Zigzag
set_option linter.unusedVariables false
set_option linter.unusedSimpArgs false
set_option linter.unusedSectionVars false
namespace Go.Proofs.YtbbmgkbinnomgaaGreatDoor
open Go Go.Isk Go.RowKit
/-- an element read -/
theorem byte_at {w : World} {v : Value} {l : Bytes} {n : Nat} {k : Value → World → Prop} (h : Sl w v l.length 1 (u8s l)) (hn : n < l.length) {q : IntKind} (hk : k (.int .u8 l[n].toNat) w) :
    o1 Tryz.prog (Instr.indexAt T.sl_uint8 v (.int q (n : Nat))) w fun a w => o1 Tryz.prog (Instr.loadAt T.uint8 a) w k := by
  obtain ⟨g, o, hr, hg, _⟩ := idx_at tBytes h n hn (q := q)
  refine st_of hr (st_of (load_one (by kernel_rfl) (v := .int .u8 l[n].toNat) ?_) hk)
  have := hg 0 (.int .u8 l[n].toNat) (by simp [u8s, hn])
  simpa using this
theorem bigs_succ {l : Bytes} {i : Nat} (hB : Bigs l i) (hi : i < l.length) (hc : 128 ≤ l[i].toNat) : Bigs l (i + 1) := by
  intro j h hj
  rcases Nat.lt_or_eq_of_le (Nat.le_of_lt_succ hj) with h1 | rfl
  · exact hB j h h1
  · exact hc
theorem or_val {l : Bytes} {i : Nat} (hi : i < l.length) (hi9 : i < 9 ∨ (i = 9 ∧ l[i].toNat ≤ 1)) :
    bits .or .u64 (val (l.take i) : Int) ((IntKind.u64.wrap (((l[i].toNat % 128 : Nat) : Int) * 2 ^ (7 * i)))) = (val (l.take (i + 1)) : Int) := by
  have hv := val_lt (l.take i)
  rw [List.length_take, Nat.min_eq_left (by omega)] at hv
  rw [val_take hi]
  have e : (128 : Nat) ^ i = 2 ^ (7 * i) := by rw [show (128 : Nat) = 2 ^ 7 by decide, ← Nat.pow_mul]
  rw [e] at hv ⊢
  have e2 : ((l[i].toNat % 128 : Nat) : Int) * 2 ^ (7 * i) = ((l[i].toNat % 128 * 2 ^ (7 * i) : Nat) : Int) := by push_cast; rfl
  have hc : l[i].toNat % 128 ≤ 127 := by omega
  have hlt : l[i].toNat % 128 * 2 ^ (7 * i) < 18446744073709551616 ∧ 2 ^ (7 * i) ≤ 9223372036854775808 := by
    rcases hi9 with h | ⟨rfl, h⟩
    · have h2 : 2 ^ (7 * i) ≤ 2 ^ 56 := Nat.pow_le_pow_right (by decide) (by omega)
      have h3 := Nat.mul_le_mul hc h2
      have e : (2 : Nat) ^ 56 = 72057594037927936 := by decide
      omega
    · have e : (2 : Nat) ^ (7 * 9) = 9223372036854775808 := by decide
      rw [e]; omega
  rw [e2, u64_wrap, show (((l[i].toNat % 128 * 2 ^ (7 * i) : Nat) : Int) % 18446744073709551616) = ((l[i].toNat % 128 * 2 ^ (7 * i) : Nat) : Int) by omega]
  rw [u64_or_nat _ _ (by omega) (by omega)]
  congr 1
  rw [Nat.or_comm, ← Nat.shiftLeft_eq, ← Nat.shiftLeft_add_eq_or_of_lt hv]
  omega
theorem or_val' {l : Bytes} {i : Nat} (hi : i < l.length) (hi9 : i < 9 ∨ (i = 9 ∧ l[i].toNat ≤ 1)) :
    bits .or .u64 (val (l.take i) : Int) ((IntKind.u64.wrap ((l[i].toNat : Int) % 128 * 2 ^ (7 * i)))) = (val (l.take (i + 1)) : Int) := by
  rw [← or_val hi hi9, show ((l[i].toNat % 128 : Nat) : Int) = (l[i].toNat : Int) % 128 by omega]
theorem pack_number {w : World} {v : Value} {l : Bytes} (h : Sl w v l.length 1 (u8s l)) (hl : l.length ≤ 2147483648) :
    C Tryz.prog N.pack_number #[v] w fun r w' => w' = w ∧ match decU l with
      | some (n, rest) => ∃ j : Nat, r = .tuple #[.int .u64 n, .int .i64 j, .int .i64 0] ∧ rest = l.drop j ∧ j ≤ l.length
      | none => ∃ e : Int, r = .tuple #[.int .u64 0, .int .i64 0, .int .i64 e] ∧ e ≠ 0 ∧ I64 e := by
  have h' := h
  obtain ⟨A, c, rfl, _⟩ := h'
  refine C.pack_number ?_
  unfold F.pack_number
  refine mv.mk (mv.mk (mv.mk (mv.mk (mv.mk ?_))))
  refine jn_by (fun _ w' => w' = w ∧ decU l = none) ?_ ?_
  · refine lp_by (fun vs w' => w' = w ∧ ∃ (i : Nat) (a b c d e : Value), vs = [a, b, c, .int .u64 (val (l.take i)), d, e, .int .i64 i] ∧ i ≤ 10 ∧ i ≤ l.length ∧ Bigs l i) (fun vs _ => match vs with | [_, _, _, _, _, _, .int _ m] => 10 - m.toNat | _ => 0) ⟨rfl, 0, _, _, _, _, _, rfl, by omega, by omega, fun j _ hj => by omega⟩ ?_
    rintro x w1 ⟨rfl, i, a, b, c', d, e, hx, hi, hil, hB⟩
    simp only [List.cons.injEq, and_true] at hx
    obtain ⟨x2, x3, x4, x5, x6, x7, x8⟩ := hx
    rw [x8]
    repeat (first
      | (refine st1 fun k' hk => ?_; simp [go_sem, thenR_ok, bin]; refine hk _ _ ?_; clear hk k')
      | (with_reducible refine mv.mk ?_) | (with_reducible refine nk_p ?_) | (with_reducible refine gd_u ?_) | (with_reducible refine gd_ft ?_) | (with_reducible refine gd_tf ?_) | (with_reducible refine gd_i ?_) | (with_reducible refine pk_t ?_) | (with_reducible refine pk_f ?_) | (with_reducible refine br_t ?_) | (with_reducible refine br_f ?_))
    refine br_split (fun hb => ?_) (fun hb => ?_)
    · have hi9 : i < 10 := by have := of_decide_eq_true hb; omega
      repeat (first
        | (refine st1 fun k' hk => ?_; simp [go_sem, thenR_ok, bin]; refine hk _ _ ?_; clear hk k')
        | (with_reducible refine mv.mk ?_) | (with_reducible refine nk_p ?_) | (with_reducible refine gd_u ?_) | (with_reducible refine gd_ft ?_) | (with_reducible refine gd_tf ?_) | (with_reducible refine gd_i ?_) | (with_reducible refine pk_t ?_) | (with_reducible refine pk_f ?_) | (with_reducible refine br_t ?_) | (with_reducible refine br_f ?_))
      refine br_split (fun hb2 => ?_) (fun hb2 => ?_)
      · repeat (first
          | (refine st1 fun k' hk => ?_; simp [go_sem, thenR_ok, bin]; refine hk _ _ ?_; clear hk k')
          | (with_reducible refine mv.mk ?_) | (with_reducible refine nk_p ?_) | (with_reducible refine gd_u ?_) | (with_reducible refine gd_ft ?_) | (with_reducible refine gd_tf ?_) | (with_reducible refine gd_i ?_) | (with_reducible refine pk_t ?_) | (with_reducible refine pk_f ?_) | (with_reducible refine br_t ?_) | (with_reducible refine br_f ?_))
        have he : i = l.length := by have := beq_t hb2; omega
        subst he
        rw [decU_short hB]
        exact ⟨rfl, _, rfl, by decide, by decide⟩
      · have hne : i < l.length := by have := beq_f hb2; omega
        refine mv.mk (mv.mk (byte_at h hne ?_))
        repeat (first
          | (refine st1 fun k' hk => ?_; simp [go_sem, thenR_ok, bin]; refine hk _ _ ?_; clear hk k')
          | (with_reducible refine mv.mk ?_) | (with_reducible refine nk_p ?_) | (with_reducible refine gd_u ?_) | (with_reducible refine gd_ft ?_) | (with_reducible refine gd_tf ?_) | (with_reducible refine gd_i ?_) | (with_reducible refine pk_t ?_) | (with_reducible refine pk_f ?_) | (with_reducible refine br_t ?_) | (with_reducible refine br_f ?_))
        rcases (by omega : i < 9 ∨ i = 9) with h9 | h9
        case' inl =>
          rw [show (((i : Nat) : Int) == 9) = false by simp; omega]
          have hc9 : i < 9 ∨ (i = 9 ∧ l[i].toNat ≤ 1) := .inl h9
        case' inr =>
          rw [show (((i : Nat) : Int) == 9) = true by simp; omega]
          repeat (first
            | (refine st1 fun k' hk => ?_; simp [go_sem, thenR_ok, bin]; refine hk _ _ ?_; clear hk k')
            | (with_reducible refine mv.mk ?_) | (with_reducible refine nk_p ?_) | (with_reducible refine gd_u ?_) | (with_reducible refine gd_ft ?_) | (with_reducible refine gd_tf ?_) | (with_reducible refine gd_i ?_) | (with_reducible refine pk_t ?_) | (with_reducible refine pk_f ?_) | (with_reducible refine br_t ?_) | (with_reducible refine br_f ?_))
          refine br_split (fun hb3 => ?_) (fun hb3 => ?_)
          case' refine_1 =>
            have h1 : 1 < l[i].toNat := by have := of_decide_eq_true hb3; omega
            refine ⟨rfl, ?_⟩
            by_cases hlt : l[i].toNat < 128
            · rw [decU_at hne hB hlt, if_pos (by omega)]
            · refine decU_long (by omega) ?_
              subst h9
              exact bigs_succ hB hne (by omega)
          case' refine_2 =>
            have hc9 : i < 9 ∨ (i = 9 ∧ l[i].toNat ≤ 1) := .inr ⟨h9, by have := of_decide_eq_false hb3; omega⟩
        all_goals
          repeat (first
            | (refine st1 fun k' hk => ?_; simp [go_sem, thenR_ok, bin]; refine hk _ _ ?_; clear hk k')
            | (with_reducible refine mv.mk ?_) | (with_reducible refine nk_p ?_) | (with_reducible refine gd_u ?_) | (with_reducible refine gd_ft ?_) | (with_reducible refine gd_tf ?_) | (with_reducible refine gd_i ?_) | (with_reducible refine pk_t ?_) | (with_reducible refine pk_f ?_) | (with_reducible refine br_t ?_) | (with_reducible refine br_f ?_))
          rw [x5, andNot128, show (IntKind.u64.wrap (IntKind.i64.wrap (7 * (i : Int)))).toNat = 7 * i by rw [i64_wrap (by omega) (by omega), u64_wrap]; omega,
            Nat.min_eq_left (by omega), show IntKind.u64.wrap ((l[i].toNat % 128 : Nat) : Int) = ((l[i].toNat % 128 : Nat) : Int) by rw [u64_wrap]; omega]
          refine st1 fun k' hk => ?_; simp only [go_sem, thenR_ok, bin]; simp [thenR_ok]; rw [or_val' hne hc9]; refine hk _ _ ?_; clear hk k'
          repeat (first
            | (refine st1 fun k' hk => ?_; simp [go_sem, thenR_ok, bin]; refine hk _ _ ?_; clear hk k')
            | (with_reducible refine mv.mk ?_) | (with_reducible refine nk_p ?_) | (with_reducible refine gd_u ?_) | (with_reducible refine gd_ft ?_) | (with_reducible refine gd_tf ?_) | (with_reducible refine gd_i ?_) | (with_reducible refine pk_t ?_) | (with_reducible refine pk_f ?_) | (with_reducible refine br_t ?_) | (with_reducible refine br_f ?_))
          refine br_split (fun hb4 => ?_) (fun hb4 => ?_)
          · have hlt : l[i].toNat < 128 := by have := of_decide_eq_true hb4; omega
            repeat (first
              | (refine st1 fun k' hk => ?_; simp [go_sem, thenR_ok, bin]; refine hk _ _ ?_; clear hk k')
              | (with_reducible refine mv.mk ?_) | (with_reducible refine nk_p ?_) | (with_reducible refine gd_u ?_) | (with_reducible refine gd_ft ?_) | (with_reducible refine gd_tf ?_) | (with_reducible refine gd_i ?_) | (with_reducible refine pk_t ?_) | (with_reducible refine pk_f ?_) | (with_reducible refine br_t ?_) | (with_reducible refine br_f ?_))
            by_cases h0 : l[i].toNat = 0
            · rw [show ((l[i].toNat : Int) == 0) = true by simp [h0]]
              repeat (first
                | (refine st1 fun k' hk => ?_; simp [go_sem, thenR_ok, bin]; refine hk _ _ ?_; clear hk k')
                | (with_reducible refine mv.mk ?_) | (with_reducible refine nk_p ?_) | (with_reducible refine gd_u ?_) | (with_reducible refine gd_ft ?_) | (with_reducible refine gd_tf ?_) | (with_reducible refine gd_i ?_) | (with_reducible refine pk_t ?_) | (with_reducible refine pk_f ?_) | (with_reducible refine br_t ?_) | (with_reducible refine br_f ?_))
              refine br_split (fun hb5 => ?_) (fun hb5 => ?_)
              · have hi0 : 0 < i := by have := of_decide_eq_true hb5; omega
                exact ⟨rfl, by rw [decU_at hne hB hlt, if_pos (.inr (.inr ⟨hi0, h0⟩))]⟩
              · have hi0 : i = 0 := by have := of_decide_eq_false hb5; omega
                repeat (first
                  | (refine st1 fun k' hk => ?_; simp [go_sem, thenR_ok, bin]; refine hk _ _ ?_; clear hk k')
                  | (with_reducible refine mv.mk ?_) | (with_reducible refine nk_p ?_) | (with_reducible refine gd_u ?_) | (with_reducible refine gd_ft ?_) | (with_reducible refine gd_tf ?_) | (with_reducible refine gd_i ?_) | (with_reducible refine pk_t ?_) | (with_reducible refine pk_f ?_) | (with_reducible refine br_t ?_) | (with_reducible refine br_f ?_))
                rw [decU_at hne hB hlt, if_neg (by omega)]
                refine ⟨rfl, i + 1, ?_, rfl, by omega⟩
                rw [i64_wrap (by omega) (by omega)]; rfl
            · rw [show ((l[i].toNat : Int) == 0) = false by simp [h0]]
              repeat (first
                | (refine st1 fun k' hk => ?_; simp [go_sem, thenR_ok, bin]; refine hk _ _ ?_; clear hk k')
                | (with_reducible refine mv.mk ?_) | (with_reducible refine nk_p ?_) | (with_reducible refine gd_u ?_) | (with_reducible refine gd_ft ?_) | (with_reducible refine gd_tf ?_) | (with_reducible refine gd_i ?_) | (with_reducible refine pk_t ?_) | (with_reducible refine pk_f ?_) | (with_reducible refine br_t ?_) | (with_reducible refine br_f ?_))
              rw [decU_at hne hB hlt, if_neg (by omega)]
              refine ⟨rfl, i + 1, ?_, rfl, by omega⟩
              rw [i64_wrap (by omega) (by omega)]; rfl
          · have hge : 128 ≤ l[i].toNat := by have := of_decide_eq_false hb4; omega
            repeat (first
              | (refine st1 fun k' hk => ?_; simp [go_sem, thenR_ok, bin]; refine hk _ _ ?_; clear hk k')
              | (with_reducible refine mv.mk ?_) | (with_reducible refine nk_p ?_) | (with_reducible refine gd_u ?_) | (with_reducible refine gd_ft ?_) | (with_reducible refine gd_tf ?_) | (with_reducible refine gd_i ?_) | (with_reducible refine pk_t ?_) | (with_reducible refine pk_f ?_) | (with_reducible refine br_t ?_) | (with_reducible refine br_f ?_))
            rw [i64_succ (by omega)]
            exact ⟨⟨rfl, i + 1, _, _, _, _, _, rfl, by omega, by omega, bigs_succ hB hne hge⟩, by simp; omega⟩
    · have hi9 : i = 10 := by have := of_decide_eq_false hb; omega
      subst hi9
      exact ⟨rfl, decU_long hil hB⟩
  · rintro x w1 ⟨rfl, hd⟩
    repeat (first
      | (refine st1 fun k' hk => ?_; simp [go_sem, thenR_ok, bin]; refine hk _ _ ?_; clear hk k')
      | (with_reducible refine mv.mk ?_) | (with_reducible refine nk_p ?_) | (with_reducible refine gd_u ?_) | (with_reducible refine gd_ft ?_) | (with_reducible refine gd_tf ?_) | (with_reducible refine gd_i ?_) | (with_reducible refine pk_t ?_) | (with_reducible refine pk_f ?_) | (with_reducible refine br_t ?_) | (with_reducible refine br_f ?_))
    rw [hd]
    exact ⟨rfl, _, rfl, by decide, by decide⟩
/-- the reader at block g, whose bytes lie below block B -/
def Rd (B : Nat → Prop) (w : World) (g : Nat) (s : Rdr) : Prop := ∃ sv ev l, Blk w g T.pack_Reader (prdC sv ev) ∧ SlS B w sv l.length 1 (u8s l) ∧ l.length ≤ 2147483648 ∧ ¬ B g ∧
  (match s with
    | some b => b = l ∧ ev = .nilIface
    | none => ∃ t x, ev = .iface t x)
theorem Rd.keep {B : Nat → Prop} {g : Nat} {w w' : World} {s : Rdr} {S : Nat → Prop} (h : Rd B w g s) (hu : Upd S w w') (hg : ¬ S g) (hs : ∀ k, B k → ¬ S k) : Rd B w' g s := by
  obtain ⟨sv, ev, l, h1, h2, h3, h4, h5⟩ := h
  exact ⟨sv, ev, l, h1.keep hu hg, h2.keep hu hs, h3, h4, h5⟩
theorem Rd.mono {B B' : Nat → Prop} {g : Nat} {w : World} {s : Rdr} (h : Rd B w g s) (hs : ∀ k, B k → k < w.heap.size → B' k) (hg : ¬ B' g) : Rd B' w g s := by
  obtain ⟨sv, ev, l, h1, h2, h3, h4, h5⟩ := h
  exact ⟨sv, ev, l, h1, h2.mono hs, h3, hg, h5⟩
theorem Rd.out {B : Nat → Prop} {g : Nat} {w : World} {s : Rdr} (h : Rd B w g s) : ¬ B g := by
  obtain ⟨sv, ev, l, h1, h2, h3, h4, h5⟩ := h
  exact h4
theorem Rd.ext {B : Nat → Prop} {g : Nat} {w w' : World} {s : Rdr} (h : Rd B w g s) (hu : Ext w w') : Rd B w' g s := h.keep hu (fun hf => hf) fun _ _ hf => hf
theorem Rd.lt {B : Nat → Prop} {g : Nat} {w : World} {s : Rdr} (h : Rd B w g s) : g < w.heap.size := by
  obtain ⟨sv, ev, l, h1, h2⟩ := h
  exact h1.lt
theorem pack_Read {B : Nat → Prop} {w : World} {v : Value} {l : Bytes} (h : SlS B w v l.length 1 (u8s l)) (hl : l.length ≤ 2147483648) (hB : ∀ k, B k → k < w.heap.size) :
    C Tryz.prog N.pack_Read #[v] w fun r w' => ∃ g, r = .pointer (some ⟨g, 0, none⟩) ∧ Rd B w' g (some l) ∧ Ext w w' ∧ w.heap.size ≤ g := by
  obtain ⟨A, c, rfl, _⟩ := h.1
  refine C.pack_Read ?_
  unfold F.pack_Read
  refine mv.mk (mv.mk ?_)
  refine st_build (cells := (prdC (.slice A l.length c) .nilIface).toArray) (by kernel_rfl) ?_
  refine st_box rfl fun g w1 hb1 hu1 hg => mv.mk ?_
  exact ⟨g, rfl, ⟨_, _, l, hb1, h.ext hu1, hl, fun q => by have := hB _ q; omega, rfl, rfl⟩, hu1, hg⟩
theorem pack_Reader_live {B : Nat → Prop} {g : Nat} {w : World} {s : Rdr} (h : Rd B w g s) : C Tryz.prog N.pack_Reader_live #[.pointer (some ⟨g, 0, none⟩)] w fun r w' => w' = w ∧ r = .bool s.isSome := by
  obtain ⟨sv, ev, l, h1, h2, h3, h4, h5⟩ := h
  refine C.pack_Reader_live ?_
  unfold F.pack_Reader_live
  have hc := h1.cell 1
  simp only [prdC, List.getElem?_cons_succ, List.getElem?_cons_zero] at hc
  cases s with
  | some b =>
    obtain ⟨rfl, rfl⟩ := h5
    repeat (first
      | (refine st1 fun k' hk => ?_; simp [go_sem, thenR_ok, bin, hc]; refine hk _ _ ?_; clear hk k')
      | (with_reducible refine mv.mk ?_) | (with_reducible refine nk_p ?_) | (with_reducible refine gd_u ?_) | (with_reducible refine gd_ft ?_) | (with_reducible refine gd_tf ?_) | (with_reducible refine gd_i ?_) | (with_reducible refine pk_t ?_) | (with_reducible refine pk_f ?_) | (with_reducible refine br_t ?_) | (with_reducible refine br_f ?_))
    exact ⟨rfl, rfl⟩
  | none =>
    obtain ⟨t, x, rfl⟩ := h5
    repeat (first
      | (refine st1 fun k' hk => ?_; simp [go_sem, thenR_ok, bin, hc]; refine hk _ _ ?_; clear hk k')
      | (with_reducible refine mv.mk ?_) | (with_reducible refine nk_p ?_) | (with_reducible refine gd_u ?_) | (with_reducible refine gd_ft ?_) | (with_reducible refine gd_tf ?_) | (with_reducible refine gd_i ?_) | (with_reducible refine pk_t ?_) | (with_reducible refine pk_f ?_) | (with_reducible refine br_t ?_) | (with_reducible refine br_f ?_))
    exact ⟨rfl, rfl⟩
theorem pack_Reader_fail {B : Nat → Prop} {g : Nat} {w : World} {s : Rdr} (h : Rd B w g s) (b : ByteArray) (e : Int) : C Tryz.prog N.pack_Reader_fail #[.pointer (some ⟨g, 0, none⟩), .string b, .int .i64 e] w fun r w' => Rd B w' g none ∧ Upd (fun k => k = g) w w' := by
  have h0 := h
  obtain ⟨sv, ev, l, h1, h2, h3, h4, h5⟩ := h
  refine C.pack_Reader_fail ?_
  unfold F.pack_Reader_fail
  have hc := h1.cell 1
  simp only [prdC, List.getElem?_cons_succ, List.getElem?_cons_zero] at hc
  cases s with
  | some b =>
    obtain ⟨rfl, rfl⟩ := h5
    repeat (first
      | (refine st1 fun k' hk => ?_; simp [go_sem, thenR_ok, bin, hc]; refine hk _ _ ?_; clear hk k')
      | (with_reducible refine mv.mk ?_) | (with_reducible refine nk_p ?_) | (with_reducible refine gd_u ?_) | (with_reducible refine gd_ft ?_) | (with_reducible refine gd_tf ?_) | (with_reducible refine gd_i ?_) | (with_reducible refine pk_t ?_) | (with_reducible refine pk_f ?_) | (with_reducible refine br_t ?_) | (with_reducible refine br_f ?_))
    refine jn_in ?_
    repeat (first
      | (refine st1 fun k' hk => ?_; simp [go_sem, thenR_ok, bin, hc]; refine hk _ _ ?_; clear hk k')
      | (with_reducible refine mv.mk ?_) | (with_reducible refine nk_p ?_) | (with_reducible refine gd_u ?_) | (with_reducible refine gd_ft ?_) | (with_reducible refine gd_tf ?_) | (with_reducible refine gd_i ?_) | (with_reducible refine pk_t ?_) | (with_reducible refine pk_f ?_) | (with_reducible refine br_t ?_) | (with_reducible refine br_f ?_))
    refine st_store1 (by kernel_rfl) ⟨rfl, rfl⟩ (h1.ext (upd_alloc _)) (by simp [prdC]) fun w2 hb2 hu2 => ?_
    have hu : Upd (fun k => k = g) w w2 := (upd_alloc _).trans hu2 fun _ _ h => h
    exact fun _ _ => ⟨⟨_, _, _, hb2, h2.keep hu fun k hk e => h4 (e ▸ hk), h3, h4, _, _, rfl⟩, hu⟩
  | none =>
    obtain ⟨t, x, rfl⟩ := h5
    repeat (first
      | (refine st1 fun k' hk => ?_; simp [go_sem, thenR_ok, bin, hc]; refine hk _ _ ?_; clear hk k')
      | (with_reducible refine mv.mk ?_) | (with_reducible refine nk_p ?_) | (with_reducible refine gd_u ?_) | (with_reducible refine gd_ft ?_) | (with_reducible refine gd_tf ?_) | (with_reducible refine gd_i ?_) | (with_reducible refine pk_t ?_) | (with_reducible refine pk_f ?_) | (with_reducible refine br_t ?_) | (with_reducible refine br_f ?_))
    refine jn_in ?_
    repeat (first
      | (refine st1 fun k' hk => ?_; simp [go_sem, thenR_ok, bin]; refine hk _ _ ?_; clear hk k')
      | (with_reducible refine mv.mk ?_) | (with_reducible refine nk_p ?_) | (with_reducible refine gd_u ?_) | (with_reducible refine gd_ft ?_) | (with_reducible refine gd_tf ?_) | (with_reducible refine gd_i ?_) | (with_reducible refine pk_t ?_) | (with_reducible refine pk_f ?_) | (with_reducible refine br_t ?_) | (with_reducible refine br_f ?_))
    exact fun _ _ => ⟨h0, Upd.refl⟩
theorem Rd.dead {B : Nat → Prop} {g : Nat} {w w' : World} {s : Rdr} (h : Rd B w' g s) (hs : s = none) : Rd B w' g none := hs ▸ h
theorem pack_Reader_Uint {B : Nat → Prop} {g most : Nat} {w : World} {s : Rdr} (h : Rd B w g s) (hm : most < 18446744073709551616) : C Tryz.prog N.pack_Reader_Uint #[.pointer (some ⟨g, 0, none⟩), .int .u64 most] w fun r w' => r = .int .u64 (rU most s).2 ∧ Rd B w' g (rU most s).1 ∧ Upd (fun k => k = g) w w' := by
  refine C.pack_Reader_Uint ?_
  unfold F.pack_Reader_Uint
  repeat (first
    | (refine st1 fun k' hk => ?_; simp [go_sem, thenR_ok, bin]; refine hk _ _ ?_; clear hk k')
    | (with_reducible refine mv.mk ?_) | (with_reducible refine nk_p ?_) | (with_reducible refine gd_u ?_) | (with_reducible refine gd_ft ?_) | (with_reducible refine gd_tf ?_) | (with_reducible refine gd_i ?_) | (with_reducible refine pk_t ?_) | (with_reducible refine pk_f ?_) | (with_reducible refine br_t ?_) | (with_reducible refine br_f ?_))
  refine (pack_Reader_live h).mono fun r w1 ⟨e1, e2⟩ => ?_
  subst e1; subst e2
  cases s with
  | none =>
    simp only [Option.isSome_none]
    repeat (first
      | (refine st1 fun k' hk => ?_; simp [go_sem, thenR_ok, bin]; refine hk _ _ ?_; clear hk k')
      | (with_reducible refine mv.mk ?_) | (with_reducible refine nk_p ?_) | (with_reducible refine gd_u ?_) | (with_reducible refine gd_ft ?_) | (with_reducible refine gd_tf ?_) | (with_reducible refine gd_i ?_) | (with_reducible refine pk_t ?_) | (with_reducible refine pk_f ?_) | (with_reducible refine br_t ?_) | (with_reducible refine br_f ?_))
    exact ⟨rfl, h, Upd.refl⟩
  | some b =>
    simp only [Option.isSome_some]
    have h0 := h
    obtain ⟨sv, ev, l, h1, h2, h3, h4, rfl, rfl⟩ := h
    have hc := h1.cell 0
    simp only [prdC, List.getElem?_cons_succ, List.getElem?_cons_zero] at hc
    repeat (first
      | (refine st1 fun k' hk => ?_; simp [go_sem, thenR_ok, bin, hc]; refine hk _ _ ?_; clear hk k')
      | (with_reducible refine mv.mk ?_) | (with_reducible refine nk_p ?_) | (with_reducible refine gd_u ?_) | (with_reducible refine gd_ft ?_) | (with_reducible refine gd_tf ?_) | (with_reducible refine gd_i ?_) | (with_reducible refine pk_t ?_) | (with_reducible refine pk_f ?_) | (with_reducible refine br_t ?_) | (with_reducible refine br_f ?_))
    refine (pack_number h2.1 h3).mono fun r w2 ⟨e1, hr⟩ => ?_
    subst e1
    cases hd : decU b with
    | none =>
      rw [hd] at hr
      obtain ⟨e, rfl, he, hi⟩ := hr
      repeat (first
        | (refine st1 fun k' hk => ?_; simp [go_sem, thenR_ok, bin]; refine hk _ _ ?_; clear hk k')
        | (with_reducible refine mv.mk ?_) | (with_reducible refine nk_p ?_) | (with_reducible refine gd_u ?_) | (with_reducible refine gd_ft ?_) | (with_reducible refine gd_tf ?_) | (with_reducible refine gd_i ?_) | (with_reducible refine pk_t ?_) | (with_reducible refine pk_f ?_) | (with_reducible refine br_t ?_) | (with_reducible refine br_f ?_))
      rw [show (e != 0) = true by simp [he]]
      repeat (first
        | (refine st1 fun k' hk => ?_; simp [go_sem, thenR_ok, bin]; refine hk _ _ ?_; clear hk k')
        | (with_reducible refine mv.mk ?_) | (with_reducible refine nk_p ?_) | (with_reducible refine gd_u ?_) | (with_reducible refine gd_ft ?_) | (with_reducible refine gd_tf ?_) | (with_reducible refine gd_i ?_) | (with_reducible refine pk_t ?_) | (with_reducible refine pk_f ?_) | (with_reducible refine br_t ?_) | (with_reducible refine br_f ?_))
      refine (pack_Reader_fail h0 _ e).mono fun r w3 ⟨h3, hu⟩ => mv.mk ?_
      simp only [rU, hd]
      exact ⟨rfl, h3, hu⟩
    | some nr =>
      obtain ⟨n, rest⟩ := nr
      rw [hd] at hr
      obtain ⟨j, rfl, rfl, hj⟩ := hr
      repeat (first
        | (refine st1 fun k' hk => ?_; simp [go_sem, thenR_ok, bin]; refine hk _ _ ?_; clear hk k')
        | (with_reducible refine mv.mk ?_) | (with_reducible refine nk_p ?_) | (with_reducible refine gd_u ?_) | (with_reducible refine gd_ft ?_) | (with_reducible refine gd_tf ?_) | (with_reducible refine gd_i ?_) | (with_reducible refine pk_t ?_) | (with_reducible refine pk_f ?_) | (with_reducible refine br_t ?_) | (with_reducible refine br_f ?_))
      refine br_split (fun hb => ?_) (fun hb => ?_)
      · have hlt : most < n := by have := of_decide_eq_true hb; omega
        repeat (first
          | (refine st1 fun k' hk => ?_; simp [go_sem, thenR_ok, bin]; refine hk _ _ ?_; clear hk k')
          | (with_reducible refine mv.mk ?_) | (with_reducible refine nk_p ?_) | (with_reducible refine gd_u ?_) | (with_reducible refine gd_ft ?_) | (with_reducible refine gd_tf ?_) | (with_reducible refine gd_i ?_) | (with_reducible refine pk_t ?_) | (with_reducible refine pk_f ?_) | (with_reducible refine br_t ?_) | (with_reducible refine br_f ?_))
        refine (pack_Reader_fail h0 _ 4).mono fun r w3 ⟨h3, hu⟩ => mv.mk ?_
        simp only [rU, hd, if_pos hlt]
        exact ⟨rfl, h3, hu⟩
      · have hlt : ¬ most < n := by have := of_decide_eq_false hb; omega
        simp only [rU, hd, if_neg hlt]
        refine mv.mk (mv.mk (nk_p (mv.mk ?_)))
        refine prd.g0 h1 ?_
        obtain ⟨v', hrun, hs', hbl⟩ := sl_from tBytes h2.1 j hj .i64
        refine mv.mk (st_of (hrun _) ?_)
        rw [Nat.mul_one, u8s_drop] at hs'
        refine nk_p (mv.mk (st_field (off := 0) (by kernel_rfl) (by kernel_rfl) (sl_cells hs') h1 (by simp [prdC]) fun w3 hb3 hu3 => ?_))
        refine mv.mk (mv.mk ⟨rfl, ⟨v', _, b.drop j, hb3, ?_, by simp; omega, h4, rfl, rfl⟩, hu3⟩)
        refine SlS.keep ⟨?_, ?_⟩ hu3 fun k hk e => h4 (e ▸ hk)
        · rw [List.length_drop]; exact hs'
        · intro hn k hk
          refine h2.2 ?_ k (hbl ▸ hk)
          rw [List.length_drop] at hn; omega
theorem pack_Reader_take {B : Nat → Prop} {g n : Nat} {w : World} {s : Rdr} (h : Rd B w g s) (b : ByteArray) (hn : n ≤ 2147483648) : C Tryz.prog N.pack_Reader_take #[.pointer (some ⟨g, 0, none⟩), .string b, .int .i64 n] w fun r w' => Sl w' r (rT n s).2.length 1 (u8s (rT n s).2) ∧ (∀ k, r.ownBlock = some k → w.heap.size ≤ k) ∧ Rd B w' g (rT n s).1 ∧ Upd (fun k => k = g) w w' := by
  refine C.pack_Reader_take ?_
  unfold F.pack_Reader_take
  repeat (first
    | (refine st1 fun k' hk => ?_; simp [go_sem, thenR_ok, bin]; refine hk _ _ ?_; clear hk k')
    | (with_reducible refine mv.mk ?_) | (with_reducible refine nk_p ?_) | (with_reducible refine gd_u ?_) | (with_reducible refine gd_ft ?_) | (with_reducible refine gd_tf ?_) | (with_reducible refine gd_i ?_) | (with_reducible refine pk_t ?_) | (with_reducible refine pk_f ?_) | (with_reducible refine br_t ?_) | (with_reducible refine br_f ?_))
  refine (pack_Reader_live h).mono fun r w1 ⟨e1, e2⟩ => ?_
  subst e1; subst e2
  cases s with
  | none =>
    simp only [Option.isSome_none]
    repeat (first
      | (refine st1 fun k' hk => ?_; simp [go_sem, thenR_ok, bin]; refine hk _ _ ?_; clear hk k')
      | (with_reducible refine mv.mk ?_) | (with_reducible refine nk_p ?_) | (with_reducible refine gd_u ?_) | (with_reducible refine gd_ft ?_) | (with_reducible refine gd_tf ?_) | (with_reducible refine gd_i ?_) | (with_reducible refine pk_t ?_) | (with_reducible refine pk_f ?_) | (with_reducible refine br_t ?_) | (with_reducible refine br_f ?_))
    exact ⟨Sl.nil 1, fun k hk => by simp [Value.ownBlock] at hk, h, Upd.refl⟩
  | some b =>
    simp only [Option.isSome_some]
    have h0 := h
    obtain ⟨sv, ev, l, h1, h2, h3, h4, rfl, rfl⟩ := h
    have h2' := h2.1
    obtain ⟨A, c, rfl, _⟩ := h2'
    have hc := h1.cell 0
    simp only [prdC, List.getElem?_cons_succ, List.getElem?_cons_zero] at hc
    repeat (first
      | (refine st1 fun k' hk => ?_; simp [go_sem, thenR_ok, bin, hc]; refine hk _ _ ?_; clear hk k')
      | (with_reducible refine mv.mk ?_) | (with_reducible refine nk_p ?_) | (with_reducible refine gd_u ?_) | (with_reducible refine gd_ft ?_) | (with_reducible refine gd_tf ?_) | (with_reducible refine gd_i ?_) | (with_reducible refine pk_t ?_) | (with_reducible refine pk_f ?_) | (with_reducible refine br_t ?_) | (with_reducible refine br_f ?_))
    refine br_split (fun hb => ?_) (fun hb => ?_)
    · have hlt : b.length < n := by have := of_decide_eq_true hb; omega
      repeat (first
        | (refine st1 fun k' hk => ?_; simp [go_sem, thenR_ok, bin]; refine hk _ _ ?_; clear hk k')
        | (with_reducible refine mv.mk ?_) | (with_reducible refine nk_p ?_) | (with_reducible refine gd_u ?_) | (with_reducible refine gd_ft ?_) | (with_reducible refine gd_tf ?_) | (with_reducible refine gd_i ?_) | (with_reducible refine pk_t ?_) | (with_reducible refine pk_f ?_) | (with_reducible refine br_t ?_) | (with_reducible refine br_f ?_))
      refine (pack_Reader_fail h0 _ 12).mono fun r w3 ⟨h3, hu⟩ => mv.mk ?_
      simp only [rT, if_pos hlt]
      exact ⟨Sl.nil 1, fun k hk => by simp [Value.ownBlock] at hk, h3, hu⟩
    · have hlt : ¬ b.length < n := by have := of_decide_eq_false hb; omega
      simp only [rT, if_neg hlt]
      refine mv.mk (nk_p (mv.mk ?_))
      refine prd.g0 h1 (mv.mk ?_)
      obtain ⟨v', hrun, hs', hbl⟩ := sl_to tBytes h2.1 n (by omega) .i64
      refine st_of (hrun _) ?_
      rw [Nat.mul_one, u8s_take] at hs'
      refine st_app (B := w1.heap.size) tBytes own_nil hs' (u8s_one _) (by omega) (by omega) (Nat.le_refl _) fun v2 w2 ho2 hu2 _ => ?_
      have hu2' : Ext w1 w2 := hu2.mono fun k _ hs => by simp [Value.ownBlock] at hs
      refine mv.mk (mv.mk (mv.mk (nk_p (mv.mk ?_))))
      refine prd.g0 (h1.ext hu2') (mv.mk ?_)
      obtain ⟨v3, hrun3, hs3, hbl3⟩ := sl_from tBytes (h2.1.ext hu2') n (by omega) .i64
      refine st_of (hrun3 _) ?_
      rw [Nat.mul_one, u8s_drop] at hs3
      refine nk_p (mv.mk (st_field (off := 0) (by kernel_rfl) (by kernel_rfl) (sl_cells hs3) (h1.ext hu2') (by simp [prdC]) fun w3 hb3 hu3 => ?_))
      refine mv.mk (mv.mk ?_)
      have hu13 : Upd (fun k => k = g) w1 w3 := hu2'.after hu3
      have hg1 := h1.lt
      refine ⟨?_, fun k hk => own_ge ho2 hk, ⟨v3, _, b.drop n, hb3, SlS.keep ⟨?_, ?_⟩ hu3 fun k hk e => h4 (e ▸ hk), by simp; omega, h4, rfl, rfl⟩, hu13⟩
      · have := (Sl.of_own ho2).keep hu3 fun k hk e => by have := own_ge ho2 hk; omega
        rw [Nat.zero_add, List.nil_append] at this
        rw [show (b.take n).length = n by simp; omega]; exact this
      · rw [List.length_drop]; exact hs3
      · intro hn k hk
        refine h2.2 ?_ k (hbl3 ▸ hk)
        rw [List.length_drop] at hn; omega
theorem pack_Reader_Hash' {B : Nat → Prop} {g : Nat} {w : World} {s : Rdr} (h : Rd B w g s) (hBl : ∀ k, B k → k < w.heap.size) : C Tryz.prog N.pack_Reader_Hash #[.pointer (some ⟨g, 0, none⟩)] w fun r w' => r = .agg (u8s (rH s).2).toArray ∧ Rd B w' g (rH s).1 ∧ Upd (fun k => k = g) w w' := by
  refine C.pack_Reader_Hash ?_
  unfold F.pack_Reader_Hash
  have hg := h.lt
  refine st_new (n := 32) (by kernel_rfl) fun g2 w1 zs hz2 hb2 hu1 hg2 => ?_
  refine st_alloc (cs := u8s zero32) (zeroT_of (by kernel_rfl)) fun g3 w2 hb3 hu2 hg3 => ?_
  have hu12 : Ext w w2.drew := (hu1.ext hu2).drew
  have hd2 : Blk w2.drew g3 _ _ := hb3.ext upd_drew
  refine dr_by (fun w' => ∃ ds, ds.length = 32 ∧ Blk w' g3 T.api_Hash ds) ⟨_, rfl, hd2⟩ ?_
  refine tk_of (.slice (some ⟨g3, 0, none⟩) 32 32) (fun w _ => by simp [go_sem]) (mv.mk ?_)
  refine (pack_Reader_take (h.ext hu12) _ (n := 32) (by decide)).mono fun r w3 ⟨hr, hrk, hR, hu3⟩ => ?_
  have hk3 := hd2.keep hu3 (by have := hu1.size; omega)
  refine ⟨⟨_, rfl, hk3⟩, ?_⟩
  refine st_copy tBytes hk3 hr (u8s_one _) (by simp [zero32, u8s]) fun w4 hb4 hu4 => ?_
  have hcell : (u8s zero32).take 0 ++ (u8s (rT 32 s).2).take 32 ++ (u8s zero32).drop (0 + min (rT 32 s).2.length 32) = u8s (rH s).2 := by
    unfold rH rT
    cases s with
    | none => simp [zero32, u8s]
    | some b =>
      simp only []
      by_cases hb : b.length < 32
      · simp [hb, u8s]
      · have hl : (b.take 32).length = 32 := by simp; omega
        have hz : (u8s zero32).length = 32 := by simp [u8s, zero32]
        simp only [if_neg hb, List.take_zero, List.nil_append, hl, Nat.min_self, Nat.zero_add]
        rw [u8s_take, List.take_of_length_le (by omega), List.drop_of_length_le (by omega), List.append_nil]
  rw [hcell] at hb4
  have hlen := u8s_len (rH_len (s := s))
  refine load_blk (by kernel_rfl) hb4 hlen ?_
  have hu14 : Upd (fun k => k = g) w1 w4 := by
    have h1 : Upd (fun k => k = g) w1 w3 := (hu2.drew).after hu3
    refine h1.trans hu4 fun k hk e => ?_
    subst e; omega
  have hb2' := hb2.keep hu14 (by omega)
  refine st_all (by kernel_rfl) hb2' hz2 hlen (u8s_one _) fun w5 hb5 hu5 => ?_
  refine rc_blk (by kernel_rfl) hb5 hlen ?_
  have hR4 : Rd B w4 g _ := hR.keep hu4 (by intro e; have := hu1.size; omega) fun k hk => by
    have := hBl k hk; have := hu1.size; omega
  have hR5 : Rd B w5 g _ := hR4.keep hu5 (by omega) fun k hk => by
    have := hBl k hk; omega
  refine ⟨rfl, ?_, ?_⟩
  · have : (rH s).1 = (rT 32 s).1 := by unfold rH; split <;> simp_all
    rw [this]; exact hR5
  · have h04 : Upd (fun k => k = g) w w4 := hu1.after hu14
    exact h04.trans hu5 fun k hk e => by subst e; omega
theorem pack_Reader_Hash {B : Nat → Prop} {g : Nat} {w : World} {s : Rdr} (h : Rd B w g s) : C Tryz.prog N.pack_Reader_Hash #[.pointer (some ⟨g, 0, none⟩)] w fun r w' => r = .agg (u8s (rH s).2).toArray ∧ Rd B w' g (rH s).1 ∧ Upd (fun k => k = g) w w' :=
  (pack_Reader_Hash' (h.mono (B' := fun k => B k ∧ k < w.heap.size) (fun k hk hl => ⟨hk, hl⟩) fun q => h.out q.1) fun k hk => hk.2).mono fun r w' ⟨h1, h2, h3⟩ => ⟨h1, h2.mono (fun k hk _ => hk.1) h.out, h3⟩
theorem pack_Reader_Bytes {B : Nat → Prop} {g most : Nat} {w : World} {s : Rdr} (h : Rd B w g s) (hm : most ≤ 2147483648) : C Tryz.prog N.pack_Reader_Bytes #[.pointer (some ⟨g, 0, none⟩), .int .i64 most] w fun r w' => Sl w' r (rB most s).2.length 1 (u8s (rB most s).2) ∧ (∀ k, r.ownBlock = some k → w.heap.size ≤ k) ∧ Rd B w' g (rB most s).1 ∧ Upd (fun k => k = g) w w' := by
  have hn1 : ∀ (w' : World), Sl w' (.slice none 0 0) ([] : Bytes).length 1 (u8s []) := fun _ => Sl.nil 1
  have hn2 : ∀ k, (Value.slice none 0 0).ownBlock = some k → w.heap.size ≤ k := fun k hk => by simp [Value.ownBlock] at hk
  refine C.pack_Reader_Bytes ?_
  unfold F.pack_Reader_Bytes
  repeat (first
    | (refine st1 fun k' hk => ?_; simp [go_sem, thenR_ok, bin]; refine hk _ _ ?_; clear hk k')
    | (with_reducible refine mv.mk ?_) | (with_reducible refine nk_p ?_) | (with_reducible refine gd_u ?_) | (with_reducible refine gd_ft ?_) | (with_reducible refine gd_tf ?_) | (with_reducible refine gd_i ?_) | (with_reducible refine pk_t ?_) | (with_reducible refine pk_f ?_) | (with_reducible refine br_t ?_) | (with_reducible refine br_f ?_))
  rw [show decide ((most : Int) < 0) = false by simp]
  refine jn_in ?_
  repeat (first
    | (refine st1 fun k' hk => ?_; simp [go_sem, thenR_ok, bin]; refine hk _ _ ?_; clear hk k')
    | (with_reducible refine mv.mk ?_) | (with_reducible refine nk_p ?_) | (with_reducible refine gd_u ?_) | (with_reducible refine gd_ft ?_) | (with_reducible refine gd_tf ?_) | (with_reducible refine gd_i ?_) | (with_reducible refine pk_t ?_) | (with_reducible refine pk_f ?_) | (with_reducible refine br_t ?_) | (with_reducible refine br_f ?_))
  rintro - -
  repeat (first
    | (refine st1 fun k' hk => ?_; simp [go_sem, thenR_ok, bin]; refine hk _ _ ?_; clear hk k')
    | (with_reducible refine mv.mk ?_) | (with_reducible refine nk_p ?_) | (with_reducible refine gd_u ?_) | (with_reducible refine gd_ft ?_) | (with_reducible refine gd_tf ?_) | (with_reducible refine gd_i ?_) | (with_reducible refine pk_t ?_) | (with_reducible refine pk_f ?_) | (with_reducible refine br_t ?_) | (with_reducible refine br_f ?_))
  refine (pack_Reader_live h).mono fun r w1 ⟨e1, e2⟩ => ?_
  subst e1; subst e2
  cases s with
  | none =>
    simp only [Option.isSome_none]
    repeat (first
      | (refine st1 fun k' hk => ?_; simp [go_sem, thenR_ok, bin]; refine hk _ _ ?_; clear hk k')
      | (with_reducible refine mv.mk ?_) | (with_reducible refine nk_p ?_) | (with_reducible refine gd_u ?_) | (with_reducible refine gd_ft ?_) | (with_reducible refine gd_tf ?_) | (with_reducible refine gd_i ?_) | (with_reducible refine pk_t ?_) | (with_reducible refine pk_f ?_) | (with_reducible refine br_t ?_) | (with_reducible refine br_f ?_))
    exact ⟨hn1 _, hn2, h, Upd.refl⟩
  | some b =>
    simp only [Option.isSome_some]
    have h0 := h
    obtain ⟨sv, ev, l, h1, h2, h3, h4, rfl, rfl⟩ := h
    have hc := h1.cell 0
    simp only [prdC, List.getElem?_cons_succ, List.getElem?_cons_zero] at hc
    repeat (first
      | (refine st1 fun k' hk => ?_; simp [go_sem, thenR_ok, bin, hc]; refine hk _ _ ?_; clear hk k')
      | (with_reducible refine mv.mk ?_) | (with_reducible refine nk_p ?_) | (with_reducible refine gd_u ?_) | (with_reducible refine gd_ft ?_) | (with_reducible refine gd_tf ?_) | (with_reducible refine gd_i ?_) | (with_reducible refine pk_t ?_) | (with_reducible refine pk_f ?_) | (with_reducible refine br_t ?_) | (with_reducible refine br_f ?_))
    refine (pack_Reader_Uint h0 (most := all64) (by decide)).mono fun r w2 ⟨e1, hR, hu⟩ => ?_
    subst e1
    repeat (first
      | (refine st1 fun k' hk => ?_; simp [go_sem, thenR_ok, bin]; refine hk _ _ ?_; clear hk k')
      | (with_reducible refine mv.mk ?_) | (with_reducible refine nk_p ?_) | (with_reducible refine gd_u ?_) | (with_reducible refine gd_ft ?_) | (with_reducible refine gd_tf ?_) | (with_reducible refine gd_i ?_) | (with_reducible refine pk_t ?_) | (with_reducible refine pk_f ?_) | (with_reducible refine br_t ?_) | (with_reducible refine br_f ?_))
    refine (pack_Reader_live hR).mono fun r w3 ⟨e1, e2⟩ => ?_
    subst e1; subst e2
    unfold rB
    cases hd : rU all64 (some b) with
    | mk s' n =>
    rw [hd] at hR
    have hn : n < 18446744073709551616 := by have := rU_lt (most := all64) (s := some b); rw [hd] at this; exact this
    have hb0 : ∀ {w4 : World}, Rd B w4 g none → Upd (fun k => k = g) w1 w4 → ∀ {k : Value → World → Prop}, (∀ w5, Rd B w5 g none → Upd (fun k => k = g) w1 w5 → k undef w5) →
        o0 Tryz.prog (Instr.storeAt T.sl_uint8 (.pointer (some ⟨g, 0, none⟩)) sv) w4 k := by
      intro w4 hR4 hu4 k hk
      obtain ⟨sv4, ev4, l4, q1, q2, q3, q4, t, x, rfl⟩ := hR4
      refine st_store1 (by kernel_rfl) (sl_cells h2.1) q1 (by simp [prdC]) fun w5 hb5 hu5 => ?_
      have hu15 : Upd (fun k => k = g) w1 w5 := hu4.trans hu5 fun _ _ h => h
      exact hk w5 ⟨sv, _, b, hb5, h2.keep hu15 fun k hk e => h4 (e ▸ hk), h3, q4, t, x, rfl⟩ hu15
    cases s' with
    | none =>
      simp only [Option.isSome_none]
      repeat (first
        | (refine st1 fun k' hk => ?_; simp [go_sem, thenR_ok, bin]; refine hk _ _ ?_; clear hk k')
        | (with_reducible refine mv.mk ?_) | (with_reducible refine nk_p ?_) | (with_reducible refine gd_u ?_) | (with_reducible refine gd_ft ?_) | (with_reducible refine gd_tf ?_) | (with_reducible refine gd_i ?_) | (with_reducible refine pk_t ?_) | (with_reducible refine pk_f ?_) | (with_reducible refine br_t ?_) | (with_reducible refine br_f ?_))
      exact ⟨hn1 _, hn2, hR, hu⟩
    | some r1 =>
      simp only [Option.isSome_some]
      repeat (first
        | (refine st1 fun k' hk => ?_; simp [go_sem, thenR_ok, bin]; refine hk _ _ ?_; clear hk k')
        | (with_reducible refine mv.mk ?_) | (with_reducible refine nk_p ?_) | (with_reducible refine gd_u ?_) | (with_reducible refine gd_ft ?_) | (with_reducible refine gd_tf ?_) | (with_reducible refine gd_i ?_) | (with_reducible refine pk_t ?_) | (with_reducible refine pk_f ?_) | (with_reducible refine br_t ?_) | (with_reducible refine br_f ?_))
      rw [show IntKind.u64.wrap (most : Int) = (most : Int) by rw [u64_wrap]; omega]
      refine jn_in ?_
      refine br_split (fun hb => ?_) (fun hb => ?_)
      · have hlt : most < n := by have := of_decide_eq_true hb; omega
        simp only [if_pos (Or.inl hlt : most < n ∨ r1.length < n)]
        repeat (first
          | (refine st1 fun k' hk => ?_; simp [go_sem, thenR_ok, bin]; refine hk _ _ ?_; clear hk k')
          | (with_reducible refine mv.mk ?_) | (with_reducible refine nk_p ?_) | (with_reducible refine gd_u ?_) | (with_reducible refine gd_ft ?_) | (with_reducible refine gd_tf ?_) | (with_reducible refine gd_i ?_) | (with_reducible refine pk_t ?_) | (with_reducible refine pk_f ?_) | (with_reducible refine br_t ?_) | (with_reducible refine br_f ?_))
        refine (pack_Reader_fail hR _ 2).mono fun r w4 ⟨hR4, hu4⟩ => ?_
        rintro - -
        repeat (first
          | (refine st1 fun k' hk => ?_; simp [go_sem, thenR_ok, bin]; refine hk _ _ ?_; clear hk k')
          | (with_reducible refine mv.mk ?_) | (with_reducible refine nk_p ?_) | (with_reducible refine gd_u ?_) | (with_reducible refine gd_ft ?_) | (with_reducible refine gd_tf ?_) | (with_reducible refine gd_i ?_) | (with_reducible refine pk_t ?_) | (with_reducible refine pk_f ?_) | (with_reducible refine br_t ?_) | (with_reducible refine br_f ?_))
        refine hb0 hR4 (hu.trans hu4 fun _ _ h => h) fun w5 hR5 hu5 => ?_
        refine mv.mk ⟨hn1 _, hn2, hR5, hu5⟩
      · have hlt : ¬ most < n := by have := of_decide_eq_false hb; omega
        obtain ⟨sv2, ev2, l2, q1, q2, q3, q4, rfl, rfl⟩ := id hR
        obtain ⟨A2, c2, rfl, _⟩ := id q2.1
        have hc2 := q1.cell 0
        simp only [prdC, List.getElem?_cons_succ, List.getElem?_cons_zero] at hc2
        repeat (first
          | (refine st1 fun k' hk => ?_; simp [go_sem, thenR_ok, bin, hc2]; refine hk _ _ ?_; clear hk k')
          | (with_reducible refine mv.mk ?_) | (with_reducible refine nk_p ?_) | (with_reducible refine gd_u ?_) | (with_reducible refine gd_ft ?_) | (with_reducible refine gd_tf ?_) | (with_reducible refine gd_i ?_) | (with_reducible refine pk_t ?_) | (with_reducible refine pk_f ?_) | (with_reducible refine br_t ?_) | (with_reducible refine br_f ?_))
        rw [show IntKind.u64.wrap (r1.length : Int) = (r1.length : Int) by rw [u64_wrap]; omega]
        refine br_split (fun hb => ?_) (fun hb => ?_)
        · have hlt2 : r1.length < n := by have := of_decide_eq_true hb; omega
          simp only [if_pos (Or.inr hlt2 : most < n ∨ r1.length < n)]
          repeat (first
            | (refine st1 fun k' hk => ?_; simp [go_sem, thenR_ok, bin]; refine hk _ _ ?_; clear hk k')
            | (with_reducible refine mv.mk ?_) | (with_reducible refine nk_p ?_) | (with_reducible refine gd_u ?_) | (with_reducible refine gd_ft ?_) | (with_reducible refine gd_tf ?_) | (with_reducible refine gd_i ?_) | (with_reducible refine pk_t ?_) | (with_reducible refine pk_f ?_) | (with_reducible refine br_t ?_) | (with_reducible refine br_f ?_))
          refine (pack_Reader_fail hR _ 12).mono fun r w4 ⟨hR4, hu4⟩ => ?_
          rintro - -
          repeat (first
            | (refine st1 fun k' hk => ?_; simp [go_sem, thenR_ok, bin]; refine hk _ _ ?_; clear hk k')
            | (with_reducible refine mv.mk ?_) | (with_reducible refine nk_p ?_) | (with_reducible refine gd_u ?_) | (with_reducible refine gd_ft ?_) | (with_reducible refine gd_tf ?_) | (with_reducible refine gd_i ?_) | (with_reducible refine pk_t ?_) | (with_reducible refine pk_f ?_) | (with_reducible refine br_t ?_) | (with_reducible refine br_f ?_))
          refine hb0 hR4 (hu.trans hu4 fun _ _ h => h) fun w5 hR5 hu5 => ?_
          refine mv.mk ⟨hn1 _, hn2, hR5, hu5⟩
        · have hlt2 : ¬ r1.length < n := by have := of_decide_eq_false hb; omega
          simp only [if_neg (by omega : ¬ (most < n ∨ r1.length < n))]
          repeat (first
            | (refine st1 fun k' hk => ?_; simp [go_sem, thenR_ok, bin]; refine hk _ _ ?_; clear hk k')
            | (with_reducible refine mv.mk ?_) | (with_reducible refine nk_p ?_) | (with_reducible refine gd_u ?_) | (with_reducible refine gd_ft ?_) | (with_reducible refine gd_tf ?_) | (with_reducible refine gd_i ?_) | (with_reducible refine pk_t ?_) | (with_reducible refine pk_f ?_) | (with_reducible refine br_t ?_) | (with_reducible refine br_f ?_))
          rw [i64_wrap (by omega) (by omega)]
          refine (pack_Reader_take hR _ (n := n) (by omega)).mono fun r w4 ⟨t1, t2, t3, t4⟩ => mv.mk ?_
          simp only [rT, if_neg hlt2] at t1 t3
          exact ⟨t1, fun k hk => Nat.le_trans hu.size (t2 k hk), t3, hu.trans t4 fun _ _ h => h⟩
theorem pack_Reader_Err {B : Nat → Prop} {g : Nat} {w : World} {s : Rdr} (h : Rd B w g s) : C Tryz.prog N.pack_Reader_Err #[.pointer (some ⟨g, 0, none⟩)] w fun r w' => (s ≠ none → r = .nilIface) ∧ (s = none → ∃ t x, r = .iface t x) ∧ w' = w := by
  obtain ⟨sv, ev, l, h1, h2, h3, h4, h5⟩ := h
  refine C.pack_Reader_Err ?_
  unfold F.pack_Reader_Err
  have hc := h1.cell 1
  simp only [prdC, List.getElem?_cons_succ, List.getElem?_cons_zero] at hc
  repeat (first
    | (refine st1 fun k' hk => ?_; simp [go_sem, thenR_ok, bin, hc]; refine hk _ _ ?_; clear hk k')
    | (with_reducible refine mv.mk ?_) | (with_reducible refine nk_p ?_) | (with_reducible refine gd_u ?_) | (with_reducible refine gd_ft ?_) | (with_reducible refine gd_tf ?_) | (with_reducible refine gd_i ?_) | (with_reducible refine pk_t ?_) | (with_reducible refine pk_f ?_) | (with_reducible refine br_t ?_) | (with_reducible refine br_f ?_))
  cases s with
  | some b => exact ⟨fun _ => h5.2, fun h => (by cases h), rfl⟩
  | none => exact ⟨fun h => absurd rfl h, fun _ => h5, rfl⟩
theorem pack_Reader_Done {B : Nat → Prop} {g : Nat} {w : World} {s : Rdr} (h : Rd B w g s) : C Tryz.prog N.pack_Reader_Done #[.pointer (some ⟨g, 0, none⟩)] w fun r w' => (s = some [] → r = .nilIface) ∧ (s ≠ some [] → ∃ t x, r = .iface t x) ∧ Ext w w' := by
  refine C.pack_Reader_Done ?_
  unfold F.pack_Reader_Done
  repeat (first
    | (refine st1 fun k' hk => ?_; simp [go_sem, thenR_ok, bin]; refine hk _ _ ?_; clear hk k')
    | (with_reducible refine mv.mk ?_) | (with_reducible refine nk_p ?_) | (with_reducible refine gd_u ?_) | (with_reducible refine gd_ft ?_) | (with_reducible refine gd_tf ?_) | (with_reducible refine gd_i ?_) | (with_reducible refine pk_t ?_) | (with_reducible refine pk_f ?_) | (with_reducible refine br_t ?_) | (with_reducible refine br_f ?_))
  refine (pack_Reader_live h).mono fun r w1 ⟨e1, e2⟩ => ?_
  subst e1; subst e2
  cases s with
  | none =>
    simp only [Option.isSome_none]
    repeat (first
      | (refine st1 fun k' hk => ?_; simp [go_sem, thenR_ok, bin]; refine hk _ _ ?_; clear hk k')
      | (with_reducible refine mv.mk ?_) | (with_reducible refine nk_p ?_) | (with_reducible refine gd_u ?_) | (with_reducible refine gd_ft ?_) | (with_reducible refine gd_tf ?_) | (with_reducible refine gd_i ?_) | (with_reducible refine pk_t ?_) | (with_reducible refine pk_f ?_) | (with_reducible refine br_t ?_) | (with_reducible refine br_f ?_))
    refine (pack_Reader_Err h).mono fun r w2 ⟨_, h2, e⟩ => mv.mk ?_
    subst e
    exact ⟨fun h => (by cases h), fun _ => h2 rfl, Upd.refl⟩
  | some b =>
    simp only [Option.isSome_some]
    have h0 := h
    obtain ⟨sv, ev, l, h1, h2, h3, h4, rfl, rfl⟩ := h
    obtain ⟨A2, c2, rfl, _⟩ := id h2.1
    have hc := h1.cell 0
    simp only [prdC, List.getElem?_cons_succ, List.getElem?_cons_zero] at hc
    repeat (first
      | (refine st1 fun k' hk => ?_; simp [go_sem, thenR_ok, bin, hc]; refine hk _ _ ?_; clear hk k')
      | (with_reducible refine mv.mk ?_) | (with_reducible refine nk_p ?_) | (with_reducible refine gd_u ?_) | (with_reducible refine gd_ft ?_) | (with_reducible refine gd_tf ?_) | (with_reducible refine gd_i ?_) | (with_reducible refine pk_t ?_) | (with_reducible refine pk_f ?_) | (with_reducible refine br_t ?_) | (with_reducible refine br_f ?_))
    refine br_split (fun hb => ?_) (fun hb => ?_)
    · repeat (first
        | (refine st1 fun k' hk => ?_; simp [go_sem, thenR_ok, bin]; refine hk _ _ ?_; clear hk k')
        | (with_reducible refine mv.mk ?_) | (with_reducible refine nk_p ?_) | (with_reducible refine gd_u ?_) | (with_reducible refine gd_ft ?_) | (with_reducible refine gd_tf ?_) | (with_reducible refine gd_i ?_) | (with_reducible refine pk_t ?_) | (with_reducible refine pk_f ?_) | (with_reducible refine br_t ?_) | (with_reducible refine br_f ?_))
      exact ⟨fun h => (by simp only [Option.some.injEq] at h; subst h; simp at hb), fun _ => ⟨_, _, rfl⟩, upd_alloc _⟩
    · repeat (first
        | (refine st1 fun k' hk => ?_; simp [go_sem, thenR_ok, bin]; refine hk _ _ ?_; clear hk k')
        | (with_reducible refine mv.mk ?_) | (with_reducible refine nk_p ?_) | (with_reducible refine gd_u ?_) | (with_reducible refine gd_ft ?_) | (with_reducible refine gd_tf ?_) | (with_reducible refine gd_i ?_) | (with_reducible refine pk_t ?_) | (with_reducible refine pk_f ?_) | (with_reducible refine br_t ?_) | (with_reducible refine br_f ?_))
      have hb0 : b = [] := by
        have := of_decide_eq_false hb
        exact List.eq_nil_of_length_eq_zero (by omega)
      refine (pack_Reader_Err h0).mono fun r w2 ⟨h9, _, e⟩ => mv.mk ?_
      subst e
      exact ⟨fun _ => h9 (by simp), fun h => absurd (by rw [hb0]) h, Upd.refl⟩
end Go.Proofs.YtbbmgkbinnomgaaGreatDoor
