/- The document's answer, chapter 2: readers. -/
import Derived.Test.YtbbmgkbinnomgaaGreatDoorRD
set_option linter.unusedVariables false
set_option linter.unusedSimpArgs false
set_option linter.unusedSectionVars false
namespace Go.Proofs.YtbbmgkbinnomgaaGreatDoor
open Go Go.Isk Go.RowKit
theorem ext_put {w w1 w2 : World} {g : Nat} (h : Ext w w1) (h2 : Upd (fun k => k = g) w1 w2) (hg : w.heap.size ≤ g) : Ext w w2 := h.trans h2 fun k hk e => by omega
/-- the cells of a reader of the document -/
def RdV (B : Nat → Prop) (w : World) (cs : List Value) (s : Rdr) : Prop := ∃ sv e l, cs = rrdC sv (.int .i64 e) ∧ I64 e ∧ SlS B w sv l.length 1 (u8s l) ∧ l.length ≤ 2147483648 ∧
  (match s with
    | some b => b = l ∧ e = 0
    | none => e ≠ 0)
theorem RdV.keep {B : Nat → Prop} {w w' : World} {cs : List Value} {s : Rdr} {S : Nat → Prop} (h : RdV B w cs s) (hu : Upd S w w') (hs : ∀ k, B k → ¬ S k) : RdV B w' cs s := by
  obtain ⟨sv, e, l, h1, h2, h3, h4, h5⟩ := h
  exact ⟨sv, e, l, h1, h2, h3.keep hu hs, h4, h5⟩
theorem RdV.ext {B : Nat → Prop} {w w' : World} {cs : List Value} {s : Rdr} (h : RdV B w cs s) (hu : Ext w w') : RdV B w' cs s := h.keep hu fun _ _ hf => hf
theorem RdV.len {B : Nat → Prop} {w : World} {cs : List Value} {s : Rdr} (h : RdV B w cs s) : cs.length = 2 := by
  obtain ⟨sv, e, l, rfl, _⟩ := h
  rfl
theorem RdV.one {B : Nat → Prop} {w : World} {cs : List Value} {s : Rdr} (h : RdV B w cs s) : ∀ u ∈ cs, u.oneCell' = true := by
  obtain ⟨sv, e, l, rfl, h2, h3, h4⟩ := h
  intro u hu
  simp only [rrdC, List.mem_cons, List.not_mem_nil, or_false] at hu
  rcases hu with rfl | rfl
  · exact (sl_cells h3.1).2
  · rfl
theorem RdV.mk {B : Nat → Prop} {w : World} {sv : Value} {l : Bytes} (h : SlS B w sv l.length 1 (u8s l)) (hl : l.length ≤ 2147483648) : RdV B w (rrdC sv (.int .i64 0)) (some l) := ⟨sv, 0, l, rfl, by decide, h, hl, rfl, rfl⟩
theorem isthmusref02_fail {B : Nat → Prop} {w : World} {cs : List Value} {s : Rdr} {e : Int} (h : RdV B w cs s) (he : e ≠ 0) (hi : I64 e) :
    C Tryz.prog N.isthmusref02_fail #[.agg cs.toArray, .int .i64 e] w fun r w' => ∃ ds, r = .agg ds.toArray ∧ RdV B w' ds none ∧ Ext w w' := by
  obtain ⟨sv, e0, l, rfl, h2, h3, h4, h5⟩ := id h
  refine C.isthmusref02_fail ?_
  unfold F.isthmusref02_fail
  refine st_box rfl fun g w1 hb1 hu1 hg1 => ?_
  refine st_new (n := 2) (by kernel_rfl) fun g2 w2 zs hz2 hb2 hu2 hg2 => ?_
  have hb1' := hb1.ext hu2
  have hlt := hb1.lt
  refine rrd.g1 hb1' ?_
  repeat (first
    | (refine st1 fun k' hk => ?_; simp [go_sem, thenR_ok, bin]; refine hk _ _ ?_; clear hk k')
    | (with_reducible refine mv.mk ?_) | (with_reducible refine nk_p ?_) | (with_reducible refine gd_u ?_) | (with_reducible refine gd_ft ?_) | (with_reducible refine gd_tf ?_) | (with_reducible refine gd_i ?_) | (with_reducible refine pk_t ?_) | (with_reducible refine pk_f ?_) | (with_reducible refine br_t ?_) | (with_reducible refine br_f ?_))
  refine jn_in ?_
  by_cases h0 : e0 = 0
  · subst h0
    rw [show ((0 : Int) == 0) = true from rfl]
    refine br_t (mv.mk ?_)
    refine st_of (fieldAt_run (off := 1) (by kernel_rfl) _ _ _) ?_
    refine st_store1 (by kernel_rfl) ⟨rfl, rfl⟩ hb1' (by simp [rrdC]) fun w3 hb3 hu3 => ?_
    rintro - -
    refine load_blk (by kernel_rfl) hb3 rfl ?_
    have hu03 : Ext w w3 := ext_put (hu1.ext hu2) hu3 hg1
    have hR : RdV B w3 (rrdC sv (.int .i64 e)) none := ⟨sv, e, l, rfl, hi, h3.ext hu03, h4, he⟩
    refine st_all (by kernel_rfl) (hb2.keep hu3 (by omega)) hz2 rfl hR.one fun w4 hb4 hu4 => ?_
    have hu04 : Ext w w4 := ext_put hu03 hu4 (by have := hu1.size; omega)
    have hR : RdV B w4 (rrdC sv (.int .i64 e)) none := ⟨sv, e, l, rfl, hi, h3.ext hu04, h4, he⟩
    exact rc_blk (by kernel_rfl) hb4 rfl ⟨_, rfl, hR, hu04⟩
  · rw [show (e0 == 0) = false by simp [h0]]
    repeat (first
      | (refine st1 fun k' hk => ?_; simp [go_sem, thenR_ok, bin]; refine hk _ _ ?_; clear hk k')
      | (with_reducible refine mv.mk ?_) | (with_reducible refine nk_p ?_) | (with_reducible refine gd_u ?_) | (with_reducible refine gd_ft ?_) | (with_reducible refine gd_tf ?_) | (with_reducible refine gd_i ?_) | (with_reducible refine pk_t ?_) | (with_reducible refine pk_f ?_) | (with_reducible refine br_t ?_) | (with_reducible refine br_f ?_))
    rintro - -
    refine load_blk (by kernel_rfl) hb1' rfl ?_
    have hu02 : Ext w w2 := hu1.ext hu2
    refine st_all (by kernel_rfl) hb2 hz2 rfl h.one fun w4 hb4 hu4 => ?_
    have hu04 : Ext w w4 := ext_put hu02 hu4 (by have := hu1.size; omega)
    refine rc_blk (by kernel_rfl) hb4 rfl ⟨_, rfl, ⟨sv, e0, l, rfl, h2, h3.ext hu04, h4, ?_⟩, hu04⟩
    exact h0
/-- what is returned: a block of one's own, set and read -/
theorem ret_rdn {B : Nat → Prop} {g2 : Nat} {w1 : World} {cs zs : List Value} {n : Value} {s : Rdr} {K : Value → Value → World → Prop} (hR : RdV B w1 cs s) (hb2 : Blk w1 g2 T.isthmusref02_Reader zs) (hz2 : zs.length = 2) (hB : ¬ B g2)
    (h : ∀ w2, RdV B w2 cs s → Upd (fun k => k = g2) w1 w2 → K (.agg cs.toArray) n w2) :
    o0 Tryz.prog (Instr.storeAt T.isthmusref02_Reader (.pointer (some ⟨g2, 0, none⟩)) (.agg cs.toArray)) w1 fun _ w => mv n fun t => rc Tryz.prog T.isthmusref02_Reader (.pointer (some ⟨g2, 0, none⟩)) w fun r0 => K r0 t w := by
  refine st_all (by kernel_rfl) hb2 hz2 hR.len hR.one fun w4 hb4 hu4 => mv.mk ?_
  exact rc_blk (by kernel_rfl) hb4 hR.len (h w4 (hR.keep hu4 fun k hk e => hB (e ▸ hk)) hu4)
theorem val_drop_le : ∀ (j : Nat) (l : Bytes), val (l.drop j) ≤ val l
  | 0, l => by simp
  | j + 1, [] => by simp
  | j + 1, c :: r => by
    have := val_drop_le j r
    simp only [List.drop_succ_cons, val]; omega
set_option maxHeartbeats 4000000 in
theorem isthmusref02_ReadUint {B : Nat → Prop} {most : Nat} {w : World} {cs : List Value} {s : Rdr} (h : RdV B w cs s) (hm : most < 18446744073709551616) (hBw : ∀ k, B k → k < w.heap.size) :
    C Tryz.prog N.isthmusref02_ReadUint #[.agg cs.toArray, .int .u64 most] w fun r w' => ∃ ds, r = .tuple #[.agg ds.toArray, .int .u64 (rU most s).2] ∧ RdV B w' ds (rU most s).1 ∧ Ext w w' := by
  obtain ⟨sv, e0, l, rfl, h2, h3, h4, h5⟩ := id h
  refine C.isthmusref02_ReadUint ?_
  unfold F.isthmusref02_ReadUint
  refine st_box rfl fun g w1 hb1 hu1 hg1 => ?_
  refine st_new (n := 2) (by kernel_rfl) fun g2 w2 zs hz2 hb2 hu2 hg2 => ?_
  have hb1' := hb1.ext hu2
  have hlt := hb1.lt
  have hu02 : Ext w w2 := hu1.ext hu2
  have hg02 : w.heap.size ≤ g2 := Nat.le_trans hu1.size hg2
  refine mv.mk (rrd.g1 hb1' ?_)
  repeat (first
    | (refine st1 fun k' hk => ?_; simp [go_sem, thenR_ok, bin]; refine hk _ _ ?_; clear hk k')
    | (with_reducible refine mv.mk ?_) | (with_reducible refine nk_p ?_) | (with_reducible refine gd_u ?_) | (with_reducible refine gd_ft ?_) | (with_reducible refine gd_tf ?_) | (with_reducible refine gd_i ?_) | (with_reducible refine pk_t ?_) | (with_reducible refine pk_f ?_) | (with_reducible refine br_t ?_) | (with_reducible refine br_f ?_))
  cases s with
  | none =>
    rw [show (e0 != 0) = true by simpa using h5]
    refine br_t (load_blk (by kernel_rfl) hb1' rfl ?_)
    exact ret_rdn (h.ext hu02) hb2 hz2 (fun q => by have := hBw _ q; omega) fun w4 hR hu4 => ⟨_, rfl, hR, ext_put hu02 hu4 hg02⟩
  | some b =>
    obtain ⟨rfl, rfl⟩ := h5
    have hwB : ∃ wB : World, wB = w := ⟨_, rfl⟩
    obtain ⟨wB, hwB⟩ := hwB
    refine br_f ?_
    obtain ⟨A2, c2, rfl, _⟩ := id h3.1
    have hc := hb1'.cell 0
    simp only [rrdC, List.getElem?_cons_succ, List.getElem?_cons_zero] at hc
    have hs2 := (h3.ext hu02).1
    repeat (first
      | (refine st1 fun k' hk => ?_; simp [go_sem, thenR_ok, bin]; refine hk _ _ ?_; clear hk k')
      | (with_reducible refine mv.mk ?_) | (with_reducible refine nk_p ?_) | (with_reducible refine gd_u ?_) | (with_reducible refine gd_ft ?_) | (with_reducible refine gd_tf ?_) | (with_reducible refine gd_i ?_) | (with_reducible refine pk_t ?_) | (with_reducible refine pk_f ?_) | (with_reducible refine br_t ?_) | (with_reducible refine br_f ?_))
    refine lp_by (fun vs w' => w' = w2 ∧ ∃ i : Nat, vs = [.int .i64 i] ∧ i ≤ 10 ∧ i ≤ b.length ∧ Bigs b i) (fun vs _ => match vs with | [.int _ m] => 10 - m.toNat | _ => 0) ⟨rfl, 0, rfl, by omega, by omega, fun j _ hj => by omega⟩ ?_
    rintro x w3 ⟨rfl, i, hx, hi, hil, hB⟩
    simp only [List.cons.injEq, and_true] at hx
    rw [hx]
    repeat (first
      | (refine st1 fun k' hk => ?_; simp [go_sem, thenR_ok, bin, hc]; refine hk _ _ ?_; clear hk k')
      | (with_reducible refine mv.mk ?_) | (with_reducible refine nk_p ?_) | (with_reducible refine gd_u ?_) | (with_reducible refine gd_ft ?_) | (with_reducible refine gd_tf ?_) | (with_reducible refine gd_i ?_) | (with_reducible refine pk_t ?_) | (with_reducible refine pk_f ?_) | (with_reducible refine br_t ?_) | (with_reducible refine br_f ?_))
    rcases (by omega : i = b.length ∨ (i < b.length ∧ i = 10) ∨ (i < b.length ∧ i < 10)) with hi1 | ⟨hi1, hi2⟩ | ⟨hi1, hi2⟩
    case' inl =>
      rw [show decide (i < b.length) = false by simp; omega]
      repeat (first
        | (refine st1 fun k' hk => ?_; simp [go_sem, thenR_ok, bin]; refine hk _ _ ?_; clear hk k')
        | (with_reducible refine mv.mk ?_) | (with_reducible refine nk_p ?_) | (with_reducible refine gd_u ?_) | (with_reducible refine gd_ft ?_) | (with_reducible refine gd_tf ?_) | (with_reducible refine gd_i ?_) | (with_reducible refine pk_t ?_) | (with_reducible refine pk_f ?_) | (with_reducible refine br_t ?_) | (with_reducible refine br_f ?_))
      have hstop : i = b.length ∨ i = 10 ∨ ∃ h : i < b.length, b[i].toNat < 128 := .inl hi1
    case' inr.inl =>
      rw [show decide (i < b.length) = true by simp; omega]
      repeat (first
        | (refine st1 fun k' hk => ?_; simp [go_sem, thenR_ok, bin]; refine hk _ _ ?_; clear hk k')
        | (with_reducible refine mv.mk ?_) | (with_reducible refine nk_p ?_) | (with_reducible refine gd_u ?_) | (with_reducible refine gd_ft ?_) | (with_reducible refine gd_tf ?_) | (with_reducible refine gd_i ?_) | (with_reducible refine pk_t ?_) | (with_reducible refine pk_f ?_) | (with_reducible refine br_t ?_) | (with_reducible refine br_f ?_))
      rw [show decide ((i : Int) < 10) = false by simp; omega]
      repeat (first
        | (refine st1 fun k' hk => ?_; simp [go_sem, thenR_ok, bin]; refine hk _ _ ?_; clear hk k')
        | (with_reducible refine mv.mk ?_) | (with_reducible refine nk_p ?_) | (with_reducible refine gd_u ?_) | (with_reducible refine gd_ft ?_) | (with_reducible refine gd_tf ?_) | (with_reducible refine gd_i ?_) | (with_reducible refine pk_t ?_) | (with_reducible refine pk_f ?_) | (with_reducible refine br_t ?_) | (with_reducible refine br_f ?_))
      have hstop : i = b.length ∨ i = 10 ∨ ∃ h : i < b.length, b[i].toNat < 128 := .inr (.inl hi2)
    case' inr.inr =>
      rw [show decide (i < b.length) = true by simp; omega]
      repeat (first
        | (refine st1 fun k' hk => ?_; simp [go_sem, thenR_ok, bin]; refine hk _ _ ?_; clear hk k')
        | (with_reducible refine mv.mk ?_) | (with_reducible refine nk_p ?_) | (with_reducible refine gd_u ?_) | (with_reducible refine gd_ft ?_) | (with_reducible refine gd_tf ?_) | (with_reducible refine gd_i ?_) | (with_reducible refine pk_t ?_) | (with_reducible refine pk_f ?_) | (with_reducible refine br_t ?_) | (with_reducible refine br_f ?_))
      rw [show decide ((i : Int) < 10) = true by simp; omega]
      repeat (first
        | (refine st1 fun k' hk => ?_; simp [go_sem, thenR_ok, bin, hc]; refine hk _ _ ?_; clear hk k')
        | (with_reducible refine mv.mk ?_) | (with_reducible refine nk_p ?_) | (with_reducible refine gd_u ?_) | (with_reducible refine gd_ft ?_) | (with_reducible refine gd_tf ?_) | (with_reducible refine gd_i ?_) | (with_reducible refine pk_t ?_) | (with_reducible refine pk_f ?_) | (with_reducible refine br_t ?_) | (with_reducible refine br_f ?_))
      obtain ⟨ga, oa, hr, hg, _⟩ := idx_at tBytes hs2 i hi1 (q := .i64)
      have hg0 : w3.cell? ⟨ga, oa, none⟩ = some (.int .u8 b[i].toNat) := by
        have := hg 0 (.int .u8 b[i].toNat) (by simp [u8s, hi1])
        simpa using this
      refine st_of hr (gd_i (st_of (load_one (by kernel_rfl) hg0) (gd_i ?_)))
      repeat (first
        | (refine st1 fun k' hk => ?_; simp [go_sem, thenR_ok, bin]; refine hk _ _ ?_; clear hk k')
        | (with_reducible refine mv.mk ?_) | (with_reducible refine nk_p ?_) | (with_reducible refine gd_u ?_) | (with_reducible refine gd_ft ?_) | (with_reducible refine gd_tf ?_) | (with_reducible refine gd_i ?_) | (with_reducible refine pk_t ?_) | (with_reducible refine pk_f ?_) | (with_reducible refine br_t ?_) | (with_reducible refine br_f ?_))
      refine br_split (fun hb => ?_) (fun hb => ?_)
      case' refine_1 =>
        have hge : 128 ≤ b[i].toNat := by have := of_decide_eq_true hb; omega
        repeat (first
          | (refine st1 fun k' hk => ?_; simp [go_sem, thenR_ok, bin]; refine hk _ _ ?_; clear hk k')
          | (with_reducible refine mv.mk ?_) | (with_reducible refine nk_p ?_) | (with_reducible refine gd_u ?_) | (with_reducible refine gd_ft ?_) | (with_reducible refine gd_tf ?_) | (with_reducible refine gd_i ?_) | (with_reducible refine pk_t ?_) | (with_reducible refine pk_f ?_) | (with_reducible refine br_t ?_) | (with_reducible refine br_f ?_))
        rw [i64_succ (by omega)]
        exact ⟨⟨rfl, i + 1, rfl, by omega, by omega, bigs_succ hB hi1 hge⟩, by simp; omega⟩
      case' refine_2 =>
        repeat (first
          | (refine st1 fun k' hk => ?_; simp [go_sem, thenR_ok, bin]; refine hk _ _ ?_; clear hk k')
          | (with_reducible refine mv.mk ?_) | (with_reducible refine nk_p ?_) | (with_reducible refine gd_u ?_) | (with_reducible refine gd_ft ?_) | (with_reducible refine gd_tf ?_) | (with_reducible refine gd_i ?_) | (with_reducible refine pk_t ?_) | (with_reducible refine pk_f ?_) | (with_reducible refine br_t ?_) | (with_reducible refine br_f ?_))
        have hstop : i = b.length ∨ i = 10 ∨ ∃ h : i < b.length, b[i].toNat < 128 := .inr (.inr ⟨hi1, by have := of_decide_eq_false hb; omega⟩)
    all_goals
      have hdead : ∀ e : Int, e ≠ 0 → I64 e → rU most (some b) = (none, 0) → C Tryz.prog N.isthmusref02_fail #[.agg (rrdC (.slice A2 b.length c2) (.int .i64 0)).toArray, .int .i64 e] w3 fun t35 w =>
          o0 Tryz.prog (Instr.storeAt T.isthmusref02_Reader (.pointer (some ⟨g2, 0, none⟩)) t35) w fun _ w => mv (.int .u64 0) fun t => rc Tryz.prog T.isthmusref02_Reader (.pointer (some ⟨g2, 0, none⟩)) w fun r0 =>
          ∃ ds, (.tuple #[r0, t] : Value) = .tuple #[.agg ds.toArray, .int .u64 (rU most (some b)).2] ∧ RdV B w ds (rU most (some b)).1 ∧ Ext wB w := by
        intro e he hi hU
        subst hwB
        refine (isthmusref02_fail (h.ext hu02) he hi).mono fun r w5 ⟨ds, e, hR, hu5⟩ => ?_
        subst e
        refine ret_rdn (K := fun r0 t w => ∃ ds, (.tuple #[r0, t] : Value) = .tuple #[.agg ds.toArray, .int .u64 (rU most (some b)).2] ∧ RdV B w ds (rU most (some b)).1 ∧ Ext wB w) hR (hb2.ext hu5) hz2 (fun q => by have := hBw _ q; omega) fun w6 hR6 hu6 => ?_
        rw [hU]
        exact ⟨_, rfl, hR6, ext_put (hu02.ext hu5) hu6 hg02⟩
      subst hwB
      by_cases h10 : i = 10
      · rw [show ((i : Int) == 10) = true by simp [h10]]
        repeat (first
          | (refine st1 fun k' hk => ?_; simp [go_sem, thenR_ok, bin]; refine hk _ _ ?_; clear hk k')
          | (with_reducible refine mv.mk ?_) | (with_reducible refine nk_p ?_) | (with_reducible refine gd_u ?_) | (with_reducible refine gd_ft ?_) | (with_reducible refine gd_tf ?_) | (with_reducible refine gd_i ?_) | (with_reducible refine pk_t ?_) | (with_reducible refine pk_f ?_) | (with_reducible refine br_t ?_) | (with_reducible refine br_f ?_))
        subst h10
        exact load_blk (by kernel_rfl) hb1' rfl (hdead 3 (by decide) (by decide) (by simp only [rU, decU_long hil hB]))
      · rw [show ((i : Int) == 10) = false by simp; omega]
        repeat (first
          | (refine st1 fun k' hk => ?_; simp [go_sem, thenR_ok, bin, hc]; refine hk _ _ ?_; clear hk k')
          | (with_reducible refine mv.mk ?_) | (with_reducible refine nk_p ?_) | (with_reducible refine gd_u ?_) | (with_reducible refine gd_ft ?_) | (with_reducible refine gd_tf ?_) | (with_reducible refine gd_i ?_) | (with_reducible refine pk_t ?_) | (with_reducible refine pk_f ?_) | (with_reducible refine br_t ?_) | (with_reducible refine br_f ?_))
        by_cases hle : i = b.length
        · rw [show ((i : Int) == b.length) = true by simp [hle]]
          repeat (first
            | (refine st1 fun k' hk => ?_; simp [go_sem, thenR_ok, bin]; refine hk _ _ ?_; clear hk k')
            | (with_reducible refine mv.mk ?_) | (with_reducible refine nk_p ?_) | (with_reducible refine gd_u ?_) | (with_reducible refine gd_ft ?_) | (with_reducible refine gd_tf ?_) | (with_reducible refine gd_i ?_) | (with_reducible refine pk_t ?_) | (with_reducible refine pk_f ?_) | (with_reducible refine br_t ?_) | (with_reducible refine br_f ?_))
          subst hle
          exact load_blk (by kernel_rfl) hb1' rfl (hdead 12 (by decide) (by decide) (by simp only [rU, decU_short hB]))
        · rw [show ((i : Int) == b.length) = false by simp; omega]
          obtain ⟨hi1, hlt⟩ : ∃ h : i < b.length, b[i].toNat < 128 := by
            rcases hstop with h | h | h
            · exact absurd h hle
            · exact absurd h h10
            · exact h
          repeat (first
            | (refine st1 fun k' hk => ?_; simp [go_sem, thenR_ok, bin]; refine hk _ _ ?_; clear hk k')
            | (with_reducible refine mv.mk ?_) | (with_reducible refine nk_p ?_) | (with_reducible refine gd_u ?_) | (with_reducible refine gd_ft ?_) | (with_reducible refine gd_tf ?_) | (with_reducible refine gd_i ?_) | (with_reducible refine pk_t ?_) | (with_reducible refine pk_f ?_) | (with_reducible refine br_t ?_) | (with_reducible refine br_f ?_))
          obtain ⟨ga, oa, hr, hg, _⟩ := idx_at tBytes hs2 i hi1 (q := .i64)
          have hg0 : w3.cell? ⟨ga, oa, none⟩ = some (.int .u8 b[i].toNat) := by
            have := hg 0 (.int .u8 b[i].toNat) (by simp [u8s, hi1])
            simpa using this
          have hl := load_one (P := Tryz.prog) (t := T.uint8) (by kernel_rfl) hg0
          by_cases hbad : (i = 9 ∧ 1 < b[i].toNat) ∨ (0 < i ∧ b[i].toNat = 0)
          · have hU : rU most (some b) = (none, 0) := by
              have : 9 < i ∨ (i = 9 ∧ 1 < b[i].toNat) ∨ (0 < i ∧ b[i].toNat = 0) := .inr hbad
              simp only [rU, decU_at hi1 hB hlt, if_pos this]
            have hd := hdead 3 (by decide) (by decide) hU
            by_cases h9 : i = 9 ∧ 1 < b[i].toNat
            · rw [show ((i : Int) == 9) = true by simp; omega]
              repeat (first
                | (with_reducible refine st_of hr ?_)
                | (with_reducible refine st_of hl ?_)
                | (refine st1 fun k' hk => ?_; simp [go_sem, thenR_ok, bin, hc]; refine hk _ _ ?_; clear hk k')
                | (with_reducible refine mv.mk ?_) | (with_reducible refine nk_p ?_) | (with_reducible refine gd_u ?_) | (with_reducible refine gd_ft ?_) | (with_reducible refine gd_tf ?_) | (with_reducible refine gd_i ?_) | (with_reducible refine pk_t ?_) | (with_reducible refine pk_f ?_) | (with_reducible refine br_t ?_) | (with_reducible refine br_f ?_))
              rw [show decide (1 < (b[i].toNat : Int)) = true by simp; omega]
              repeat (first
                | (refine st1 fun k' hk => ?_; simp [go_sem, thenR_ok, bin]; refine hk _ _ ?_; clear hk k')
                | (with_reducible refine mv.mk ?_) | (with_reducible refine nk_p ?_) | (with_reducible refine gd_u ?_) | (with_reducible refine gd_ft ?_) | (with_reducible refine gd_tf ?_) | (with_reducible refine gd_i ?_) | (with_reducible refine pk_t ?_) | (with_reducible refine pk_f ?_) | (with_reducible refine br_t ?_) | (with_reducible refine br_f ?_))
              exact load_blk (by kernel_rfl) hb1' rfl hd
            · have h0 : 0 < i ∧ b[i].toNat = 0 := by omega
              have hend : ∀ {bb : Bool} {t54 : Value}, True := trivial
              rcases (by omega : i = 9 ∨ i ≠ 9) with hi9 | hi9
              case' inl =>
                rw [show ((i : Int) == 9) = true by simp; omega]
                repeat (first
                  | (with_reducible refine st_of hr ?_)
                  | (with_reducible refine st_of hl ?_)
                  | (refine st1 fun k' hk => ?_; simp [go_sem, thenR_ok, bin, hc]; refine hk _ _ ?_; clear hk k')
                  | (with_reducible refine mv.mk ?_) | (with_reducible refine nk_p ?_) | (with_reducible refine gd_u ?_) | (with_reducible refine gd_ft ?_) | (with_reducible refine gd_tf ?_) | (with_reducible refine gd_i ?_) | (with_reducible refine pk_t ?_) | (with_reducible refine pk_f ?_) | (with_reducible refine br_t ?_) | (with_reducible refine br_f ?_))
                rw [show decide (1 < (b[i].toNat : Int)) = false by simp; omega]
                repeat (first
                  | (refine st1 fun k' hk => ?_; simp [go_sem, thenR_ok, bin]; refine hk _ _ ?_; clear hk k')
                  | (with_reducible refine mv.mk ?_) | (with_reducible refine nk_p ?_) | (with_reducible refine gd_u ?_) | (with_reducible refine gd_ft ?_) | (with_reducible refine gd_tf ?_) | (with_reducible refine gd_i ?_) | (with_reducible refine pk_t ?_) | (with_reducible refine pk_f ?_) | (with_reducible refine br_t ?_) | (with_reducible refine br_f ?_))
              case' inr =>
                rw [show ((i : Int) == 9) = false by simp; omega]
                repeat (first
                  | (refine st1 fun k' hk => ?_; simp [go_sem, thenR_ok, bin]; refine hk _ _ ?_; clear hk k')
                  | (with_reducible refine mv.mk ?_) | (with_reducible refine nk_p ?_) | (with_reducible refine gd_u ?_) | (with_reducible refine gd_ft ?_) | (with_reducible refine gd_tf ?_) | (with_reducible refine gd_i ?_) | (with_reducible refine pk_t ?_) | (with_reducible refine pk_f ?_) | (with_reducible refine br_t ?_) | (with_reducible refine br_f ?_))
              all_goals
                rw [show decide (0 < i) = true by simp; omega]
                repeat (first
                  | (with_reducible refine st_of hr ?_)
                  | (with_reducible refine st_of hl ?_)
                  | (refine st1 fun k' hk => ?_; simp [go_sem, thenR_ok, bin, hc]; refine hk _ _ ?_; clear hk k')
                  | (with_reducible refine mv.mk ?_) | (with_reducible refine nk_p ?_) | (with_reducible refine gd_u ?_) | (with_reducible refine gd_ft ?_) | (with_reducible refine gd_tf ?_) | (with_reducible refine gd_i ?_) | (with_reducible refine pk_t ?_) | (with_reducible refine pk_f ?_) | (with_reducible refine br_t ?_) | (with_reducible refine br_f ?_))
                rw [show ((b[i].toNat : Int) == 0) = true by simp [h0.2]]
                repeat (first
                  | (refine st1 fun k' hk => ?_; simp [go_sem, thenR_ok, bin]; refine hk _ _ ?_; clear hk k')
                  | (with_reducible refine mv.mk ?_) | (with_reducible refine nk_p ?_) | (with_reducible refine gd_u ?_) | (with_reducible refine gd_ft ?_) | (with_reducible refine gd_tf ?_) | (with_reducible refine gd_i ?_) | (with_reducible refine pk_t ?_) | (with_reducible refine pk_f ?_) | (with_reducible refine br_t ?_) | (with_reducible refine br_f ?_))
                exact load_blk (by kernel_rfl) hb1' rfl hd
          · have hok : ¬ (9 < i ∨ (i = 9 ∧ 1 < b[i].toNat) ∨ (0 < i ∧ b[i].toNat = 0)) := by omega
            rcases (by omega : (i = 9 ∧ 0 < i) ∨ (i ≠ 9 ∧ 0 < i) ∨ (i ≠ 9 ∧ i = 0)) with ⟨hi9, hp⟩ | ⟨hi9, hp⟩ | ⟨hi9, hp⟩
            case' inl =>
              rw [show ((i : Int) == 9) = true by simp; omega]
              repeat (first
                | (with_reducible refine st_of hr ?_)
                | (with_reducible refine st_of hl ?_)
                | (refine st1 fun k' hk => ?_; simp [go_sem, thenR_ok, bin, hc]; refine hk _ _ ?_; clear hk k')
                | (with_reducible refine mv.mk ?_) | (with_reducible refine nk_p ?_) | (with_reducible refine gd_u ?_) | (with_reducible refine gd_ft ?_) | (with_reducible refine gd_tf ?_) | (with_reducible refine gd_i ?_) | (with_reducible refine pk_t ?_) | (with_reducible refine pk_f ?_) | (with_reducible refine br_t ?_) | (with_reducible refine br_f ?_))
              rw [show decide (1 < (b[i].toNat : Int)) = false by simp; omega]
              repeat (first
                | (refine st1 fun k' hk => ?_; simp [go_sem, thenR_ok, bin]; refine hk _ _ ?_; clear hk k')
                | (with_reducible refine mv.mk ?_) | (with_reducible refine nk_p ?_) | (with_reducible refine gd_u ?_) | (with_reducible refine gd_ft ?_) | (with_reducible refine gd_tf ?_) | (with_reducible refine gd_i ?_) | (with_reducible refine pk_t ?_) | (with_reducible refine pk_f ?_) | (with_reducible refine br_t ?_) | (with_reducible refine br_f ?_))
              rw [show decide (0 < i) = true by simp; omega]
              repeat (first
                | (with_reducible refine st_of hr ?_)
                | (with_reducible refine st_of hl ?_)
                | (refine st1 fun k' hk => ?_; simp [go_sem, thenR_ok, bin, hc]; refine hk _ _ ?_; clear hk k')
                | (with_reducible refine mv.mk ?_) | (with_reducible refine nk_p ?_) | (with_reducible refine gd_u ?_) | (with_reducible refine gd_ft ?_) | (with_reducible refine gd_tf ?_) | (with_reducible refine gd_i ?_) | (with_reducible refine pk_t ?_) | (with_reducible refine pk_f ?_) | (with_reducible refine br_t ?_) | (with_reducible refine br_f ?_))
              rw [show ((b[i].toNat : Int) == 0) = false by simp; omega]
              repeat (first
                | (refine st1 fun k' hk => ?_; simp [go_sem, thenR_ok, bin]; refine hk _ _ ?_; clear hk k')
                | (with_reducible refine mv.mk ?_) | (with_reducible refine nk_p ?_) | (with_reducible refine gd_u ?_) | (with_reducible refine gd_ft ?_) | (with_reducible refine gd_tf ?_) | (with_reducible refine gd_i ?_) | (with_reducible refine pk_t ?_) | (with_reducible refine pk_f ?_) | (with_reducible refine br_t ?_) | (with_reducible refine br_f ?_))
            case' inr.inl =>
              rw [show ((i : Int) == 9) = false by simp; omega]
              repeat (first
                | (refine st1 fun k' hk => ?_; simp [go_sem, thenR_ok, bin]; refine hk _ _ ?_; clear hk k')
                | (with_reducible refine mv.mk ?_) | (with_reducible refine nk_p ?_) | (with_reducible refine gd_u ?_) | (with_reducible refine gd_ft ?_) | (with_reducible refine gd_tf ?_) | (with_reducible refine gd_i ?_) | (with_reducible refine pk_t ?_) | (with_reducible refine pk_f ?_) | (with_reducible refine br_t ?_) | (with_reducible refine br_f ?_))
              rw [show decide (0 < i) = true by simp; omega]
              repeat (first
                | (with_reducible refine st_of hr ?_)
                | (with_reducible refine st_of hl ?_)
                | (refine st1 fun k' hk => ?_; simp [go_sem, thenR_ok, bin, hc]; refine hk _ _ ?_; clear hk k')
                | (with_reducible refine mv.mk ?_) | (with_reducible refine nk_p ?_) | (with_reducible refine gd_u ?_) | (with_reducible refine gd_ft ?_) | (with_reducible refine gd_tf ?_) | (with_reducible refine gd_i ?_) | (with_reducible refine pk_t ?_) | (with_reducible refine pk_f ?_) | (with_reducible refine br_t ?_) | (with_reducible refine br_f ?_))
              rw [show ((b[i].toNat : Int) == 0) = false by simp; omega]
              repeat (first
                | (refine st1 fun k' hk => ?_; simp [go_sem, thenR_ok, bin]; refine hk _ _ ?_; clear hk k')
                | (with_reducible refine mv.mk ?_) | (with_reducible refine nk_p ?_) | (with_reducible refine gd_u ?_) | (with_reducible refine gd_ft ?_) | (with_reducible refine gd_tf ?_) | (with_reducible refine gd_i ?_) | (with_reducible refine pk_t ?_) | (with_reducible refine pk_f ?_) | (with_reducible refine br_t ?_) | (with_reducible refine br_f ?_))
            case' inr.inr =>
              rw [show ((i : Int) == 9) = false by simp; omega]
              repeat (first
                | (refine st1 fun k' hk => ?_; simp [go_sem, thenR_ok, bin]; refine hk _ _ ?_; clear hk k')
                | (with_reducible refine mv.mk ?_) | (with_reducible refine nk_p ?_) | (with_reducible refine gd_u ?_) | (with_reducible refine gd_ft ?_) | (with_reducible refine gd_tf ?_) | (with_reducible refine gd_i ?_) | (with_reducible refine pk_t ?_) | (with_reducible refine pk_f ?_) | (with_reducible refine br_t ?_) | (with_reducible refine br_f ?_))
              rw [show decide (0 < i) = false by simp; omega]
              repeat (first
                | (refine st1 fun k' hk => ?_; simp [go_sem, thenR_ok, bin]; refine hk _ _ ?_; clear hk k')
                | (with_reducible refine mv.mk ?_) | (with_reducible refine nk_p ?_) | (with_reducible refine gd_u ?_) | (with_reducible refine gd_ft ?_) | (with_reducible refine gd_tf ?_) | (with_reducible refine gd_i ?_) | (with_reducible refine pk_t ?_) | (with_reducible refine pk_f ?_) | (with_reducible refine br_t ?_) | (with_reducible refine br_f ?_))
            all_goals
              have hdU := decU_at hi1 hB hlt
              rw [if_neg hok] at hdU
              have hv64 := decU_lt hdU
              refine lp_by (fun vs w' => w' = w3 ∧ ∃ m : Nat, m ≤ i + 1 ∧ vs = [.int .u64 (val ((b.take (i + 1)).drop m)), .int .i64 ((m : Int) - 1)]) (fun vs _ => match vs with | [_, .int _ m] => (m + 1).toNat | _ => 0) ⟨rfl, i + 1, Nat.le_refl _, ?_⟩ ?_
              · rw [List.drop_of_length_le (by rw [List.length_take]; omega)]
                simp only [val, List.cons.injEq, Value.int.injEq, true_and, and_true]
                omega
              rintro x2 w4 ⟨rfl, m, hm, hx2⟩
              simp only [List.cons.injEq, and_true] at hx2
              rw [hx2.1, hx2.2]
              repeat (first
                | (refine st1 fun k' hk => ?_; simp [go_sem, thenR_ok, bin]; refine hk _ _ ?_; clear hk k')
                | (with_reducible refine mv.mk ?_) | (with_reducible refine nk_p ?_) | (with_reducible refine gd_u ?_) | (with_reducible refine gd_ft ?_) | (with_reducible refine gd_tf ?_) | (with_reducible refine gd_i ?_) | (with_reducible refine pk_t ?_) | (with_reducible refine pk_f ?_) | (with_reducible refine br_t ?_) | (with_reducible refine br_f ?_))
              refine br_split (fun hb => ?_) (fun hb => ?_)
              · have hm1 : 1 ≤ m := by have := of_decide_eq_true hb; omega
                obtain ⟨j, rfl⟩ : ∃ j, m = j + 1 := ⟨m - 1, by omega⟩
                rw [show ((j + 1 : Nat) : Int) - 1 = (j : Int) by omega]
                repeat (first
                  | (refine st1 fun k' hk => ?_; simp [go_sem, thenR_ok, bin, hc]; refine hk _ _ ?_; clear hk k')
                  | (with_reducible refine mv.mk ?_) | (with_reducible refine nk_p ?_) | (with_reducible refine gd_u ?_) | (with_reducible refine gd_ft ?_) | (with_reducible refine gd_tf ?_) | (with_reducible refine gd_i ?_) | (with_reducible refine pk_t ?_) | (with_reducible refine pk_f ?_) | (with_reducible refine br_t ?_) | (with_reducible refine br_f ?_))
                refine byte_at hs2 (by omega) ?_
                repeat (first
                  | (refine st1 fun k' hk => ?_; simp [go_sem, thenR_ok, bin]; refine hk _ _ ?_; clear hk k')
                  | (with_reducible refine mv.mk ?_) | (with_reducible refine nk_p ?_) | (with_reducible refine gd_u ?_) | (with_reducible refine gd_ft ?_) | (with_reducible refine gd_tf ?_) | (with_reducible refine gd_i ?_) | (with_reducible refine pk_t ?_) | (with_reducible refine pk_f ?_) | (with_reducible refine br_t ?_) | (with_reducible refine br_f ?_))
                have hle := val_drop_le j (b.take (i + 1))
                have hstep := val_drop (b := b) (k := j) (by omega) (i + 1) (by omega)
                have hd2 : (b[j].toNat : Int).tmod 128 = ((b[j].toNat % 128 : Nat) : Int) := by rw [Int.tmod_eq_emod_of_nonneg (by omega)]; omega
                rw [hd2, show IntKind.u64.wrap (IntKind.u64.wrap ((val ((b.take (i + 1)).drop (j + 1)) : Int) * 128) + IntKind.u64.wrap ((b[j].toNat % 128 : Nat) : Int)) = ((val ((b.take (i + 1)).drop j) : Nat) : Int) by
                  simp only [u64_wrap]; omega, i64_wrap (by omega) (by omega)]
                exact ⟨⟨rfl, j, by omega, rfl⟩, by simp⟩
              · have hm0 : m = 0 := by have := of_decide_eq_false hb; omega
                subst hm0
                repeat (first
                  | (refine st1 fun k' hk => ?_; simp [go_sem, thenR_ok, bin]; refine hk _ _ ?_; clear hk k')
                  | (with_reducible refine mv.mk ?_) | (with_reducible refine nk_p ?_) | (with_reducible refine gd_u ?_) | (with_reducible refine gd_ft ?_) | (with_reducible refine gd_tf ?_) | (with_reducible refine gd_i ?_) | (with_reducible refine pk_t ?_) | (with_reducible refine pk_f ?_) | (with_reducible refine br_t ?_) | (with_reducible refine br_f ?_))
                rw [List.drop_zero]
                refine br_split (fun hb => ?_) (fun hb => ?_)
                · have hlt2 : most < val (b.take (i + 1)) := by have := of_decide_eq_true hb; omega
                  exact load_blk (by kernel_rfl) hb1' rfl (hdead 4 (by decide) (by decide) (by simp only [rU, hdU, if_pos hlt2]))
                · have hlt2 : ¬ most < val (b.take (i + 1)) := by have := of_decide_eq_false hb; omega
                  obtain ⟨v', hrun, hs', hbl⟩ := sl_from tBytes hs2 (i + 1) (by omega) .i64
                  rw [Nat.mul_one, u8s_drop] at hs'
                  refine rrd.g0 hb1' ?_
                  refine mv.mk ?_
                  refine st1 fun k' hk => ?_; simp [go_sem, thenR_ok, bin]; refine hk _ _ ?_; clear hk k'
                  rw [i64_succ (by omega)]
                  refine st_of (hrun _) ?_
                  refine st_of (fieldAt_run (off := 0) (by kernel_rfl) _ _ _) ?_
                  refine st_store1 (by kernel_rfl) (sl_cells hs') hb1' (by simp [rrdC]) fun w5 hb5 hu5 => ?_
                  refine load_blk (by kernel_rfl) hb5 rfl (mv.mk ?_)
                  have hu05 : Ext wB w5 := ext_put hu02 hu5 hg1
                  have hsB : SlS B w4 v' (b.drop (i + 1)).length 1 (u8s (b.drop (i + 1))) := by
                    refine ⟨by rw [List.length_drop]; exact hs', fun hn k hk => h3.2 ?_ k (hbl ▸ hk)⟩
                    rw [List.length_drop] at hn; omega
                  have hR5 : RdV B w5 (rrdC v' (.int .i64 0)) (some (b.drop (i + 1))) := RdV.mk (hsB.keep hu5 fun k hk e => by have := hBw k hk; omega) (by rw [List.length_drop]; omega)
                  refine ret_rdn hR5 (hb2.keep hu5 (by omega)) hz2 (fun q => by have := hBw _ q; omega) fun w6 hR6 hu6 => ?_
                  have hU : rU most (some b) = (some (b.drop (i + 1)), val (b.take (i + 1))) := by simp only [rU, hdU, if_neg hlt2]
                  rw [hU]
                  exact ⟨_, rfl, hR6, ext_put hu05 hu6 hg02⟩
theorem RdV.mono {B B' : Nat → Prop} {w : World} {cs : List Value} {s : Rdr} (h : RdV B w cs s) (hs : ∀ k, B k → k < w.heap.size → B' k) : RdV B' w cs s := by
  obtain ⟨sv, e, l, h1, h2, h3, h4, h5⟩ := h
  exact ⟨sv, e, l, h1, h2, h3.mono hs, h4, h5⟩
theorem RdV.slice {B : Nat → Prop} {w : World} {cs : List Value} {b : Bytes} (h : RdV B w cs (some b)) : ∃ A c, cs = rrdC (.slice A b.length c) (.int .i64 0) ∧ SlS B w (.slice A b.length c) b.length 1 (u8s b) ∧ b.length ≤ 2147483648 := by
  obtain ⟨sv, e, l, rfl, h2, h3, h4, rfl, rfl⟩ := h
  obtain ⟨A, c, rfl, _⟩ := id h3.1
  exact ⟨A, c, rfl, h3, h4⟩
theorem RdV.dead {B : Nat → Prop} {w : World} {cs : List Value} (h : RdV B w cs none) : ∃ sv e, cs = rrdC sv (.int .i64 e) ∧ e ≠ 0 ∧ I64 e := by
  obtain ⟨sv, e, l, rfl, h2, h3, h4, h5⟩ := h
  exact ⟨sv, e, rfl, h5, h2⟩
theorem isthmusref02_Done {B : Nat → Prop} {w : World} {cs : List Value} {s : Rdr} (h : RdV B w cs s) :
    C Tryz.prog N.isthmusref02_Done #[.agg cs.toArray] w fun r w' => ∃ e : Int, r = .int .i64 e ∧ (e = 0 ↔ s = some []) ∧ Ext w w' := by
  refine C.isthmusref02_Done ?_
  unfold F.isthmusref02_Done
  refine st_box rfl fun g w1 hb1 hu1 hg1 => mv.mk ?_
  cases s with
  | none =>
    obtain ⟨sv, e, rfl, he, hi⟩ := h.dead
    refine rrd.g1 hb1 ?_
    have hc := hb1.cell 1
    simp only [rrdC, List.getElem?_cons_succ, List.getElem?_cons_zero] at hc
    refine st1 fun k' hk => ?_; simp [go_sem, thenR_ok, bin]; refine hk _ _ ?_; clear hk k'
    rw [show (e == 0) = false by simp [he]]
    repeat (first
      | (refine st1 fun k' hk => ?_; simp [go_sem, thenR_ok, bin, hc]; refine hk _ _ ?_; clear hk k')
      | (with_reducible refine mv.mk ?_) | (with_reducible refine nk_p ?_) | (with_reducible refine gd_u ?_) | (with_reducible refine gd_ft ?_) | (with_reducible refine gd_tf ?_) | (with_reducible refine gd_i ?_) | (with_reducible refine pk_t ?_) | (with_reducible refine pk_f ?_) | (with_reducible refine br_t ?_) | (with_reducible refine br_f ?_))
    exact ⟨e, rfl, by simp [he], hu1⟩
  | some b =>
    obtain ⟨A, c, rfl, hsb, hl1⟩ := h.slice
    refine rrd.g1 hb1 ?_
    have hc := hb1.cell 0
    have hc1 := hb1.cell 1
    simp only [rrdC, List.getElem?_cons_succ, List.getElem?_cons_zero] at hc hc1
    refine st1 fun k' hk => ?_; simp [go_sem, thenR_ok, bin]; refine hk _ _ ?_; clear hk k'
    repeat (first
      | (refine st1 fun k' hk => ?_; simp [go_sem, thenR_ok, bin, hc]; refine hk _ _ ?_; clear hk k')
      | (with_reducible refine mv.mk ?_) | (with_reducible refine nk_p ?_) | (with_reducible refine gd_u ?_) | (with_reducible refine gd_ft ?_) | (with_reducible refine gd_tf ?_) | (with_reducible refine gd_i ?_) | (with_reducible refine pk_t ?_) | (with_reducible refine pk_f ?_) | (with_reducible refine br_t ?_) | (with_reducible refine br_f ?_))
    by_cases hb : b = []
    · subst hb
      rw [show decide (0 < List.length ([] : Bytes)) = false from rfl]
      repeat (first
        | (refine st1 fun k' hk => ?_; simp [go_sem, thenR_ok, bin, hc1]; refine hk _ _ ?_; clear hk k')
        | (with_reducible refine mv.mk ?_) | (with_reducible refine nk_p ?_) | (with_reducible refine gd_u ?_) | (with_reducible refine gd_ft ?_) | (with_reducible refine gd_tf ?_) | (with_reducible refine gd_i ?_) | (with_reducible refine pk_t ?_) | (with_reducible refine pk_f ?_) | (with_reducible refine br_t ?_) | (with_reducible refine br_f ?_))
      exact ⟨0, rfl, by simp, hu1⟩
    · rw [show decide (0 < List.length b) = true by simp; exact List.length_pos_iff.2 hb]
      repeat (first
        | (refine st1 fun k' hk => ?_; simp [go_sem, thenR_ok, bin]; refine hk _ _ ?_; clear hk k')
        | (with_reducible refine mv.mk ?_) | (with_reducible refine nk_p ?_) | (with_reducible refine gd_u ?_) | (with_reducible refine gd_ft ?_) | (with_reducible refine gd_tf ?_) | (with_reducible refine gd_i ?_) | (with_reducible refine pk_t ?_) | (with_reducible refine pk_f ?_) | (with_reducible refine br_t ?_) | (with_reducible refine br_f ?_))
      refine ⟨3, rfl, ?_, hu1⟩
      simp [hb]
theorem isthmusref02_ReadBytes {B : Nat → Prop} {most : Nat} {w : World} {cs : List Value} {s : Rdr} (h : RdV B w cs s) (hm : most ≤ 2147483648) (hBw : ∀ k, B k → k < w.heap.size) :
    C Tryz.prog N.isthmusref02_ReadBytes #[.agg cs.toArray, .int .i64 most] w fun r w' => ∃ ds v, r = .tuple #[.agg ds.toArray, v] ∧ Sl w' v (rB most s).2.length 1 (u8s (rB most s).2) ∧ (∀ k, v.ownBlock = some k → w.heap.size ≤ k) ∧ RdV B w' ds (rB most s).1 ∧ Ext w w' := by
  have hn2 : ∀ k, (Value.slice none 0 0).ownBlock = some k → w.heap.size ≤ k := fun k hk => by simp [Value.ownBlock] at hk
  refine C.isthmusref02_ReadBytes ?_
  unfold F.isthmusref02_ReadBytes
  refine st_box rfl fun g w1 hb1 hu1 hg1 => ?_
  refine st_new (n := 2) (by kernel_rfl) fun g2 w2 zs hz2 hb2 hu2 hg2 => ?_
  have hb1' := hb1.ext hu2
  have hlt := hb1.lt
  have hu02 : Ext w w2 := hu1.ext hu2
  have hg02 : w.heap.size ≤ g2 := Nat.le_trans hu1.size hg2
  have hB2 : ∀ k, B k → k < w2.heap.size := fun k hk => Nat.lt_of_lt_of_le (hBw k hk) hu02.size
  repeat (first
    | (refine st1 fun k' hk => ?_; simp [go_sem, thenR_ok, bin]; refine hk _ _ ?_; clear hk k')
    | (with_reducible refine mv.mk ?_) | (with_reducible refine nk_p ?_) | (with_reducible refine gd_u ?_) | (with_reducible refine gd_ft ?_) | (with_reducible refine gd_tf ?_) | (with_reducible refine gd_i ?_) | (with_reducible refine pk_t ?_) | (with_reducible refine pk_f ?_) | (with_reducible refine br_t ?_) | (with_reducible refine br_f ?_))
  rw [show decide ((most : Int) < 0) = false by simp]
  refine br_f (load_blk (by kernel_rfl) hb1' h.len ?_)
  refine (isthmusref02_ReadUint (h.ext hu02) (most := all64) (by decide) hB2).mono fun r w3 ⟨ds, e, hR, hu3⟩ => ?_
  subst e
  have hu03 := hu02.ext hu3
  refine mv.mk ?_
  refine st1 fun k' hk => ?_; simp [go_sem, thenR_ok, bin]; refine hk _ _ ?_; clear hk k'
  refine st1 fun k' hk => ?_; simp [go_sem, thenR_ok, bin]; refine hk _ _ ?_; clear hk k'
  refine st_var (by kernel_rfl) hR.len hR.one fun g4 w4 hb4 hu4 hg4 => ?_
  have hu04 := hu03.ext hu4
  have hb14 := hb1'.ext (hu3.ext hu4)
  have hb24 := hb2.ext (hu3.ext hu4)
  have hR4 := hR.ext hu4
  refine mv.mk ?_
  unfold rB
  have hn64 := rU_lt (most := all64) (s := s)
  have hdead : ∀ (e : Int) (w4 : World), e ≠ 0 → I64 e → Ext w w4 → Blk w4 g2 T.isthmusref02_Reader zs → C Tryz.prog N.isthmusref02_fail #[.agg cs.toArray, .int .i64 e] w4 fun t35 w' =>
      o0 Tryz.prog (Instr.storeAt T.isthmusref02_Reader (.pointer (some ⟨g2, 0, none⟩)) t35) w' fun _ w' => mv (.slice none 0 0) fun t => rc Tryz.prog T.isthmusref02_Reader (.pointer (some ⟨g2, 0, none⟩)) w' fun r0 =>
      ∃ ds v, (.tuple #[r0, t] : Value) = .tuple #[.agg ds.toArray, v] ∧ Sl w' v ([] : Bytes).length 1 (u8s []) ∧ (∀ k, v.ownBlock = some k → w.heap.size ≤ k) ∧ RdV B w' ds none ∧ Ext w w' := by
    intro e w4 he hi hu4 hb4
    refine (isthmusref02_fail (h.ext hu4) he hi).mono fun r w5 ⟨ds, e, hR, hu5⟩ => ?_
    subst e
    refine ret_rdn (K := fun r0 t w' => ∃ ds v, (.tuple #[r0, t] : Value) = .tuple #[.agg ds.toArray, v] ∧ Sl w' v ([] : Bytes).length 1 (u8s []) ∧ (∀ k, v.ownBlock = some k → w.heap.size ≤ k) ∧ RdV B w' ds none ∧ Ext w w') hR (hb4.ext hu5) hz2 (fun q => by have := hBw _ q; omega) fun w6 hR6 hu6 => ?_
    exact ⟨_, _, rfl, Sl.nil 1, hn2, hR6, ext_put (hu4.ext hu5) hu6 hg02⟩
  cases hd : rU all64 s with
  | mk s' n =>
  rw [hd] at hR4 hn64
  simp only [] at hn64 hR4
  cases s' with
  | none =>
    obtain ⟨sv, e, rfl, he, hi⟩ := hR4.dead
    refine rrd.g1 hb4 ?_
    refine st1 fun k' hk => ?_; simp [go_sem, thenR_ok, bin]; refine hk _ _ ?_; clear hk k'
    rw [show (e != 0) = true by simp [he]]
    refine mv.mk (br_t (load_blk (by kernel_rfl) hb14 h.len (rrd.g1 hb4 ?_)))
    exact hdead e w4 he hi hu04 hb24
  | some r1 =>
    obtain ⟨A, c, rfl, hsb, hl1⟩ := hR4.slice
    refine rrd.g1 hb4 ?_
    have hc4 := hb4.cell 0
    simp only [rrdC, List.getElem?_cons_succ, List.getElem?_cons_zero] at hc4
    refine st1 fun k' hk => ?_; simp [go_sem, thenR_ok, bin]; refine hk _ _ ?_; clear hk k'
    refine mv.mk (br_f ?_)
    repeat (first
      | (refine st1 fun k' hk => ?_; simp [go_sem, thenR_ok, bin]; refine hk _ _ ?_; clear hk k')
      | (with_reducible refine mv.mk ?_) | (with_reducible refine nk_p ?_) | (with_reducible refine gd_u ?_) | (with_reducible refine gd_ft ?_) | (with_reducible refine gd_tf ?_) | (with_reducible refine gd_i ?_) | (with_reducible refine pk_t ?_) | (with_reducible refine pk_f ?_) | (with_reducible refine br_t ?_) | (with_reducible refine br_f ?_))
    rw [u64_wrap, show (most : Int) % 18446744073709551616 = (most : Int) by omega]
    refine br_split (fun hb => ?_) (fun hb => ?_)
    · have hlt : most < n := by have := of_decide_eq_true hb; omega
      simp only [if_pos (Or.inl hlt : most < n ∨ r1.length < n)]
      exact load_blk (by kernel_rfl) hb14 h.len (hdead 2 w4 (by decide) (by decide) hu04 hb24)
    · have hlt : ¬ most < n := by have := of_decide_eq_false hb; omega
      repeat (first
        | (refine st1 fun k' hk => ?_; simp [go_sem, thenR_ok, bin, hc4]; refine hk _ _ ?_; clear hk k')
        | (with_reducible refine mv.mk ?_) | (with_reducible refine nk_p ?_) | (with_reducible refine gd_u ?_) | (with_reducible refine gd_ft ?_) | (with_reducible refine gd_tf ?_) | (with_reducible refine gd_i ?_) | (with_reducible refine pk_t ?_) | (with_reducible refine pk_f ?_) | (with_reducible refine br_t ?_) | (with_reducible refine br_f ?_))
      rw [u64_wrap, show (r1.length : Int) % 18446744073709551616 = (r1.length : Int) by omega]
      refine br_split (fun hb => ?_) (fun hb => ?_)
      · have hlt2 : r1.length < n := by have := of_decide_eq_true hb; omega
        simp only [if_pos (Or.inr hlt2 : most < n ∨ r1.length < n)]
        exact load_blk (by kernel_rfl) hb14 h.len (hdead 12 w4 (by decide) (by decide) hu04 hb24)
      · have hlt2 : ¬ r1.length < n := by have := of_decide_eq_false hb; omega
        simp only [if_neg (by omega : ¬ (most < n ∨ r1.length < n))]
        refine mv.mk (mv.mk (rrd.g0 hb4 (mv.mk ?_)))
        obtain ⟨v', hrun, hs', hbl⟩ := sl_to tBytes hsb.1 n (by omega) .u64
        refine st_of (hrun _) ?_
        rw [Nat.mul_one, u8s_take] at hs'
        refine st_app (B := w4.heap.size) tBytes own_nil hs' (u8s_one _) (by omega) (by omega) (Nat.le_refl _) fun v2 w5 ho5 hu5 _ => ?_
        have hu5' : Ext w4 w5 := hu5.mono fun k _ hs => by simp [Value.ownBlock] at hs
        have hb45 := hb4.ext hu5'
        have hu05 := hu04.ext hu5'
        refine mv.mk (rrd.g0 hb45 (mv.mk ?_))
        obtain ⟨v3, hrun3, hs3, hbl3⟩ := sl_from tBytes (hsb.ext hu5').1 n (by omega) .u64
        refine st_of (hrun3 _) ?_
        rw [Nat.mul_one, u8s_drop] at hs3
        refine st_field (off := 0) (by kernel_rfl) (by kernel_rfl) (sl_cells hs3) hb45 (by simp [rrdC]) fun w6 hb6 hu6 => ?_
        refine load_blk (by kernel_rfl) hb6 rfl (mv.mk ?_)
        have hg04 : w.heap.size ≤ g4 := Nat.le_trans hu03.size hg4
        have hu06 : Ext w w6 := ext_put hu05 hu6 hg04
        have hsB : SlS B w5 v3 (r1.drop n).length 1 (u8s (r1.drop n)) := by
          refine ⟨by rw [List.length_drop]; exact hs3, fun hn k hk => hsb.2 ?_ k (hbl3 ▸ hk)⟩
          rw [List.length_drop] at hn; omega
        have hR6 : RdV B w6 (rrdC v3 (.int .i64 0)) (some (r1.drop n)) := RdV.mk (hsB.keep hu6 fun k hk e => by have := hBw k hk; omega) (by rw [List.length_drop]; omega)
        have hlt4 := hb4.lt
        have hltn := hb24.lt
        refine ret_rdn hR6 ((hb24.ext hu5').keep hu6 ?_) hz2 (fun q => by have := hBw _ q; omega) fun w7 hR7 hu7 => ?_
        · intro e; have := hb2.lt; have := hu3.size; omega
        have hv2 : Sl w7 v2 n 1 (u8s (r1.take n)) := by
          have := ((Sl.of_own ho5).keep hu6 fun k hk e => by have := own_ge ho5 hk; omega).keep hu7 fun k hk e => by have := own_ge ho5 hk; omega
          rw [Nat.zero_add, List.nil_append] at this; exact this
        refine ⟨_, _, rfl, ?_, fun k hk => ?_, hR7, ext_put hu06 hu7 hg02⟩
        · rw [show (r1.take n).length = n by rw [List.length_take]; omega]; exact hv2
        · exact Nat.le_trans hu04.size (own_ge ho5 hk)
theorem isthmusref02_ReadHash {B : Nat → Prop} {w : World} {cs : List Value} {s : Rdr} (h : RdV B w cs s) (hBw : ∀ k, B k → k < w.heap.size) :
    C Tryz.prog N.isthmusref02_ReadHash #[.agg cs.toArray] w fun r w' => ∃ ds, r = .tuple #[.agg ds.toArray, .agg (u8s (rH s).2).toArray] ∧ RdV B w' ds (rH s).1 ∧ Ext w w' := by
  refine C.isthmusref02_ReadHash ?_
  unfold F.isthmusref02_ReadHash
  refine st_box rfl fun g1 w1 hb1 hu1 hg1 => ?_
  refine st_new (n := 2) (by kernel_rfl) fun g2 w2 zs hz2 hb2 hu2 hg2 => ?_
  refine st_new (n := 32) (by kernel_rfl) fun g3 w3 ys hz3 hb3 hu3 hg3 => ?_
  refine st_alloc (cs := u8s zero32) (zeroT_of (by kernel_rfl)) fun g4 w4 hb4 hu4 hg4 => ?_
  have l1 := hb1.lt
  have l2 := hb2.lt
  have l3 := hb3.lt
  have l4 := hb4.lt
  have z1 := hu1.size
  have z2 := hu2.size
  have z3 := hu3.size
  have z4 := hu4.size
  have c1 := ((hb1.ext hu2).ext hu3).ext hu4
  have c2 := (hb2.ext hu3).ext hu4
  have c3 := hb3.ext hu4
  have hu04 : Ext w w4 := ((hu1.ext hu2).ext hu3).ext hu4
  have hzl : (u8s zero32).length = 32 := by simp [u8s, zero32]
  -- the end of each road
  have hend : ∀ (w5 : World) (ds : List Value) (hs : List Value) (s' : Rdr), RdV B w5 ds s' → hs.length = 32 → (∀ u ∈ hs, u.oneCell' = true) → Ext w w5 → Blk w5 g2 T.isthmusref02_Reader zs → Blk w5 g3 T.api_Hash ys →
      ∀ (S : World → Prop), (∀ w', Upd (fun k => k = g2 ∨ k = g3) w5 w' → S w') → ∀ (k : Value → World → Prop), (∀ w', RdV B w' ds s' → Ext w w' → k (.tuple #[.agg ds.toArray, .agg hs.toArray]) w') →
      o0 Tryz.prog (Instr.storeAt T.isthmusref02_Reader (.pointer (some ⟨g2, 0, none⟩)) (.agg ds.toArray)) w5 fun _ w' => S w' ∧
      o0 Tryz.prog (Instr.storeAt T.api_Hash (.pointer (some ⟨g3, 0, none⟩)) (.agg hs.toArray)) w' fun _ w' =>
      rc Tryz.prog T.isthmusref02_Reader (.pointer (some ⟨g2, 0, none⟩)) w' fun r0 => rc Tryz.prog T.api_Hash (.pointer (some ⟨g3, 0, none⟩)) w' fun r1 => k (.tuple #[r0, r1]) w' := by
    intro w5 ds hs s' hR hl h1 hu5 d2 d3 S hS k hk
    refine st_all (by kernel_rfl) d2 hz2 hR.len hR.one fun w6 e2 hu6 => ⟨hS w6 (hu6.mono fun _ _ h => .inl h), ?_⟩
    refine st_all (by kernel_rfl) (d3.keep hu6 (by omega)) hz3 hl h1 fun w7 e3 hu7 => ?_
    · refine rc_blk (by kernel_rfl) (e2.keep hu7 (by omega)) hR.len (rc_blk (by kernel_rfl) e3 hl ?_)
      exact hk w7 ((hR.keep hu6 fun k hk e => by have := hBw k hk; omega).keep hu7 fun k hk e => by have := hBw k hk; omega) (ext_put (ext_put hu5 hu6 (by omega)) hu7 (by omega))
  cases s with
  | none =>
    obtain ⟨sv, e, rfl, he, hi⟩ := h.dead
    refine rrd.g1 c1 ?_
    refine st1 fun k' hk => ?_; simp [go_sem, thenR_ok, bin]; refine hk _ _ ?_; clear hk k'
    rw [show (e != 0) = true by simp [he]]
    refine br_t ?_
    refine dr_by (fun w' => Blk w' g1 T.isthmusref02_Reader (rrdC sv (.int .i64 e)) ∧ Blk w' g4 T.api_Hash (u8s zero32)) ⟨c1.ext upd_drew, hb4.ext upd_drew⟩ ?_
    refine tk_blk (by kernel_rfl) (fun _ h => h.1) rfl (tk_blk (by kernel_rfl) (fun _ h => h.2) hzl ?_)
    refine hend w4.drew _ _ none (h.ext hu04.drew) hzl (u8s_one _) hu04.drew (c2.ext upd_drew) (c3.ext upd_drew) (fun w' => Blk w' g1 T.isthmusref02_Reader (rrdC sv (.int .i64 e)) ∧ Blk w' g4 T.api_Hash (u8s zero32)) (fun w' hu => ⟨(c1.ext upd_drew).keep hu (by omega), (hb4.ext upd_drew).keep hu (by omega)⟩) (fun r w' => ∃ ds, r = .tuple #[.agg ds.toArray, .agg (u8s (rH none).2).toArray] ∧ RdV B w' ds (rH none).1 ∧ Ext w w') fun w' hR hu => ?_
    exact ⟨_, rfl, hR, hu⟩
  | some b =>
    obtain ⟨A, c, rfl, hsb, hl1⟩ := h.slice
    refine rrd.g1 c1 ?_
    have hc := c1.cell 0
    simp only [rrdC, List.getElem?_cons_succ, List.getElem?_cons_zero] at hc
    refine st1 fun k' hk => ?_; simp [go_sem, thenR_ok, bin]; refine hk _ _ ?_; clear hk k'
    refine br_f ?_
    repeat (first
      | (refine st1 fun k' hk => ?_; simp [go_sem, thenR_ok, bin, hc]; refine hk _ _ ?_; clear hk k'))
    refine br_split (fun hb => ?_) (fun hb => ?_)
    · have hlt : b.length < 32 := by have := of_decide_eq_true hb; omega
      refine dr_by (fun w' => Blk w' g1 T.isthmusref02_Reader (rrdC (.slice A b.length c) (.int .i64 0)) ∧ Blk w' g4 T.api_Hash (u8s zero32)) ⟨c1.ext upd_drew, hb4.ext upd_drew⟩ ?_
      refine tk_blk (by kernel_rfl) (fun _ h => h.1) rfl (tk_blk (by kernel_rfl) (fun _ h => h.2) hzl ?_)
      refine (isthmusref02_fail (h.ext hu04.drew) (e := 12) (by decide) (by decide)).mono fun r w5 ⟨ds, e, hR5, hu5⟩ => ?_
      subst e
      refine ⟨⟨(c1.ext upd_drew).ext hu5, (hb4.ext upd_drew).ext hu5⟩, ?_⟩
      have hd5 : Ext w4 w5 := Upd.after (upd_drew) hu5
      refine hend w5 _ _ none hR5 hzl (u8s_one _) (hu04.ext hd5) (c2.ext hd5) (c3.ext hd5) (fun w' => Blk w' g1 T.isthmusref02_Reader (rrdC (.slice A b.length c) (.int .i64 0)) ∧ Blk w' g4 T.api_Hash (u8s zero32)) (fun w' hu => ⟨(c1.ext hd5).keep hu (by omega), (hb4.ext hd5).keep hu (by omega)⟩) (fun r w' => ∃ ds, r = .tuple #[.agg ds.toArray, .agg (u8s (rH (some b)).2).toArray] ∧ RdV B w' ds (rH (some b)).1 ∧ Ext w w') fun w' hR hu => ?_
      have e : rH (some b) = (none, zero32) := by simp [rH, rT, hlt]
      rw [e]
      exact ⟨_, rfl, hR, hu⟩
    · have hlt : ¬ b.length < 32 := by have := of_decide_eq_false hb; omega
      refine dr_by (fun w' => Blk w' g1 T.isthmusref02_Reader (rrdC (.slice A b.length c) (.int .i64 0)) ∧ ∃ ds, ds.length = 32 ∧ Blk w' g4 T.api_Hash ds) ⟨c1.ext upd_drew, _, hzl, hb4.ext upd_drew⟩ ?_
      refine tk_of (.slice (some ⟨g4, 0, none⟩) 32 32) (fun w _ => by simp [go_sem]) ?_
      refine rrd.t0 (fun _ h => h.1) ?_
      refine st_copy tBytes (hb4.ext upd_drew) (hsb.ext hu04.drew).1 (u8s_one _) (by omega) fun w5 d4 hu5 => ?_
      have hcell : (u8s zero32).take 0 ++ (u8s b).take 32 ++ (u8s zero32).drop (0 + min b.length 32) = u8s (b.take 32) := by
        rw [List.take_zero, List.nil_append, u8s_take, List.drop_of_length_le (by omega), List.append_nil]
      rw [hcell] at d4
      have hl32 : (u8s (b.take 32)).length = 32 := by rw [u8s_length, List.length_take]; omega
      have hu45 : Upd (fun k => k = g4) w4 w5 := Upd.after upd_drew hu5
      have hu05 : Ext w w5 := ext_put hu04 hu45 (by omega)
      have c15 := c1.keep hu45 (by omega)
      refine rrd.g0 c15 ?_
      obtain ⟨v3, hrun3, hs3, hbl3⟩ := sl_from tBytes (hsb.ext hu05).1 32 (by omega) .i64
      refine st_of (hrun3 _) ?_
      rw [Nat.mul_one, u8s_drop] at hs3
      refine st_field (off := 0) (by kernel_rfl) (by kernel_rfl) (sl_cells hs3) c15 (by simp [rrdC]) fun w6 d1 hu6 => ?_
      have hu06 : Ext w w6 := ext_put hu05 hu6 (by omega)
      have hsB : SlS B w5 v3 (b.drop 32).length 1 (u8s (b.drop 32)) := by
        refine ⟨by rw [List.length_drop]; exact hs3, fun hn k hk => hsb.2 ?_ k (hbl3 ▸ hk)⟩
        rw [List.length_drop] at hn; omega
      have hR6 : RdV B w6.drew (rrdC v3 (.int .i64 0)) (some (b.drop 32)) := RdV.mk ((hsB.keep hu6 fun k hk e => by have := hBw k hk; omega).ext upd_drew) (by rw [List.length_drop]; omega)
      have d46 := (d4.keep hu6 (by omega)).ext (upd_drew (S := fun _ => False))
      have d16 : Blk w6.drew g1 T.isthmusref02_Reader (rrdC v3 (.int .i64 0)) := d1.ext upd_drew
      refine dr_by (fun w' => Blk w' g1 T.isthmusref02_Reader (rrdC v3 (.int .i64 0)) ∧ Blk w' g4 T.api_Hash (u8s (b.take 32))) ⟨d16, d46⟩ ?_
      refine tk_blk (by kernel_rfl) (fun _ h => h.1) rfl (tk_blk (by kernel_rfl) (fun _ h => h.2) hl32 ?_)
      refine hend w6.drew _ _ _ hR6 hl32 (u8s_one _) hu06.drew (((c2.keep hu45 (by omega)).keep hu6 (by omega)).ext upd_drew) (((c3.keep hu45 (by omega)).keep hu6 (by omega)).ext upd_drew) (fun w' => Blk w' g1 T.isthmusref02_Reader (rrdC v3 (.int .i64 0)) ∧ Blk w' g4 T.api_Hash (u8s (b.take 32))) (fun w' hu => ⟨d16.keep hu (by omega), d46.keep hu (by omega)⟩) (fun r w' => ∃ ds, r = .tuple #[.agg ds.toArray, .agg (u8s (rH (some b)).2).toArray] ∧ RdV B w' ds (rH (some b)).1 ∧ Ext w w') fun w' hR hu => ?_
      have e : rH (some b) = (some (b.drop 32), b.take 32) := by simp [rH, rT, hlt]
      rw [e]
      exact ⟨_, rfl, hR, hu⟩
end Go.Proofs.YtbbmgkbinnomgaaGreatDoor
