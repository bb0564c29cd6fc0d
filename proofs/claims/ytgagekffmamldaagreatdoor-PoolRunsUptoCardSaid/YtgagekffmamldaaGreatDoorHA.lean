/- The pool that is nil, New that refuses, and the law's own comparisons. -/
import Derived.Test.YtgagekffmamldaaGreatDoorH7
import Derived.Test.YtgagekffmamldaaGreatDoorPJ
set_option linter.unusedVariables false
set_option linter.unusedSimpArgs false
set_option linter.unusedSectionVars false
namespace Go.Proofs.YtgagekffmamldaaGreatDoor
open Go Go.Isk Go.RowKit
set_option maxRecDepth 20000
section
variable {b : Base} {w : World} {L R : List It} {g g3 g8 : Nat} {v sv lv kv bv cv e av fv tv : Value} {h bts : Bytes} {xs : List Bytes} {t y c m1 m2 fee : Int}
theorem nil_Len (hs : Isk.Sep b w L) : C Tryz.prog N.pool_Pool_Len #[.pointer none] w fun r w' => r = .int .i64 0 ∧ Isk.Sep b w' L := by
  refine C.pool_Pool_Len ?_
  unfold F.pool_Pool_Len
  repeat (first
   | (with_reducible (first | refine st_lens ?_ | refine st_eqls ?_ | refine mv.mk ?_ | refine nk_p ?_ | refine br_t ?_ | refine br_f ?_))
   | (with_reducible ((first | apply st_bin | apply st_len); intro k' hk; simp [go_sem, thenR_ok, bin]; refine hk _ _ ?_; clear hk k')))
  exact ⟨rfl, hs⟩
theorem nil_Bytes (hs : Isk.Sep b w L) : C Tryz.prog N.pool_Pool_Bytes #[.pointer none] w fun r w' => r = .int .i64 0 ∧ Isk.Sep b w' L := by
  refine C.pool_Pool_Bytes ?_
  unfold F.pool_Pool_Bytes
  repeat (first
   | (with_reducible (first | refine st_eqls ?_ | refine mv.mk ?_ | refine nk_p ?_ | refine br_t ?_ | refine br_f ?_))
   | (with_reducible ((first | apply st_bin); intro k' hk; simp [go_sem, thenR_ok, bin]; refine hk _ _ ?_; clear hk k')))
  exact ⟨rfl, hs⟩
theorem nil_Done (hs : Isk.Sep b w L) : C Tryz.prog N.pool_Pool_Done #[.pointer none, v] w fun r w' => r = .tuple #[] ∧ Isk.Sep b w' L := by
  refine C.pool_Pool_Done ?_
  unfold F.pool_Pool_Done
  repeat (first
   | (with_reducible (first | refine st_lens ?_ | refine st_eqls ?_ | refine mv.mk ?_ | refine br_t ?_ | refine br_f ?_))
   | (with_reducible ((first | apply st_bin | apply st_len); intro k' hk; simp [go_sem, thenR_ok, bin]; refine hk _ _ ?_; clear hk k'))
   | ((with_reducible apply sp_newr hs); (· kernel_rfl); intro g w hs))
  exact ⟨rfl, hs⟩
theorem nil_Take (hs : Isk.Sep b w L) : C Tryz.prog N.pool_Pool_Take #[.pointer none, av, bv] w fun r w' => r = .slice none 0 0 ∧ Isk.Sep b w' L := by
  refine C.pool_Pool_Take ?_
  unfold F.pool_Pool_Take
  repeat (first
   | (with_reducible (first | refine st_lens ?_ | refine st_eqls ?_ | refine mv.mk ?_ | refine nk_p ?_ | refine gd_u ?_ | refine gd_ft ?_ | refine gd_tf ?_ | refine gd_i ?_ | refine pk_t ?_ | refine pk_f ?_ | refine br_t ?_ | refine br_f ?_))
   | (with_reducible ((first | apply st_bin | apply st_len); intro k' hk; simp [go_sem, thenR_ok, bin]; refine hk _ _ ?_; clear hk k'))
   | ((with_reducible apply sp_newr hs); (· kernel_rfl); intro g w hs))
  exact ⟨rfl, hs⟩
theorem nil_Has (hs : Isk.Sep b w L) (hh : h.length = 32) : C Tryz.prog N.pool_Pool_Has #[.pointer none, .agg (u8s h).toArray] w fun r w' => r = .bool false ∧ Isk.Sep b w' L := by
  refine C.pool_Pool_Has ?_
  unfold F.pool_Pool_Has
  refine sp_boxa hs fun g3 w hs => ?_
  repeat (first
   | (with_reducible (first | refine st_nels ?_ | refine mv.mk ?_ | refine nk_p ?_ | refine gd_u ?_ | refine gd_ft ?_ | refine gd_tf ?_ | refine gd_i ?_ | refine pk_t ?_ | refine pk_f ?_ | refine sp_boxa hs fun g w hs => ?_))
   | (with_reducible ((first | apply st_bin | apply st_mkf); intro k' hk; simp [go_sem, thenR_ok, bin]; refine hk _ _ ?_; clear hk k')))
  exact ⟨rfl, hs.drop .hd⟩
theorem nil_Knows (hs : Isk.Sep b w L) (hh : h.length = 32) : C Tryz.prog N.pool_Pool_Knows #[.pointer none, .agg (u8s h).toArray] w fun r w' => r = .bool false ∧ Isk.Sep b w' L := by
  refine C.pool_Pool_Knows ?_
  unfold F.pool_Pool_Knows
  refine sp_boxa hs fun g3 w hs => ?_
  repeat with_reducible refine mv.mk ?_
  replace hs := hs.drew
  refine dr_can (R := [blkI g3 T.api_Hash (u8s h)]) hs (.cons .hd .nil) ?_
  have hS : ∀ w, Mayr [blkI g3 T.api_Hash (u8s h)] w → Mayr [blkI g3 T.api_Hash (u8s h)] w := fun _ h => h
  repeat with_reducible refine mv.mk ?_
  refine tk_ldn hid .blk (by kernel_rfl) (by rw [u8s_length, hh]) ?_
  refine cl (nil_Has hs hh) ?_
  rintro _ w ⟨rfl, hs⟩
  refine ⟨hs.mayr (.cons .hd .nil), ?_⟩
  repeat (first
   | (with_reducible (first | refine st_nels ?_ | refine tk_nels ?_ | refine mv.mk ?_ | refine nk_p ?_ | refine gdT_i ?_ | refine gdT_ft ?_ | refine gdT_tf ?_ | refine gdT_u ?_ | refine gd_u ?_ | refine gd_ft ?_ | refine gd_tf ?_ | refine gd_i ?_ | refine pk_t ?_ | refine pk_f ?_ | refine sp_boxa hs fun g w hs => ?_))
   | (with_reducible ((first | apply st_bin); intro k' hk; simp [go_sem, thenR_ok, bin]; refine hk _ _ ?_; clear hk k'))
   | ((with_reducible (first | apply tk_bin)); (· intro w; simp [go_sem, bin]; rfl)))
  refine nS_can (R := [blkI g3 T.api_Hash (u8s h)]) hs (.cons .hd .nil) .all ?_
  repeat (first
   | (with_reducible (first | refine st_nels ?_ | refine tk_nels ?_ | refine mv.mk ?_ | refine nk_p ?_ | refine gdT_i ?_ | refine gdT_ft ?_ | refine gdT_tf ?_ | refine gdT_u ?_ | refine gd_u ?_ | refine gd_ft ?_ | refine gd_tf ?_ | refine gd_i ?_ | refine pk_t ?_ | refine pk_f ?_ | refine sp_boxa hs fun g w hs => ?_))
   | (with_reducible ((first | apply st_bin); intro k' hk; simp [go_sem, thenR_ok, bin]; refine hk _ _ ?_; clear hk k'))
   | ((with_reducible (first | apply tk_bin)); (· intro w; simp [go_sem, bin]; rfl)))
  refine ⟨hs.mayr (.cons .hd .nil), ?_⟩
  repeat (first
   | (with_reducible (first | refine st_nels ?_ | refine tk_nels ?_ | refine mv.mk ?_ | refine nk_p ?_ | refine gdT_i ?_ | refine gdT_ft ?_ | refine gdT_tf ?_ | refine gdT_u ?_ | refine gd_u ?_ | refine gd_ft ?_ | refine gd_tf ?_ | refine gd_i ?_ | refine pk_t ?_ | refine pk_f ?_ | refine sp_boxa hs fun g w hs => ?_))
   | (with_reducible ((first | apply st_bin); intro k' hk; simp [go_sem, thenR_ok, bin]; refine hk _ _ ?_; clear hk k'))
   | ((with_reducible (first | apply tk_bin)); (· intro w; simp [go_sem, bin]; rfl)))
  exact ⟨rfl, hs.drop .hd⟩
theorem nil_Drop (hs : Isk.Sep b w L) (hh : h.length = 32) : C Tryz.prog N.pool_Pool_Drop #[.pointer none, .agg (u8s h).toArray] w fun r w' => Isk.Sep b w' ((errF r 1).it :: L) := by
  refine C.pool_Pool_Drop ?_
  unfold F.pool_Pool_Drop
  refine sp_boxa hs fun g3 w hs => ?_
  repeat (first
   | (with_reducible (first | refine st_eqls ?_ | refine mv.mk ?_ | refine br_t ?_ | refine br_f ?_ | refine sp_boxa hs fun g w hs => ?_))
   | (with_reducible ((first | apply st_bin | apply st_un); intro k' hk; simp [go_sem, thenR_ok, bin]; refine hk _ _ ?_; clear hk k')))
  refine cl (pool_fault (e := 1) (by decide) (by decide) (by decide) (by decide) hs) ?_
  rintro e w hs
  repeat with_reducible refine mv.mk ?_
  exact hs.sbl (.cons .hd (.drop .all))
theorem nil_Add (hs : Isk.Sep b w L) : C Tryz.prog N.pool_Pool_Add #[.pointer none, bv, fv] w fun r w' => ∃ gv e, r = .tuple #[gv, e] ∧ Isk.Sep b w' ((errF e 1).it :: L) := by
  refine C.pool_Pool_Add ?_
  unfold F.pool_Pool_Add
  repeat (first
   | (with_reducible (first | refine st_lens ?_ | refine st_eqls ?_ | refine mv.mk ?_ | refine nk_p ?_ | refine gdT_i ?_ | refine gdT_ft ?_ | refine gdT_tf ?_ | refine gdT_u ?_ | refine gd_u ?_ | refine gd_ft ?_ | refine gd_tf ?_ | refine gd_i ?_ | refine pk_t ?_ | refine pk_f ?_ | refine br_t ?_ | refine br_f ?_))
   | (with_reducible ((first | apply st_bin | apply st_len); intro k' hk; simp [go_sem, thenR_ok, bin]; refine hk _ _ ?_; clear hk k'))
   | ((with_reducible (first | apply tk_bin | apply tk_len)); (· intro w; simp [go_sem, bin]; rfl))
   | ((with_reducible apply sp_newr hs); (· kernel_rfl); intro g w hs))
  refine cl (pool_fault (e := 1) (by decide) (by decide) (by decide) (by decide) hs) ?_
  rintro e w hs
  repeat with_reducible refine mv.mk ?_
  exact ⟨_, e, rfl, hs⟩
theorem pool_New_bad (hbad : t < 1 ∨ 1048576 < t ∨ y < 1 ∨ 1048576 < y ∨ c < 0 ∨ 1048576 < c) (hs : Isk.Sep b w L) :
    C Tryz.prog N.pool_New #[.int .i64 t, .int .i64 y, .int .i64 c] w fun r w' => ∃ e, r = .tuple #[.pointer none, e] ∧ Isk.Sep b w' ((errF e 1).it :: L) := by
  have fin : ∀ {w : World}, Isk.Sep b w L → C Tryz.prog N.pool_fault #[.string ⟨#[112, 111, 111, 108]⟩, .int .i64 1] w fun t25 w =>
      mv (.pointer none) fun t6_1 => mv t25 fun t7_1 => ∃ e, (.tuple #[t6_1, t7_1] : Value) = .tuple #[.pointer none, e] ∧ Isk.Sep b w ((errF e 1).it :: L) := fun hs => by
    refine cl (pool_fault (e := 1) (by decide) (by decide) (by decide) (by decide) hs) ?_
    rintro e w hs
    repeat with_reducible refine mv.mk ?_
    exact ⟨e, rfl, hs⟩
  refine C.pool_New ?_
  unfold F.pool_New
  repeat with_reducible refine mv.mk ?_
  refine cv_f (by kernel_rfl) ?_
  refine cl pool_New_1 ?_
  rintro _ _ ⟨rfl, rfl⟩
  by_cases d1 : t < 1 ∨ 1048576 < t
  · rw [show (decide (t < 1) || decide (1048576 < t)) = true by simpa using d1]
    repeat (first
     | (with_reducible (first | refine mv.mk ?_ | refine gd_u ?_ | refine gd_ft ?_ | refine gd_tf ?_ | refine gd_i ?_ | refine pk_t ?_ | refine pk_f ?_ | refine br_t ?_ | refine br_f ?_ | refine sp_boxa hs fun g w hs => ?_))
     | (with_reducible ((first | apply st_bin); intro k' hk; simp [go_sem, thenR_ok, bin]; refine hk _ _ ?_; clear hk k')))
    exact fin hs
  rw [show (decide (t < 1) || decide (1048576 < t)) = false by simp; omega]
  repeat (first
   | (with_reducible (first | refine mv.mk ?_ | refine gd_u ?_ | refine gd_ft ?_ | refine gd_tf ?_ | refine gd_i ?_ | refine pk_t ?_ | refine pk_f ?_ | refine br_t ?_ | refine br_f ?_ | refine sp_boxa hs fun g w hs => ?_))
   | (with_reducible ((first | apply st_bin); intro k' hk; simp [go_sem, thenR_ok, bin]; refine hk _ _ ?_; clear hk k')))
  refine cv_f (by kernel_rfl) ?_
  refine cl pool_New_1 ?_
  rintro _ _ ⟨rfl, rfl⟩
  by_cases d2 : y < 1 ∨ 1048576 < y
  · rw [show (decide (y < 1) || decide (1048576 < y)) = true by simpa using d2]
    repeat (first
     | (with_reducible (first | refine mv.mk ?_ | refine gd_u ?_ | refine gd_ft ?_ | refine gd_tf ?_ | refine gd_i ?_ | refine pk_t ?_ | refine pk_f ?_ | refine br_t ?_ | refine br_f ?_ | refine sp_boxa hs fun g w hs => ?_))
     | (with_reducible ((first | apply st_bin); intro k' hk; simp [go_sem, thenR_ok, bin]; refine hk _ _ ?_; clear hk k')))
    exact fin hs
  rw [show (decide (y < 1) || decide (1048576 < y)) = false by simp; omega]
  repeat (first
   | (with_reducible (first | refine mv.mk ?_ | refine gd_u ?_ | refine gd_ft ?_ | refine gd_tf ?_ | refine gd_i ?_ | refine pk_t ?_ | refine pk_f ?_ | refine br_t ?_ | refine br_f ?_ | refine sp_boxa hs fun g w hs => ?_))
   | (with_reducible ((first | apply st_bin); intro k' hk; simp [go_sem, thenR_ok, bin]; refine hk _ _ ?_; clear hk k')))
  by_cases d3 : c < 0
  · rw [decide_eq_true d3]
    repeat (first
     | (with_reducible (first | refine mv.mk ?_ | refine gd_u ?_ | refine gd_ft ?_ | refine gd_tf ?_ | refine gd_i ?_ | refine pk_t ?_ | refine pk_f ?_ | refine br_t ?_ | refine br_f ?_ | refine sp_boxa hs fun g w hs => ?_))
     | (with_reducible ((first | apply st_bin); intro k' hk; simp [go_sem, thenR_ok, bin]; refine hk _ _ ?_; clear hk k')))
    exact fin hs
  rw [decide_eq_false d3]
  repeat (first
   | (with_reducible (first | refine mv.mk ?_ | refine gd_u ?_ | refine gd_ft ?_ | refine gd_tf ?_ | refine gd_i ?_ | refine pk_t ?_ | refine pk_f ?_ | refine br_t ?_ | refine br_f ?_ | refine sp_boxa hs fun g w hs => ?_))
   | (with_reducible ((first | apply st_bin); intro k' hk; simp [go_sem, thenR_ok, bin]; refine hk _ _ ?_; clear hk k')))
  rw [show decide (1048576 < c) = true by simp; omega]
  repeat (first
   | (with_reducible (first | refine mv.mk ?_ | refine gd_u ?_ | refine gd_ft ?_ | refine gd_tf ?_ | refine gd_i ?_ | refine pk_t ?_ | refine pk_f ?_ | refine br_t ?_ | refine br_f ?_ | refine sp_boxa hs fun g w hs => ?_))
   | (with_reducible ((first | apply st_bin); intro k' hk; simp [go_sem, thenR_ok, bin]; refine hk _ _ ?_; clear hk k')))
  exact fin hs
theorem isthmuslaw18_hashes (ha : Ins L (listF hashF 32 av xs).it) (hb : Ins L (listF hashF 32 bv xs).it) (hn : xs.length ≤ 1000000000) (hs : Isk.Sep b w L) :
    C Tryz.prog N.isthmuslaw18_hashes #[av, bv] w fun r w' => r = .bool true ∧ Isk.Sep b w' L := by
  obtain ⟨A, ca, rfl⟩ := hs.lst_len ha.lst
  obtain ⟨B, cb, rfl⟩ := hs.lst_len hb.lst
  refine C.isthmuslaw18_hashes ?_
  unfold F.isthmuslaw18_hashes
  repeat (first
   | (with_reducible (first | refine st_lens ?_ | refine st_nels ?_ | refine tk_nels ?_ | refine mv.mk ?_ | refine br_t ?_ | refine br_f ?_))
   | (with_reducible ((first | apply st_bin | apply st_len); intro k' hk; simp [go_sem, thenR_ok, bin]; refine hk _ _ ?_; clear hk k'))
   | ((with_reducible (first | apply tk_bin)); (· intro w; simp [go_sem, bin]; rfl)))
  refine lp_by (fun us w' => ∃ (i : Nat), us = [.bool false, .int .i64 (i : Int)] ∧ i ≤ xs.length ∧ Isk.Sep b w' L) (fun us _ => match us with | [_, .int _ m] => xs.length - m.toNat | _ => 0) ⟨0, rfl, Nat.zero_le _, hs⟩ ?_
  clear hs
  rintro x1 w ⟨i, hx1, hi, hs⟩
  simp only [List.cons.injEq, and_true] at hx1
  simp only [hx1.1, hx1.2]
  repeat (first
   | (with_reducible (first | refine st_lens ?_ | refine st_nels ?_ | refine tk_nels ?_ | refine mv.mk ?_ | refine br_t ?_ | refine br_f ?_))
   | (with_reducible ((first | apply st_bin | apply st_len); intro k' hk; simp [go_sem, thenR_ok, bin]; refine hk _ _ ?_; clear hk k'))
   | ((with_reducible (first | apply tk_bin)); (· intro w; simp [go_sem, bin]; rfl)))
  refine br_split (fun hq => ?_) (fun hq => ?_)
  · have hi' : i < xs.length := by have := of_decide_eq_true hq; omega
    obtain ⟨g1, o1, ys, hix, hyl, hs⟩ := hs.el (P := Tryz.prog) (T := T.sl_api_Hash) ha hsT i hi'
    obtain ⟨hy, hkl⟩ : ys = u8s xs[i] ∧ xs[i].length = 32 := hs.get (.tl .hd)
    subst hy
    obtain ⟨g2, o2, zs, hiz, hzl, hs⟩ := hs.el (P := Tryz.prog) (T := T.sl_api_Hash) (.tl (.tl hb)) hsT i hi'
    obtain ⟨hz, _⟩ : zs = u8s xs[i] ∧ xs[i].length = 32 := hs.get (.tl .hd)
    subst hz
    have hmm := hs.drew.mayr .all
    have hS : ∀ w', w' = w.drew → Mayr _ w' := fun w' e => e.symm ▸ hmm
    repeat with_reducible refine mv.mk ?_
    refine tk_run (hix .i64) ?_
    refine tk_ldn hS (.tl (.tl .rng)) (by kernel_rfl) hyl ?_
    repeat with_reducible refine mv.mk ?_
    refine tk_run (hiz .i64) ?_
    refine tk_ldn hS .rng (by kernel_rfl) hzl ?_
    refine tk_run (hash_ne hkl hkl _ _) ?_
    rw [decide_eq_true rfl, Bool.not_true]
    repeat (first
     | (with_reducible (first | refine st_lens ?_ | refine st_nels ?_ | refine tk_nels ?_ | refine mv.mk ?_ | refine br_t ?_ | refine br_f ?_))
     | (with_reducible ((first | apply st_bin | apply st_len); intro k' hk; simp [go_sem, thenR_ok, bin]; refine hk _ _ ?_; clear hk k'))
     | ((with_reducible (first | apply tk_bin)); (· intro w; simp [go_sem, bin]; rfl)))
    rw [i64_succ (by omega)]
    exact ⟨⟨i + 1, rfl, hi', hs.drew.sbl (.drop (.drop (.drop (.drop .all))))⟩, by simp; omega⟩
  · repeat with_reducible refine mv.mk ?_
    exact ⟨rfl, hs⟩
theorem isthmuslaw18_texts (ha : Ins L (listF bytesF 1 av xs).it) (hb : Ins L (listF textF 1 bv xs).it) (hn : xs.length ≤ 1000000000) (hs : Isk.Sep b w L) :
    C Tryz.prog N.isthmuslaw18_texts #[av, bv] w fun r w' => r = .bool true ∧ Isk.Sep b w' L := by
  obtain ⟨A, ca, rfl⟩ := hs.lst_len ha.lst
  obtain ⟨B, cb, rfl⟩ := hs.lst_len hb.lst
  refine C.isthmuslaw18_texts ?_
  unfold F.isthmuslaw18_texts
  repeat (first
   | (with_reducible (first | refine st_lens ?_ | refine st_nels ?_ | refine tk_nels ?_ | refine mv.mk ?_ | refine br_t ?_ | refine br_f ?_))
   | (with_reducible ((first | apply st_bin | apply st_len | apply st_conv); intro k' hk; simp [go_sem, thenR_ok, bin]; refine hk _ _ ?_; clear hk k'))
   | ((with_reducible (first | apply tk_bin)); (· intro w; simp [go_sem, bin]; rfl)))
  refine lp_by (fun us w' => ∃ (i : Nat), us = [.bool false, .int .i64 (i : Int)] ∧ i ≤ xs.length ∧ Isk.Sep b w' L) (fun us _ => match us with | [_, .int _ m] => xs.length - m.toNat | _ => 0) ⟨0, rfl, Nat.zero_le _, hs⟩ ?_
  clear hs
  rintro x1 w ⟨i, hx1, hi, hs⟩
  simp only [List.cons.injEq, and_true] at hx1
  simp only [hx1.1, hx1.2]
  repeat (first
   | (with_reducible (first | refine st_lens ?_ | refine st_nels ?_ | refine tk_nels ?_ | refine mv.mk ?_ | refine br_t ?_ | refine br_f ?_))
   | (with_reducible ((first | apply st_bin | apply st_len | apply st_conv); intro k' hk; simp [go_sem, thenR_ok, bin]; refine hk _ _ ?_; clear hk k'))
   | ((with_reducible (first | apply tk_bin)); (· intro w; simp [go_sem, bin]; rfl)))
  refine br_split (fun hq => ?_) (fun hq => ?_)
  · have hi' : i < xs.length := by have := of_decide_eq_true hq; omega
    obtain ⟨gb, ob, yb, hib, hlb, hs⟩ := hs.el (P := Tryz.prog) (T := T.sl_sl_uint8) ha ssT i hi'
    obtain ⟨bw, hyb, _⟩ := hs.get (Ins.tl Ins.hd)
    subst hyb
    replace hs := hs.ofBytes (v := bw) (t := xs[i]) (.tl .hd)
    obtain ⟨ga, oa, ya, hia, hla, hs⟩ := hs.el (P := Tryz.prog) (T := T.sl_string) (.tl (.tl (.tl hb))) strT8 i hi'
    have hya : ya = [str xs[i]] := hs.get (Ins.tl Ins.hd)
    subst hya
    have hmm := hs.drew.mayr .all
    have hS : ∀ w', w' = w.drew → Mayr _ w' := fun w' e => e.symm ▸ hmm
    repeat with_reducible refine mv.mk ?_
    refine tk_run (hib .i64) ?_
    refine tk_ldx hS (.tl (.tl (.tl .rng))) (by kernel_rfl) ?_
    refine tk_text hS (.tl (.tl .byt)) ?_
    repeat with_reducible refine mv.mk ?_
    refine tk_run (hia .i64) ?_
    refine tk_ldx hS .rng (by kernel_rfl) ?_
    refine tk_run nels_run ?_
    rw [decide_eq_true rfl, Bool.not_true]
    repeat (first
     | (with_reducible (first | refine st_lens ?_ | refine st_nels ?_ | refine tk_nels ?_ | refine mv.mk ?_ | refine br_t ?_ | refine br_f ?_))
     | (with_reducible ((first | apply st_bin | apply st_len | apply st_conv); intro k' hk; simp [go_sem, thenR_ok, bin]; refine hk _ _ ?_; clear hk k'))
     | ((with_reducible (first | apply tk_bin)); (· intro w; simp [go_sem, bin]; rfl)))
    rw [i64_succ (by omega)]
    exact ⟨⟨i + 1, rfl, hi', hs.drew.sbl (.drop (.drop (.drop (.drop (.drop .all)))))⟩, by simp; omega⟩
  · repeat with_reducible refine mv.mk ?_
    exact ⟨rfl, hs⟩
end
end Go.Proofs.YtgagekffmamldaaGreatDoor
set_option linter.unusedVariables false
set_option linter.unusedSimpArgs false
set_option linter.unusedSectionVars false
namespace Go.Proofs.YtgagekffmamldaaGreatDoor
open Go Go.Isk Go.RowKit
set_option maxRecDepth 20000
def F.isthmuslaw18_PoolRuns_bad (k : Value → World → Prop) (t5 t6 t8 : Value) (w : World) : Prop :=
  mv (.pointer none) fun t9 =>
  mv t9 fun t56 =>
  o1 Tryz.prog (Instr.buildSlice 38 1 #[(0, .int .u8 97)]) w fun t57 w =>
  o1 Tryz.prog (convert 38 38 t57) w fun t58 w =>
  C Tryz.prog N.pool_Pool_Add #[t56, t58, .int .i64 1] w fun t59 w =>
  mv t59 fun t55 =>
  o1 Tryz.prog (Instr.extract t55 0) w fun t60 w =>
  o1 Tryz.prog (Instr.extract t55 1) w fun t61 w =>
  mv t60 fun t10 =>
  mv t61 fun t11 =>
  mv t9 fun t62 =>
  C Tryz.prog N.pool_Pool_Done #[t62, .slice none 0 0] w fun t63 w =>
  mv t6 fun t64 =>
  C Tryz.prog N.isthmuslaw18_num #[t64] w fun t65 w =>
  mv t8 fun t66 =>
  o1 Tryz.prog (bin .eql 3 (.tmp 65) (.tmp 66) t65 t66) w fun t67 w =>
  mv t67 fun t68 =>
  gd t68 true (fun k5 => mv t5 fun v => k5 v w) w fun t69 w =>
  gd t68 true (fun k6 => o1 Tryz.prog (bin .eql 25 (.tmp 69) (.const (.pointer none)) t69 (.pointer none)) w k6) w fun t70 w =>
  pk t68 t70 (.bool false) fun t71 =>
  mv t71 fun t72 =>
  gd t72 true (fun k7 => mv t11 fun v => k7 v w) w fun t73 w =>
  gd t72 true (fun k8 => C Tryz.prog N.isthmuslaw18_num #[t73] w k8) w fun t74 w =>
  gd t72 true (fun k9 => o1 Tryz.prog (bin .eql 3 (.tmp 74) (.const (.int .i64 1)) t74 (.int .i64 1)) w k9) w fun t75 w =>
  pk t72 t75 (.bool false) fun t76 =>
  mv t76 fun t77 =>
  gd t77 true (fun k10 => mv t9 fun v => k10 v w) w fun t78 w =>
  gd t77 true (fun k11 => o1 Tryz.prog (Instr.build 43 #[]) w k11) w fun t79 w =>
  gd t77 true (fun k12 => C Tryz.prog N.pool_Pool_Drop #[t78, t79] w k12) w fun t80 w =>
  gd t77 true (fun k13 => C Tryz.prog N.isthmuslaw18_num #[t80] w k13) w fun t81 w =>
  gd t77 true (fun k14 => o1 Tryz.prog (bin .eql 3 (.tmp 81) (.const (.int .i64 1)) t81 (.int .i64 1)) w k14) w fun t82 w =>
  pk t77 t82 (.bool false) fun t83 =>
  mv t83 fun t84 =>
  gd t84 true (fun k15 => mv t9 fun v => k15 v w) w fun t85 w =>
  gd t84 true (fun k16 => C Tryz.prog N.pool_Pool_Len #[t85] w k16) w fun t86 w =>
  gd t84 true (fun k17 => o1 Tryz.prog (bin .eql 3 (.tmp 86) (.const (.int .i64 0)) t86 (.int .i64 0)) w k17) w fun t87 w =>
  pk t84 t87 (.bool false) fun t88 =>
  mv t88 fun t89 =>
  gd t89 true (fun k18 => mv t9 fun v => k18 v w) w fun t90 w =>
  gd t89 true (fun k19 => C Tryz.prog N.pool_Pool_Bytes #[t90] w k19) w fun t91 w =>
  gd t89 true (fun k20 => o1 Tryz.prog (bin .eql 3 (.tmp 91) (.const (.int .i64 0)) t91 (.int .i64 0)) w k20) w fun t92 w =>
  pk t89 t92 (.bool false) fun t93 =>
  mv t93 fun t94 =>
  gd t94 true (fun k21 => mv t9 fun v => k21 v w) w fun t95 w =>
  gd t94 true (fun k22 => o1 Tryz.prog (Instr.build 43 #[]) w k22) w fun t96 w =>
  gd t94 true (fun k23 => C Tryz.prog N.pool_Pool_Knows #[t95, t96] w k23) w fun t97 w =>
  gd t94 true (fun k24 => o1 Tryz.prog (Op.unary .not t97) w k24) w fun t98 w =>
  pk t94 t98 (.bool false) fun t99 =>
  mv t99 fun t100 =>
  gd t100 true (fun k25 => mv t9 fun v => k25 v w) w fun t101 w =>
  gd t100 true (fun k26 => o1 Tryz.prog (Instr.build 43 #[]) w k26) w fun t102 w =>
  gd t100 true (fun k27 => C Tryz.prog N.pool_Pool_Has #[t101, t102] w k27) w fun t103 w =>
  gd t100 true (fun k28 => o1 Tryz.prog (Op.unary .not t103) w k28) w fun t104 w =>
  pk t100 t104 (.bool false) fun t105 =>
  mv t105 fun t106 =>
  gd t106 true (fun k29 => mv t9 fun v => k29 v w) w fun t107 w =>
  gd t106 true (fun k30 => C Tryz.prog N.pool_Pool_Take #[t107, .int .i64 1, .int .i64 1] w k30) w fun t108 w =>
  gd t106 true (fun k31 => o1 Tryz.prog (Builtin.len_ #[46] 3 #[t108]) w k31) w fun t109 w =>
  gd t106 true (fun k32 => o1 Tryz.prog (bin .eql 3 (.tmp 109) (.const (.int .i64 0)) t109 (.int .i64 0)) w k32) w fun t110 w =>
  pk t106 t110 (.bool false) fun t111 =>
  mv t111 fun t112 =>
  gd t112 true (fun k33 => C Tryz.prog N.isthmuslaw18_sure #[] w k33) w fun t113 w =>
  pk t112 t113 (.bool false) fun t114 =>
  mv t114 fun t4_1 =>
  k t4_1 w
section
variable {b : Base} {w : World} {L R : List It} {g g3 g8 : Nat} {v sv lv kv bv cv e av fv tv : Value} {h bts : Bytes} {xs : List Bytes} {t y c m1 m2 fee : Int}
theorem zero_h {k : Value → World → Prop} {w : World} (hk : k (.agg (u8s (List.replicate 32 0)).toArray) w) : o1 Tryz.prog (Instr.build T.api_Hash #[]) w k := st_build (by kernel_rfl) hk
theorem runs_bad (hT : Ins L errT.it) (hR : Ins L rndF.it) (hs : Isk.Sep b w ((errF e 1).it :: L)) :
    F.isthmuslaw18_PoolRuns_bad (fun r w' => r = .bool true ∧ Isk.Sep b w' L) (.pointer none) e (.int .i64 1) w := by
  have h0 : (List.replicate 32 (0 : UInt8)).length = 32 := rfl
  unfold F.isthmuslaw18_PoolRuns_bad
  repeat with_reducible refine mv.mk ?_
  refine sp_brow hs byT8 [97] rfl rfl (by decide) (by decide) fun g5 w hs => ?_
  refine sp_mark hs byT8 u8T8 rfl fun w hs => ?_
  refine cl (nil_Add hs) ?_
  rintro _ w ⟨gv, e2, rfl, hs⟩
  repeat (first
   | (with_reducible (first | refine st_lens ?_ | refine st_eqls ?_ | refine mv.mk ?_ | refine gd_u ?_ | refine gd_ft ?_ | refine gd_tf ?_ | refine gd_i ?_ | refine pk_t ?_ | refine pk_f ?_))
   | (with_reducible ((first | apply st_bin | apply st_ext | apply st_len | apply st_un | apply st_conv); intro k' hk; simp [go_sem, thenR_ok, bin]; refine hk _ _ ?_; clear hk k')))
  refine cl (nil_Done hs) ?_
  rintro _ w ⟨rfl, hs⟩
  repeat with_reducible refine mv.mk ?_
  refine cl (isthmuslaw18_num hs (.tl (.tl (.tl hT))) (.tl (.tl .hd))) ?_
  rintro _ w ⟨rfl, hs⟩
  repeat (first
   | (with_reducible (first | refine st_lens ?_ | refine st_eqls ?_ | refine mv.mk ?_ | refine gd_u ?_ | refine gd_ft ?_ | refine gd_tf ?_ | refine gd_i ?_ | refine pk_t ?_ | refine pk_f ?_))
   | (with_reducible ((first | apply st_bin | apply st_ext | apply st_len | apply st_un | apply st_conv); intro k' hk; simp [go_sem, thenR_ok, bin]; refine hk _ _ ?_; clear hk k')))
  refine cl (isthmuslaw18_num hs (.tl (.tl (.tl hT))) .hd) ?_
  rintro _ w ⟨rfl, hs⟩
  repeat (first
   | (with_reducible (first | refine st_lens ?_ | refine st_eqls ?_ | refine mv.mk ?_ | refine gd_u ?_ | refine gd_ft ?_ | refine gd_tf ?_ | refine gd_i ?_ | refine pk_t ?_ | refine pk_f ?_))
   | (with_reducible ((first | apply st_bin | apply st_ext | apply st_len | apply st_un | apply st_conv); intro k' hk; simp [go_sem, thenR_ok, bin]; refine hk _ _ ?_; clear hk k')))
  refine zero_h ?_
  refine gd_i ?_
  refine cl (nil_Drop hs h0) ?_
  rintro e3 w hs
  refine gd_i ?_
  refine cl (isthmuslaw18_num hs (.tl (.tl (.tl (.tl hT)))) .hd) ?_
  rintro _ w ⟨rfl, hs⟩
  repeat (first
   | (with_reducible (first | refine st_lens ?_ | refine st_eqls ?_ | refine mv.mk ?_ | refine gd_u ?_ | refine gd_ft ?_ | refine gd_tf ?_ | refine gd_i ?_ | refine pk_t ?_ | refine pk_f ?_))
   | (with_reducible ((first | apply st_bin | apply st_ext | apply st_len | apply st_un | apply st_conv); intro k' hk; simp [go_sem, thenR_ok, bin]; refine hk _ _ ?_; clear hk k')))
  refine cl (nil_Len hs) ?_
  rintro _ w ⟨rfl, hs⟩
  repeat (first
   | (with_reducible (first | refine st_lens ?_ | refine st_eqls ?_ | refine mv.mk ?_ | refine gd_u ?_ | refine gd_ft ?_ | refine gd_tf ?_ | refine gd_i ?_ | refine pk_t ?_ | refine pk_f ?_))
   | (with_reducible ((first | apply st_bin | apply st_ext | apply st_len | apply st_un | apply st_conv); intro k' hk; simp [go_sem, thenR_ok, bin]; refine hk _ _ ?_; clear hk k')))
  refine cl (nil_Bytes hs) ?_
  rintro _ w ⟨rfl, hs⟩
  repeat (first
   | (with_reducible (first | refine st_lens ?_ | refine st_eqls ?_ | refine mv.mk ?_ | refine gd_u ?_ | refine gd_ft ?_ | refine gd_tf ?_ | refine gd_i ?_ | refine pk_t ?_ | refine pk_f ?_))
   | (with_reducible ((first | apply st_bin | apply st_ext | apply st_len | apply st_un | apply st_conv); intro k' hk; simp [go_sem, thenR_ok, bin]; refine hk _ _ ?_; clear hk k')))
  refine zero_h ?_
  refine gd_i ?_
  refine cl (nil_Knows hs h0) ?_
  rintro _ w ⟨rfl, hs⟩
  repeat (first
   | (with_reducible (first | refine st_lens ?_ | refine st_eqls ?_ | refine mv.mk ?_ | refine gd_u ?_ | refine gd_ft ?_ | refine gd_tf ?_ | refine gd_i ?_ | refine pk_t ?_ | refine pk_f ?_))
   | (with_reducible ((first | apply st_bin | apply st_ext | apply st_len | apply st_un | apply st_conv); intro k' hk; simp [go_sem, thenR_ok, bin]; refine hk _ _ ?_; clear hk k')))
  refine zero_h ?_
  refine gd_i ?_
  refine cl (nil_Has hs h0) ?_
  rintro _ w ⟨rfl, hs⟩
  repeat (first
   | (with_reducible (first | refine st_lens ?_ | refine st_eqls ?_ | refine mv.mk ?_ | refine gd_u ?_ | refine gd_ft ?_ | refine gd_tf ?_ | refine gd_i ?_ | refine pk_t ?_ | refine pk_f ?_))
   | (with_reducible ((first | apply st_bin | apply st_ext | apply st_len | apply st_un | apply st_conv); intro k' hk; simp [go_sem, thenR_ok, bin]; refine hk _ _ ?_; clear hk k')))
  refine cl (nil_Take hs) ?_
  rintro _ w ⟨rfl, hs⟩
  repeat (first
   | (with_reducible (first | refine st_lens ?_ | refine st_eqls ?_ | refine mv.mk ?_ | refine gd_u ?_ | refine gd_ft ?_ | refine gd_tf ?_ | refine gd_i ?_ | refine pk_t ?_ | refine pk_f ?_))
   | (with_reducible ((first | apply st_bin | apply st_ext | apply st_len | apply st_un | apply st_conv); intro k' hk; simp [go_sem, thenR_ok, bin]; refine hk _ _ ?_; clear hk k')))
  refine cl (isthmuslaw18_sure hs (.tl (.tl (.tl (.tl hT)))) (.tl (.tl (.tl (.tl hR))))) ?_
  rintro _ w ⟨rfl, hs⟩
  repeat (first
   | (with_reducible (first | refine st_lens ?_ | refine st_eqls ?_ | refine mv.mk ?_ | refine gd_u ?_ | refine gd_ft ?_ | refine gd_tf ?_ | refine gd_i ?_ | refine pk_t ?_ | refine pk_f ?_))
   | (with_reducible ((first | apply st_bin | apply st_ext | apply st_len | apply st_un | apply st_conv); intro k' hk; simp [go_sem, thenR_ok, bin]; refine hk _ _ ?_; clear hk k')))
  exact ⟨rfl, hs.sbl (.drop (.drop (.drop (.drop .all))))⟩
end
end Go.Proofs.YtgagekffmamldaaGreatDoor
set_option linter.unusedVariables false
set_option linter.unusedSimpArgs false
set_option linter.unusedSectionVars false
namespace Go.Proofs.YtgagekffmamldaaGreatDoor
open Go Go.Isk Go.RowKit
set_option maxRecDepth 20000
def F.isthmuslaw18_PoolRuns_end (k : Value → World → Prop) (I1 : List Value → World → Prop) (μ1 : List Value → World → Nat) (t5 t7 t13 t14 t180 : Value) (x1 x2 : Env) (w1 w : World) : Prop :=
  dr w.drew fun S1 =>
  mv t5 fun t206 =>
  tk Tryz.prog S1 (Instr.loadAt 33 t7) fun t208 =>
  C Tryz.prog N.pool_Pool_Take #[t206, .int .i64 2097152, .int .i64 2097152] w.drew fun t207 w =>
  S1 w ∧
  C Tryz.prog N.isthmusref18_Take #[t208, .int .i64 2097152, .int .i64 2097152] w fun t209 w =>
  S1 w ∧
  C Tryz.prog N.isthmuslaw18_texts #[t207, t209] w fun t210 w =>
  S1 w ∧
  tk Tryz.prog S1 (Op.unary .not t210) fun t211 =>
  mv t211 fun t212 =>
  gdT t212 false (fun k42 => mv t5 k42) fun t213 =>
  gdT t212 false (fun k43 => tk Tryz.prog S1 (Instr.fieldAt 50 t13 2) k43) fun t214 =>
  nS S1 w fun S2 =>
  gdT t212 false (fun k44 => tk Tryz.prog S2 (Instr.loadAt 3 t214) k44) fun t215 =>
  gdT t212 false (fun k45 => tk Tryz.prog S2 (Instr.fieldAt 50 t13 1) k45) fun t216 =>
  gdT t212 false (fun k46 => tk Tryz.prog S2 (Instr.loadAt 3 t216) k46) fun t217 =>
  gdT t212 false (fun k47 => tk Tryz.prog S2 (Instr.loadAt 33 t7) k47) fun t219 =>
  gdT t212 false (fun k48 => tk Tryz.prog S2 (Instr.fieldAt 50 t13 2) k48) fun t220 =>
  gdT t212 false (fun k49 => tk Tryz.prog S2 (Instr.loadAt 3 t220) k49) fun t221 =>
  gdT t212 false (fun k50 => tk Tryz.prog S2 (Instr.fieldAt 50 t13 1) k50) fun t222 =>
  gdT t212 false (fun k51 => tk Tryz.prog S2 (Instr.loadAt 3 t222) k51) fun t223 =>
  gd t212 false (fun k52 => C Tryz.prog N.pool_Pool_Take #[t213, t215, t217] w k52) w fun t218 w =>
  S2 w ∧
  gd t212 false (fun k53 => C Tryz.prog N.isthmusref18_Take #[t219, t221, t223] w k53) w fun t224 w =>
  S2 w ∧
  gd t212 false (fun k54 => C Tryz.prog N.isthmuslaw18_texts #[t218, t224] w k54) w fun t225 w =>
  S2 w ∧
  gdT t212 false (fun k55 => tk Tryz.prog S2 (Op.unary .not t225) k55) fun t226 =>
  pk t212 (.bool true) t226 fun t227 =>
  mv t227 fun t228 =>
  gdT t228 false (fun k56 => mv t5 k56) fun t229 =>
  gdT t228 false (fun k57 => tk Tryz.prog S2 (Instr.fieldAt 33 t7 3) k57) fun t231 =>
  nS S2 w fun S3 =>
  gdT t228 false (fun k58 => tk Tryz.prog S3 (Instr.loadAt 30 t231) k58) fun t232 =>
  gdT t228 false (fun k59 => tk Tryz.prog S3 (Builtin.len_ #[30] 3 #[t232]) k59) fun t233 =>
  gd t228 false (fun k60 => C Tryz.prog N.pool_Pool_Len #[t229] w k60) w fun t230 w =>
  S3 w ∧
  gdT t228 false (fun k61 => tk Tryz.prog S3 (bin .neq 3 (.tmp 230) (.tmp 233) t230 t233) k61) fun t234 =>
  pk t228 (.bool true) t234 fun t235 =>
  mv t235 fun t236 =>
  gdT t236 false (fun k62 => mv t5 k62) fun t237 =>
  gdT t236 false (fun k63 => tk Tryz.prog S3 (Instr.fieldAt 33 t7 3) k63) fun t239 =>
  nS S3 w fun S4 =>
  gdT t236 false (fun k64 => tk Tryz.prog S4 (Instr.loadAt 30 t239) k64) fun t240 =>
  gd t236 false (fun k65 => C Tryz.prog N.pool_Pool_Bytes #[t237] w k65) w fun t238 w =>
  S4 w ∧
  gd t236 false (fun k66 => C Tryz.prog N.isthmusref18_Size #[t240] w k66) w fun t241 w =>
  S4 w ∧
  gdT t236 false (fun k67 => tk Tryz.prog S4 (bin .neq 3 (.tmp 238) (.tmp 241) t238 t241) k67) fun t242 =>
  pk t236 (.bool true) t242 fun t243 =>
  mv t243 fun t244 =>
  gdT t244 false (fun k68 => mv t5 k68) fun t245 =>
  nS S4 w fun S5 =>
  gdT t244 false (fun k69 => tk Tryz.prog S5 (Instr.loadAt 43 t14) k69) fun t246 =>
  gdT t244 false (fun k70 => tk Tryz.prog S5 (Instr.loadAt 33 t7) k70) fun t248 =>
  gdT t244 false (fun k71 => tk Tryz.prog S5 (Instr.loadAt 43 t14) k71) fun t249 =>
  gd t244 false (fun k72 => C Tryz.prog N.pool_Pool_Has #[t245, t246] w k72) w fun t247 w =>
  S5 w ∧
  gd t244 false (fun k73 => C Tryz.prog N.isthmusref18_Has #[t248, t249] w k73) w fun t250 w =>
  S5 w ∧
  gdT t244 false (fun k74 => tk Tryz.prog S5 (bin .neq 4 (.tmp 247) (.tmp 250) t247 t250) k74) fun t251 =>
  pk t244 (.bool true) t251 fun t252 =>
  mv t252 fun t253 =>
  gdT t253 false (fun k75 => mv t5 k75) fun t254 =>
  nS S5 w fun S6 =>
  gdT t253 false (fun k76 => tk Tryz.prog S6 (Instr.loadAt 43 t14) k76) fun t255 =>
  gdT t253 false (fun k77 => tk Tryz.prog S6 (Instr.loadAt 33 t7) k77) fun t257 =>
  gdT t253 false (fun k78 => tk Tryz.prog S6 (Instr.loadAt 43 t14) k78) fun t258 =>
  gd t253 false (fun k79 => C Tryz.prog N.pool_Pool_Knows #[t254, t255] w k79) w fun t256 w =>
  S6 w ∧
  gd t253 false (fun k80 => C Tryz.prog N.isthmusref18_Knows #[t257, t258] w k80) w fun t259 w =>
  S6 w ∧
  gdT t253 false (fun k81 => tk Tryz.prog S6 (bin .neq 4 (.tmp 256) (.tmp 259) t256 t259) k81) fun t260 =>
  pk t253 (.bool true) t260 fun t261 =>
  br t261 (fun _ =>
  mv (.bool false) fun t4_4 =>
  k t4_4 w) (fun _ =>
  mv (x1 12) fun t123 =>
  o1 Tryz.prog (bin .add 3 (.tmp 123) (.const (.int .i64 1)) t123 (.int .i64 1)) w fun t124 w =>
  mv t124 fun t12_1 =>
  I1 [(x2 4), t12_1, (x2 15), (x2 17), (x2 18), (x2 19), (x2 20), (x2 22), (x2 23), (x2 24), t180, (x2 190)] w ∧ μ1 [(x2 4), t12_1, (x2 15), (x2 17), (x2 18), (x2 19), (x2 20), (x2 22), (x2 23), (x2 24), t180, (x2 190)] w < μ1 [x1 4, x1 12, x1 15, x1 17, x1 18, x1 19, x1 20, x1 22, x1 23, x1 24, x1 180, x1 190] w1)
abbrev RunL (g g7 : Nat) (p : PoolD) (lv kv lv2 kv2 : Value) (L : List It) : List It := blkI g T.pool_Pool (poolV p lv kv) :: growI itemF T.pool_item 35 lv p.l :: (listF hashF 32 kv p.known).it :: blkI g7 T.isthmusref18_Pool (rpV p.txs p.bytes p.cache lv2 kv2) :: (listF ritemF 2 lv2 (p.l.map toR)).it :: (listF hashF 32 kv2 p.known).it :: L
def RunJ (b : Base) (L : List It) (g g7 : Nat) (us : List Value) (w' : World) : Prop := ∃ (i : Nat) (p : PoolD) (lv kv lv2 kv2 : Value) (ys : List Value), us = .bool false :: .int .i64 (i : Int) :: ys ∧ i ≤ 60 ∧ OkP p i ∧ lv2.oneCell' = true ∧ kv2.oneCell' = true ∧ Isk.Sep b w' (RunL g g7 p lv kv lv2 kv2 L)
def RunM (us : List Value) (_ : World) : Nat := match us with | _ :: .int _ m :: _ => 60 - m.toNat | _ => 0
theorem takeP_len {t : Int} : ∀ {l : List ItemD} {c y : Int}, (takeP t c y l).length ≤ l.length
  | [], _, _ => Nat.zero_le _
  | x :: l, c, y => by
    unfold takeP
    split
    · exact Nat.zero_le _
    · exact Nat.succ_le_succ (takeP_len (l := l))
section
variable {b : Base} {w w1 : World} {L LL R : List It} {g g3 g7 g8 g13 g14 : Nat} {v sv lv kv lv2 kv2 bv cv e av fv tv tl t180 : Value} {h bts : Bytes} {xs : List Bytes} {x : Act8} {p : PoolD} {i : Nat} {x1 x2 : Env}
theorem runs_end {k : Value → World → Prop} (ok : OkP p (i + 1)) (hi : i < 60) (hx4 : x2 4 = .bool false) (h12 : x1 12 = .int .i64 (i : Int)) (hxn : I64 x.n) (hxf : I64 x.fee) (hlv : lv2.oneCell' = true) (hkv : kv2.oneCell' = true) (hh : h.length = 32) (hLL : Sbl L LL)
    (hs : Isk.Sep b w (RunL g g7 p lv kv lv2 kv2 (blkI g14 T.api_Hash (u8s h) :: blkI g13 T.isthmuslaw18_Act (act8V x tv tl) :: LL))) :
    F.isthmuslaw18_PoolRuns_end k (RunJ b L g g7) RunM (.pointer (some ⟨g, 0, none⟩)) (.pointer (some ⟨g7, 0, none⟩)) (.pointer (some ⟨g13, 0, none⟩)) (.pointer (some ⟨g14, 0, none⟩)) t180 x1 x2 w1 w := by
  have hl1 := ok.len
  have ht2 := ok.t2
  have hb2 := ok.b2
  have hsz := ok.size
  have hkn := ok.kn
  have hc2 := ok.c2
  obtain ⟨A2, c2, rfl⟩ := hs.lst_len (Ins.lst (.tl (.tl (.tl (.tl .hd)))))
  rw [List.length_map] at hs
  have hM : ∀ {w : World}, Isk.Sep b w (RunL g g7 p lv kv (.slice A2 p.l.length c2) kv2 (blkI g14 T.api_Hash (u8s h) :: blkI g13 T.isthmuslaw18_Act (act8V x tv tl) :: LL)) → Mayr [blkI g7 T.isthmusref18_Pool (rpV p.txs p.bytes p.cache (.slice A2 p.l.length c2) kv2), blkI g14 T.api_Hash (u8s h), blkI g13 T.isthmuslaw18_Act (act8V x tv tl)] w := fun hs => hs.mayr (.drop (.drop (.drop (.cons .hd (.drop (.drop (.cons .hd (.cons .hd .nil))))))))
  have hN : ∀ {w : World} {f : (World → Prop) → Prop}, Isk.Sep b w (RunL g g7 p lv kv (.slice A2 p.l.length c2) kv2 (blkI g14 T.api_Hash (u8s h) :: blkI g13 T.isthmuslaw18_Act (act8V x tv tl) :: LL)) → f (Mayr [blkI g7 T.isthmusref18_Pool (rpV p.txs p.bytes p.cache (.slice A2 p.l.length c2) kv2), blkI g14 T.api_Hash (u8s h), blkI g13 T.isthmuslaw18_Act (act8V x tv tl)]) → nS (Mayr [blkI g7 T.isthmusref18_Pool (rpV p.txs p.bytes p.cache (.slice A2 p.l.length c2) kv2), blkI g14 T.api_Hash (u8s h), blkI g13 T.isthmuslaw18_Act (act8V x tv tl)]) w f := fun hs hf => nS_can hs (.drop (.drop (.drop (.cons .hd (.drop (.drop (.cons .hd (.cons .hd .nil)))))))) .all hf
  unfold F.isthmuslaw18_PoolRuns_end
  replace hs := hs.drew
  refine dr_can (R := [blkI g7 T.isthmusref18_Pool (rpV p.txs p.bytes p.cache (.slice A2 p.l.length c2) kv2), blkI g14 T.api_Hash (u8s h), blkI g13 T.isthmuslaw18_Act (act8V x tv tl)]) hs (.drop (.drop (.drop (.cons .hd (.drop (.drop (.cons .hd (.cons .hd .nil)))))))) ?_
  have hS : ∀ w, Mayr [blkI g7 T.isthmusref18_Pool (rpV p.txs p.bytes p.cache (.slice A2 p.l.length c2) kv2), blkI g14 T.api_Hash (u8s h), blkI g13 T.isthmuslaw18_Act (act8V x tv tl)] w → Mayr [blkI g7 T.isthmusref18_Pool (rpV p.txs p.bytes p.cache (.slice A2 p.l.length c2) kv2), blkI g14 T.api_Hash (u8s h), blkI g13 T.isthmuslaw18_Act (act8V x tv tl)] w := fun _ h => h
  repeat with_reducible refine mv.mk ?_
  refine tk_ldn hS .blk (by kernel_rfl) rfl ?_
  refine cl (pool_Take ok (by decide) (by decide) ok.small hs) ?_
  rintro v w hs
  replace hs := hs.growF .hd
  refine ⟨hM (hs.drop .hd), ?_⟩
  refine cl (isthmusref18_Take (.tl (.tl (.tl (.tl (.tl .hd))))) (by rw [List.length_map]; omega) (by rw [sizeR_toR]; omega) ⟨by decide, by decide⟩ hs) ?_
  rintro v2 w hs
  rw [take_toR] at hs
  refine ⟨hM (hs.sbl (.drop (.drop .all))), ?_⟩
  refine cl (isthmuslaw18_texts (.tl .hd) .hd (by have := takeP_len (t := 2097152) (l := p.l) (c := 0) (y := 2097152); omega) hs) ?_
  rintro _ w ⟨rfl, hs⟩
  replace hs := hs.sbl (L' := RunL g g7 p lv kv (.slice A2 p.l.length c2) kv2 (blkI g14 T.api_Hash (u8s h) :: blkI g13 T.isthmuslaw18_Act (act8V x tv tl) :: LL)) (.drop (.drop .all))
  refine ⟨hM hs, ?_⟩
  repeat (first
   | (with_reducible refine act8.c1 ?_)
   | ((with_reducible apply act8.e1); (· first | exact hS | exact hid); (· (with_reducible (repeat (first | exact .blk | exact .rng | apply Rng.tl)))))
   | (with_reducible refine act8.c2 ?_)
   | ((with_reducible apply act8.e2); (· first | exact hS | exact hid); (· (with_reducible (repeat (first | exact .blk | exact .rng | apply Rng.tl)))))
   | (with_reducible refine act8.c3 ?_)
   | ((with_reducible apply act8.e3); (· first | exact hS | exact hid); (· (with_reducible (repeat (first | exact .blk | exact .rng | apply Rng.tl)))))
   | (with_reducible (first | refine st_lens ?_ | refine st_nels ?_ | refine tk_nels ?_ | refine mv.mk ?_ | refine gdT_i ?_ | refine gdT_ft ?_ | refine gdT_tf ?_ | refine gdT_u ?_ | refine gd_u ?_ | refine gd_ft ?_ | refine gd_tf ?_ | refine gd_i ?_ | refine pk_t ?_ | refine pk_f ?_ | refine br_t ?_ | refine br_f ?_))
   | (with_reducible ((first | apply st_bin | apply st_len | apply st_un); intro k' hk; simp [go_sem, thenR_ok, bin]; refine hk _ _ ?_; clear hk k'))
   | ((with_reducible (first | apply tk_bin | apply tk_len | apply tk_un)); (· intro w; simp [go_sem, bin]; rfl)))
  refine hN hs ?_
  repeat (first
   | (with_reducible refine act8.c1 ?_)
   | ((with_reducible apply act8.e1); (· first | exact hS | exact hid); (· (with_reducible (repeat (first | exact .blk | exact .rng | apply Rng.tl)))))
   | (with_reducible refine act8.c2 ?_)
   | ((with_reducible apply act8.e2); (· first | exact hS | exact hid); (· (with_reducible (repeat (first | exact .blk | exact .rng | apply Rng.tl)))))
   | (with_reducible refine act8.c3 ?_)
   | ((with_reducible apply act8.e3); (· first | exact hS | exact hid); (· (with_reducible (repeat (first | exact .blk | exact .rng | apply Rng.tl)))))
   | (with_reducible (first | refine st_lens ?_ | refine st_nels ?_ | refine tk_nels ?_ | refine mv.mk ?_ | refine gdT_i ?_ | refine gdT_ft ?_ | refine gdT_tf ?_ | refine gdT_u ?_ | refine gd_u ?_ | refine gd_ft ?_ | refine gd_tf ?_ | refine gd_i ?_ | refine pk_t ?_ | refine pk_f ?_ | refine br_t ?_ | refine br_f ?_))
   | (with_reducible ((first | apply st_bin | apply st_len | apply st_un); intro k' hk; simp [go_sem, thenR_ok, bin]; refine hk _ _ ?_; clear hk k'))
   | ((with_reducible (first | apply tk_bin | apply tk_len | apply tk_un)); (· intro w; simp [go_sem, bin]; rfl)))
  refine tk_ldn hS .blk (by kernel_rfl) rfl ?_
  repeat (first
   | (with_reducible refine act8.c1 ?_)
   | ((with_reducible apply act8.e1); (· first | exact hS | exact hid); (· (with_reducible (repeat (first | exact .blk | exact .rng | apply Rng.tl)))))
   | (with_reducible refine act8.c2 ?_)
   | ((with_reducible apply act8.e2); (· first | exact hS | exact hid); (· (with_reducible (repeat (first | exact .blk | exact .rng | apply Rng.tl)))))
   | (with_reducible refine act8.c3 ?_)
   | ((with_reducible apply act8.e3); (· first | exact hS | exact hid); (· (with_reducible (repeat (first | exact .blk | exact .rng | apply Rng.tl)))))
   | (with_reducible (first | refine st_lens ?_ | refine st_nels ?_ | refine tk_nels ?_ | refine mv.mk ?_ | refine gdT_i ?_ | refine gdT_ft ?_ | refine gdT_tf ?_ | refine gdT_u ?_ | refine gd_u ?_ | refine gd_ft ?_ | refine gd_tf ?_ | refine gd_i ?_ | refine pk_t ?_ | refine pk_f ?_ | refine br_t ?_ | refine br_f ?_))
   | (with_reducible ((first | apply st_bin | apply st_len | apply st_un); intro k' hk; simp [go_sem, thenR_ok, bin]; refine hk _ _ ?_; clear hk k'))
   | ((with_reducible (first | apply tk_bin | apply tk_len | apply tk_un)); (· intro w; simp [go_sem, bin]; rfl)))
  refine cl (pool_Take (n := x.n) (m := x.fee) ok hxf.1 hxf.2 ok.small hs) ?_
  rintro v w hs
  replace hs := hs.growF .hd
  refine ⟨hM (hs.drop .hd), ?_⟩
  repeat (first
   | (with_reducible (first | refine st_lens ?_ | refine st_nels ?_ | refine tk_nels ?_ | refine mv.mk ?_ | refine gdT_i ?_ | refine gdT_ft ?_ | refine gdT_tf ?_ | refine gdT_u ?_ | refine gd_u ?_ | refine gd_ft ?_ | refine gd_tf ?_ | refine gd_i ?_ | refine pk_t ?_ | refine pk_f ?_ | refine br_t ?_ | refine br_f ?_))
   | (with_reducible ((first | apply st_bin | apply st_len | apply st_un); intro k' hk; simp [go_sem, thenR_ok, bin]; refine hk _ _ ?_; clear hk k'))
   | ((with_reducible (first | apply tk_bin | apply tk_len | apply tk_un)); (· intro w; simp [go_sem, bin]; rfl)))
  refine cl (isthmusref18_Take (.tl (.tl (.tl (.tl (.tl .hd))))) (by rw [List.length_map]; omega) (by rw [sizeR_toR]; omega) hxf hs) ?_
  rintro v2 w hs
  rw [take_toR] at hs
  refine ⟨hM (hs.sbl (.drop (.drop .all))), ?_⟩
  repeat (first
   | (with_reducible (first | refine st_lens ?_ | refine st_nels ?_ | refine tk_nels ?_ | refine mv.mk ?_ | refine gdT_i ?_ | refine gdT_ft ?_ | refine gdT_tf ?_ | refine gdT_u ?_ | refine gd_u ?_ | refine gd_ft ?_ | refine gd_tf ?_ | refine gd_i ?_ | refine pk_t ?_ | refine pk_f ?_ | refine br_t ?_ | refine br_f ?_))
   | (with_reducible ((first | apply st_bin | apply st_len | apply st_un); intro k' hk; simp [go_sem, thenR_ok, bin]; refine hk _ _ ?_; clear hk k'))
   | ((with_reducible (first | apply tk_bin | apply tk_len | apply tk_un)); (· intro w; simp [go_sem, bin]; rfl)))
  refine cl (isthmuslaw18_texts (.tl .hd) .hd (by have := takeP_len (t := x.n) (l := p.l) (c := 0) (y := x.fee); omega) hs) ?_
  rintro _ w ⟨rfl, hs⟩
  replace hs := hs.sbl (L' := RunL g g7 p lv kv (.slice A2 p.l.length c2) kv2 (blkI g14 T.api_Hash (u8s h) :: blkI g13 T.isthmuslaw18_Act (act8V x tv tl) :: LL)) (.drop (.drop .all))
  refine ⟨hM hs, ?_⟩
  repeat (first
   | (with_reducible refine rpool.c1 ?_)
   | ((with_reducible apply rpool.e1); (· first | exact hS | exact hid); (· (with_reducible (repeat (first | exact .blk | exact .rng | apply Rng.tl)))))
   | (with_reducible refine rpool.c2 ?_)
   | ((with_reducible apply rpool.e2); (· first | exact hS | exact hid); (· (with_reducible (repeat (first | exact .blk | exact .rng | apply Rng.tl)))))
   | (with_reducible refine rpool.c3 ?_)
   | ((with_reducible apply rpool.e3); (· first | exact hS | exact hid); (· (with_reducible (repeat (first | exact .blk | exact .rng | apply Rng.tl)))))
   | (with_reducible (first | refine st_lens ?_ | refine st_nels ?_ | refine tk_nels ?_ | refine mv.mk ?_ | refine gdT_i ?_ | refine gdT_ft ?_ | refine gdT_tf ?_ | refine gdT_u ?_ | refine gd_u ?_ | refine gd_ft ?_ | refine gd_tf ?_ | refine gd_i ?_ | refine pk_t ?_ | refine pk_f ?_ | refine br_t ?_ | refine br_f ?_))
   | (with_reducible ((first | apply st_bin | apply st_len | apply st_un); intro k' hk; simp [go_sem, thenR_ok, bin]; refine hk _ _ ?_; clear hk k'))
   | ((with_reducible (first | apply tk_bin | apply tk_len | apply tk_un)); (· intro w; simp [go_sem, bin]; rfl)))
  refine hN hs ?_
  repeat (first
   | (with_reducible refine rpool.c1 ?_)
   | ((with_reducible apply rpool.e1); (· first | exact hS | exact hid); (· (with_reducible (repeat (first | exact .blk | exact .rng | apply Rng.tl)))))
   | (with_reducible refine rpool.c2 ?_)
   | ((with_reducible apply rpool.e2); (· first | exact hS | exact hid); (· (with_reducible (repeat (first | exact .blk | exact .rng | apply Rng.tl)))))
   | (with_reducible refine rpool.c3 ?_)
   | ((with_reducible apply rpool.e3); (· first | exact hS | exact hid); (· (with_reducible (repeat (first | exact .blk | exact .rng | apply Rng.tl)))))
   | (with_reducible (first | refine st_lens ?_ | refine st_nels ?_ | refine tk_nels ?_ | refine mv.mk ?_ | refine gdT_i ?_ | refine gdT_ft ?_ | refine gdT_tf ?_ | refine gdT_u ?_ | refine gd_u ?_ | refine gd_ft ?_ | refine gd_tf ?_ | refine gd_i ?_ | refine pk_t ?_ | refine pk_f ?_ | refine br_t ?_ | refine br_f ?_))
   | (with_reducible ((first | apply st_bin | apply st_len | apply st_un); intro k' hk; simp [go_sem, thenR_ok, bin]; refine hk _ _ ?_; clear hk k'))
   | ((with_reducible (first | apply tk_bin | apply tk_len | apply tk_un)); (· intro w; simp [go_sem, bin]; rfl)))
  refine cl (pool_Len (hs.sbl (.cons .hd (.cons .hd .all)))) ?_
  rintro _ w ⟨rfl, hs⟩
  refine ⟨hM hs, ?_⟩
  repeat (first
   | (with_reducible refine rpool.c1 ?_)
   | ((with_reducible apply rpool.e1); (· first | exact hS | exact hid); (· (with_reducible (repeat (first | exact .blk | exact .rng | apply Rng.tl)))))
   | (with_reducible refine rpool.c2 ?_)
   | ((with_reducible apply rpool.e2); (· first | exact hS | exact hid); (· (with_reducible (repeat (first | exact .blk | exact .rng | apply Rng.tl)))))
   | (with_reducible refine rpool.c3 ?_)
   | ((with_reducible apply rpool.e3); (· first | exact hS | exact hid); (· (with_reducible (repeat (first | exact .blk | exact .rng | apply Rng.tl)))))
   | (with_reducible (first | refine st_lens ?_ | refine st_nels ?_ | refine tk_nels ?_ | refine mv.mk ?_ | refine gdT_i ?_ | refine gdT_ft ?_ | refine gdT_tf ?_ | refine gdT_u ?_ | refine gd_u ?_ | refine gd_ft ?_ | refine gd_tf ?_ | refine gd_i ?_ | refine pk_t ?_ | refine pk_f ?_ | refine br_t ?_ | refine br_f ?_))
   | (with_reducible ((first | apply st_bin | apply st_len | apply st_un); intro k' hk; simp [go_sem, thenR_ok, bin]; refine hk _ _ ?_; clear hk k'))
   | ((with_reducible (first | apply tk_bin | apply tk_len | apply tk_un)); (· intro w; simp [go_sem, bin]; rfl)))
  refine hN hs ?_
  repeat (first
   | (with_reducible refine rpool.c1 ?_)
   | ((with_reducible apply rpool.e1); (· first | exact hS | exact hid); (· (with_reducible (repeat (first | exact .blk | exact .rng | apply Rng.tl)))))
   | (with_reducible refine rpool.c2 ?_)
   | ((with_reducible apply rpool.e2); (· first | exact hS | exact hid); (· (with_reducible (repeat (first | exact .blk | exact .rng | apply Rng.tl)))))
   | (with_reducible refine rpool.c3 ?_)
   | ((with_reducible apply rpool.e3); (· first | exact hS | exact hid); (· (with_reducible (repeat (first | exact .blk | exact .rng | apply Rng.tl)))))
   | (with_reducible (first | refine st_lens ?_ | refine st_nels ?_ | refine tk_nels ?_ | refine mv.mk ?_ | refine gdT_i ?_ | refine gdT_ft ?_ | refine gdT_tf ?_ | refine gdT_u ?_ | refine gd_u ?_ | refine gd_ft ?_ | refine gd_tf ?_ | refine gd_i ?_ | refine pk_t ?_ | refine pk_f ?_ | refine br_t ?_ | refine br_f ?_))
   | (with_reducible ((first | apply st_bin | apply st_len | apply st_un); intro k' hk; simp [go_sem, thenR_ok, bin]; refine hk _ _ ?_; clear hk k'))
   | ((with_reducible (first | apply tk_bin | apply tk_len | apply tk_un)); (· intro w; simp [go_sem, bin]; rfl)))
  refine cl (pool_Bytes (by omega) (by omega) hs) ?_
  rintro _ w ⟨rfl, hs⟩
  refine ⟨hM hs, ?_⟩
  repeat (first
   | (with_reducible (first | refine st_lens ?_ | refine st_nels ?_ | refine tk_nels ?_ | refine mv.mk ?_ | refine gdT_i ?_ | refine gdT_ft ?_ | refine gdT_tf ?_ | refine gdT_u ?_ | refine gd_u ?_ | refine gd_ft ?_ | refine gd_tf ?_ | refine gd_i ?_ | refine pk_t ?_ | refine pk_f ?_ | refine br_t ?_ | refine br_f ?_))
   | (with_reducible ((first | apply st_bin | apply st_len | apply st_un); intro k' hk; simp [go_sem, thenR_ok, bin]; refine hk _ _ ?_; clear hk k'))
   | ((with_reducible (first | apply tk_bin | apply tk_len | apply tk_un)); (· intro w; simp [go_sem, bin]; rfl)))
  refine cl (isthmusref18_Size hs (.tl (.tl (.tl (.tl .hd)))) (by rw [List.length_map]; omega) (by rw [sizeR_toR]; omega)) ?_
  rintro _ w ⟨rfl, hs⟩
  rw [sizeR_toR]
  refine ⟨hM hs, ?_⟩
  repeat (first
   | (with_reducible (first | refine st_lens ?_ | refine st_nels ?_ | refine tk_nels ?_ | refine mv.mk ?_ | refine gdT_i ?_ | refine gdT_ft ?_ | refine gdT_tf ?_ | refine gdT_u ?_ | refine gd_u ?_ | refine gd_ft ?_ | refine gd_tf ?_ | refine gd_i ?_ | refine pk_t ?_ | refine pk_f ?_ | refine br_t ?_ | refine br_f ?_))
   | (with_reducible ((first | apply st_bin | apply st_len | apply st_un); intro k' hk; simp [go_sem, thenR_ok, bin]; refine hk _ _ ?_; clear hk k'))
   | ((with_reducible (first | apply tk_bin | apply tk_len | apply tk_un)); (· intro w; simp [go_sem, bin]; rfl)))
  refine hN hs ?_
  repeat (first
   | (with_reducible (first | refine st_lens ?_ | refine st_nels ?_ | refine tk_nels ?_ | refine mv.mk ?_ | refine gdT_i ?_ | refine gdT_ft ?_ | refine gdT_tf ?_ | refine gdT_u ?_ | refine gd_u ?_ | refine gd_ft ?_ | refine gd_tf ?_ | refine gd_i ?_ | refine pk_t ?_ | refine pk_f ?_ | refine br_t ?_ | refine br_f ?_))
   | (with_reducible ((first | apply st_bin | apply st_len | apply st_un); intro k' hk; simp [go_sem, thenR_ok, bin]; refine hk _ _ ?_; clear hk k'))
   | ((with_reducible (first | apply tk_bin | apply tk_len | apply tk_un)); (· intro w; simp [go_sem, bin]; rfl)))
  refine tk_ldn hS (.tl .blk) (by kernel_rfl) (by rw [u8s_length, hh]) ?_
  repeat (first
   | (with_reducible (first | refine st_lens ?_ | refine st_nels ?_ | refine tk_nels ?_ | refine mv.mk ?_ | refine gdT_i ?_ | refine gdT_ft ?_ | refine gdT_tf ?_ | refine gdT_u ?_ | refine gd_u ?_ | refine gd_ft ?_ | refine gd_tf ?_ | refine gd_i ?_ | refine pk_t ?_ | refine pk_f ?_ | refine br_t ?_ | refine br_f ?_))
   | (with_reducible ((first | apply st_bin | apply st_len | apply st_un); intro k' hk; simp [go_sem, thenR_ok, bin]; refine hk _ _ ?_; clear hk k'))
   | ((with_reducible (first | apply tk_bin | apply tk_len | apply tk_un)); (· intro w; simp [go_sem, bin]; rfl)))
  refine tk_ldn hS .blk (by kernel_rfl) rfl ?_
  repeat (first
   | (with_reducible (first | refine st_lens ?_ | refine st_nels ?_ | refine tk_nels ?_ | refine mv.mk ?_ | refine gdT_i ?_ | refine gdT_ft ?_ | refine gdT_tf ?_ | refine gdT_u ?_ | refine gd_u ?_ | refine gd_ft ?_ | refine gd_tf ?_ | refine gd_i ?_ | refine pk_t ?_ | refine pk_f ?_ | refine br_t ?_ | refine br_f ?_))
   | (with_reducible ((first | apply st_bin | apply st_len | apply st_un); intro k' hk; simp [go_sem, thenR_ok, bin]; refine hk _ _ ?_; clear hk k'))
   | ((with_reducible (first | apply tk_bin | apply tk_len | apply tk_un)); (· intro w; simp [go_sem, bin]; rfl)))
  refine tk_ldn hS (.tl .blk) (by kernel_rfl) (by rw [u8s_length, hh]) ?_
  repeat (first
   | (with_reducible (first | refine st_lens ?_ | refine st_nels ?_ | refine tk_nels ?_ | refine mv.mk ?_ | refine gdT_i ?_ | refine gdT_ft ?_ | refine gdT_tf ?_ | refine gdT_u ?_ | refine gd_u ?_ | refine gd_ft ?_ | refine gd_tf ?_ | refine gd_i ?_ | refine pk_t ?_ | refine pk_f ?_ | refine br_t ?_ | refine br_f ?_))
   | (with_reducible ((first | apply st_bin | apply st_len | apply st_un); intro k' hk; simp [go_sem, thenR_ok, bin]; refine hk _ _ ?_; clear hk k'))
   | ((with_reducible (first | apply tk_bin | apply tk_len | apply tk_un)); (· intro w; simp [go_sem, bin]; rfl)))
  refine cl (pool_Has (by omega) hh hs) ?_
  rintro _ w ⟨rfl, hs⟩
  refine ⟨hM hs, ?_⟩
  repeat (first
   | (with_reducible (first | refine st_lens ?_ | refine st_nels ?_ | refine tk_nels ?_ | refine mv.mk ?_ | refine gdT_i ?_ | refine gdT_ft ?_ | refine gdT_tf ?_ | refine gdT_u ?_ | refine gd_u ?_ | refine gd_ft ?_ | refine gd_tf ?_ | refine gd_i ?_ | refine pk_t ?_ | refine pk_f ?_ | refine br_t ?_ | refine br_f ?_))
   | (with_reducible ((first | apply st_bin | apply st_len | apply st_un); intro k' hk; simp [go_sem, thenR_ok, bin]; refine hk _ _ ?_; clear hk k'))
   | ((with_reducible (first | apply tk_bin | apply tk_len | apply tk_un)); (· intro w; simp [go_sem, bin]; rfl)))
  refine cl (isthmusref18_Has (.tl (.tl (.tl (.tl .hd)))) (by rw [List.length_map]; omega) (fun z hz => by
    obtain ⟨y, hy, rfl⟩ := List.mem_map.1 hz
    have := ok.small y hy
    show y.b.length ≤ _
    omega) hh hs) ?_
  rintro _ w ⟨rfl, hs⟩
  rw [hasR_toR]
  refine ⟨hM hs, ?_⟩
  have hbb : ∀ (q : Bool) (o1 o2 : Operand) (w : World), (bin .neq T.bool o1 o2 (.bool q) (.bool q)).run Tryz.prog w = .ok (.bool false) w := fun q o1 o2 w => by cases q <;> simp [go_sem, bin]
  repeat with_reducible refine mv.mk ?_
  refine gdT_i ?_
  refine tk_run (hbb _ _ _) ?_
  repeat (first
   | (with_reducible (first | refine st_lens ?_ | refine st_nels ?_ | refine tk_nels ?_ | refine mv.mk ?_ | refine gdT_i ?_ | refine gdT_ft ?_ | refine gdT_tf ?_ | refine gdT_u ?_ | refine gd_u ?_ | refine gd_ft ?_ | refine gd_tf ?_ | refine gd_i ?_ | refine pk_t ?_ | refine pk_f ?_ | refine br_t ?_ | refine br_f ?_))
   | (with_reducible ((first | apply st_bin | apply st_len | apply st_un); intro k' hk; simp [go_sem, thenR_ok, bin]; refine hk _ _ ?_; clear hk k'))
   | ((with_reducible (first | apply tk_bin | apply tk_len | apply tk_un)); (· intro w; simp [go_sem, bin]; rfl)))
  refine hN hs ?_
  repeat (first
   | (with_reducible (first | refine st_lens ?_ | refine st_nels ?_ | refine tk_nels ?_ | refine mv.mk ?_ | refine gdT_i ?_ | refine gdT_ft ?_ | refine gdT_tf ?_ | refine gdT_u ?_ | refine gd_u ?_ | refine gd_ft ?_ | refine gd_tf ?_ | refine gd_i ?_ | refine pk_t ?_ | refine pk_f ?_ | refine br_t ?_ | refine br_f ?_))
   | (with_reducible ((first | apply st_bin | apply st_len | apply st_un); intro k' hk; simp [go_sem, thenR_ok, bin]; refine hk _ _ ?_; clear hk k'))
   | ((with_reducible (first | apply tk_bin | apply tk_len | apply tk_un)); (· intro w; simp [go_sem, bin]; rfl)))
  refine tk_ldn hS (.tl .blk) (by kernel_rfl) (by rw [u8s_length, hh]) ?_
  repeat (first
   | (with_reducible (first | refine st_lens ?_ | refine st_nels ?_ | refine tk_nels ?_ | refine mv.mk ?_ | refine gdT_i ?_ | refine gdT_ft ?_ | refine gdT_tf ?_ | refine gdT_u ?_ | refine gd_u ?_ | refine gd_ft ?_ | refine gd_tf ?_ | refine gd_i ?_ | refine pk_t ?_ | refine pk_f ?_ | refine br_t ?_ | refine br_f ?_))
   | (with_reducible ((first | apply st_bin | apply st_len | apply st_un); intro k' hk; simp [go_sem, thenR_ok, bin]; refine hk _ _ ?_; clear hk k'))
   | ((with_reducible (first | apply tk_bin | apply tk_len | apply tk_un)); (· intro w; simp [go_sem, bin]; rfl)))
  refine tk_ldn hS .blk (by kernel_rfl) rfl ?_
  repeat (first
   | (with_reducible (first | refine st_lens ?_ | refine st_nels ?_ | refine tk_nels ?_ | refine mv.mk ?_ | refine gdT_i ?_ | refine gdT_ft ?_ | refine gdT_tf ?_ | refine gdT_u ?_ | refine gd_u ?_ | refine gd_ft ?_ | refine gd_tf ?_ | refine gd_i ?_ | refine pk_t ?_ | refine pk_f ?_ | refine br_t ?_ | refine br_f ?_))
   | (with_reducible ((first | apply st_bin | apply st_len | apply st_un); intro k' hk; simp [go_sem, thenR_ok, bin]; refine hk _ _ ?_; clear hk k'))
   | ((with_reducible (first | apply tk_bin | apply tk_len | apply tk_un)); (· intro w; simp [go_sem, bin]; rfl)))
  refine tk_ldn hS (.tl .blk) (by kernel_rfl) (by rw [u8s_length, hh]) ?_
  repeat (first
   | (with_reducible (first | refine st_lens ?_ | refine st_nels ?_ | refine tk_nels ?_ | refine mv.mk ?_ | refine gdT_i ?_ | refine gdT_ft ?_ | refine gdT_tf ?_ | refine gdT_u ?_ | refine gd_u ?_ | refine gd_ft ?_ | refine gd_tf ?_ | refine gd_i ?_ | refine pk_t ?_ | refine pk_f ?_ | refine br_t ?_ | refine br_f ?_))
   | (with_reducible ((first | apply st_bin | apply st_len | apply st_un); intro k' hk; simp [go_sem, thenR_ok, bin]; refine hk _ _ ?_; clear hk k'))
   | ((with_reducible (first | apply tk_bin | apply tk_len | apply tk_un)); (· intro w; simp [go_sem, bin]; rfl)))
  refine cl (pool_Knows (p := p) (by omega) (by omega) hh (hs.sbl (.cons .hd (.cons .hd .all))) .hd) ?_
  rintro _ w ⟨rfl, hs⟩
  refine ⟨hM hs, ?_⟩
  repeat (first
   | (with_reducible (first | refine st_lens ?_ | refine st_nels ?_ | refine tk_nels ?_ | refine mv.mk ?_ | refine gdT_i ?_ | refine gdT_ft ?_ | refine gdT_tf ?_ | refine gdT_u ?_ | refine gd_u ?_ | refine gd_ft ?_ | refine gd_tf ?_ | refine gd_i ?_ | refine pk_t ?_ | refine pk_f ?_ | refine br_t ?_ | refine br_f ?_))
   | (with_reducible ((first | apply st_bin | apply st_len | apply st_un); intro k' hk; simp [go_sem, thenR_ok, bin]; refine hk _ _ ?_; clear hk k'))
   | ((with_reducible (first | apply tk_bin | apply tk_len | apply tk_un)); (· intro w; simp [go_sem, bin]; rfl)))
  refine cl (isthmusref18_Knows (.tl (.tl (.tl (.tl .hd)))) (.tl (.tl (.tl (.tl (.tl .hd))))) (by rw [List.length_map]; omega) (by omega) (fun z hz => by
    obtain ⟨y, hy, rfl⟩ := List.mem_map.1 hz
    have := ok.small y hy
    show y.b.length ≤ _
    omega) hh hs) ?_
  rintro _ w ⟨rfl, hs⟩
  rw [knowsR_toR]
  refine ⟨hM hs, ?_⟩
  repeat with_reducible refine mv.mk ?_
  refine gdT_i ?_
  refine tk_run (hbb _ _ _) ?_
  repeat (first
   | (with_reducible (first | refine st_lens ?_ | refine st_nels ?_ | refine tk_nels ?_ | refine mv.mk ?_ | refine gdT_i ?_ | refine gdT_ft ?_ | refine gdT_tf ?_ | refine gdT_u ?_ | refine gd_u ?_ | refine gd_ft ?_ | refine gd_tf ?_ | refine gd_i ?_ | refine pk_t ?_ | refine pk_f ?_ | refine br_t ?_ | refine br_f ?_))
   | (with_reducible ((first | apply st_bin | apply st_len | apply st_un); intro k' hk; simp [go_sem, thenR_ok, bin]; refine hk _ _ ?_; clear hk k'))
   | ((with_reducible (first | apply tk_bin | apply tk_len | apply tk_un)); (· intro w; simp [go_sem, bin]; rfl)))
  simp only [h12]
  repeat (first
   | (with_reducible (first | refine st_lens ?_ | refine st_nels ?_ | refine tk_nels ?_ | refine mv.mk ?_ | refine gdT_i ?_ | refine gdT_ft ?_ | refine gdT_tf ?_ | refine gdT_u ?_ | refine gd_u ?_ | refine gd_ft ?_ | refine gd_tf ?_ | refine gd_i ?_ | refine pk_t ?_ | refine pk_f ?_ | refine br_t ?_ | refine br_f ?_))
   | (with_reducible ((first | apply st_bin | apply st_len | apply st_un); intro k' hk; simp [go_sem, thenR_ok, bin]; refine hk _ _ ?_; clear hk k'))
   | ((with_reducible (first | apply tk_bin | apply tk_len | apply tk_un)); (· intro w; simp [go_sem, bin]; rfl)))
  rw [i64_succ (by omega), hx4]
  refine ⟨⟨i + 1, p, lv, kv, _, kv2, _, rfl, by omega, ok, rfl, hkv, hs.sbl (.cons .hd (.cons .hd (.cons .hd (.cons .hd (.cons .hd (.cons .hd (.drop (.drop hLL))))))))⟩, ?_⟩
  show 60 - ((i + 1 : Nat) : Int).toNat < RunM [x1 4, _, _, _, _, _, _, _, _, _, _, _] w1
  simp [RunM]
  omega
end
end Go.Proofs.YtgagekffmamldaaGreatDoor
