/- The document's files: names, places, steps. -/
import Derived.Test.YtiaiglgfangedaaDoorG3
import Derived.Test.YtiaiglgfangedaaDoorGL
import Derived.Test.YtiaiglgfangedaaDoorKX
import Derived.Test.YtiaiglgfangedaaDoorFQ
set_option linter.unusedVariables false
set_option linter.unusedSimpArgs false
set_option linter.unusedSectionVars false
namespace Go.Proofs.YtiaiglgfangedaaDoor
open Go Go.Isk Go.RowKit
set_option maxRecDepth 20000
def F.isthmusref04_find_r (k : Value → World → Prop) (a1 t2 : Value) (x1 : Env) (w : World) : Prop :=
  mv (x1 6) fun t24 =>
  mv (x1 6) fun t25 =>
  tk Tryd.prog (fun w' => w' = w.drew) (Instr.fieldAt 42 t2 0) fun t26 =>
  tk Tryd.prog (fun w' => w' = w.drew) (Instr.loadAt 40 t26) fun t27 =>
  tk Tryd.prog (fun w' => w' = w.drew) (Builtin.len_ #[40] 3 #[t27]) fun t28 =>
  tk Tryd.prog (fun w' => w' = w.drew) (bin .lss 3 (.tmp 25) (.tmp 28) t25 t28) fun t29 =>
  mv t29 fun t30 =>
  gdT t30 true (fun k9 => tk Tryd.prog (fun w' => w' = w.drew) (Instr.fieldAt 42 t2 0) k9) fun t31 =>
  gdT t30 true (fun k10 => tk Tryd.prog (fun w' => w' = w.drew) (Instr.loadAt 40 t31) k10) fun t32 =>
  gdT t30 true (fun k11 => mv (x1 6) k11) fun t33 =>
  gdT t30 true (fun k12 => tk Tryd.prog (fun w' => w' = w.drew) (Instr.indexAt 40 t32 t33) k12) fun t34 =>
  gdT t30 true (fun k13 => tk Tryd.prog (fun w' => w' = w.drew) (Instr.fieldAt 80 t34 0) k13) fun t35 =>
  gdT t30 true (fun k14 => tk Tryd.prog (fun w' => w' = w.drew) (Instr.loadAt 9 t35) k14) fun t36 =>
  gdT t30 true (fun k15 => mv a1 k15) fun t37 =>
  gdT t30 true (fun k16 => tk Tryd.prog (fun w' => w' = w.drew) (bin .eql 9 (.tmp 36) (.tmp 37) t36 t37) k16) fun t38 =>
  pk t30 t38 (.bool false) fun t39 =>
  mv t24 fun t4_1 =>
  mv t39 fun t5_1 =>
  k (.tuple #[t4_1, t5_1]) w.drew
abbrev rfV (x : RFile) : List Value := rfileC (str x.name) (str x.safe) (str x.loose)
def rfF : Fam RFile := fun cs x => pureF (cs = rfV x)
abbrev rfsV (r : RFS) (sv : Value) : List Value := rfsC sv (.int .i64 r.steps) (.bool r.armed) (.int .i64 r.left) (.bool r.down)
def RfsS (S : Nat → Prop) (w : World) (cs : List Value) (r : RFS) : Prop := ∃ sv, cs = rfsV r sv ∧ (listF rfF 3 sv r.l).holds S w
theorem RfsS.keep {S D : Nat → Prop} {w w' : World} {cs : List Value} {x : RFS} (h : RfsS S w cs x) (hu : Upd D w w') (hd : ∀ k, S k → ¬ D k) : RfsS S w' cs x := by
  obtain ⟨sv, rfl, h⟩ := h
  exact ⟨sv, rfl, (listF _ _ _ _).keep h hu hd⟩
theorem RfsS.mono {S S' : Nat → Prop} {w : World} {cs : List Value} {x : RFS} (h : RfsS S w cs x) (hs : ∀ k, S k → k < w.heap.size → S' k) : RfsS S' w cs x := by
  obtain ⟨sv, rfl, h⟩ := h
  exact ⟨sv, rfl, (listF _ _ _ _).mono h hs⟩
def rfsF : Fam RFS := fun cs x => ⟨fun S w => RfsS S w cs x, RfsS.keep, RfsS.mono⟩
section
variable {b : Base} {w : World} {L R : List It} {g : Nat} {v sv : Value} {s n : Bytes} {cs : List Value} {r : RFS}
theorem rfT : slT Tryd.prog T.sl_isthmusref04_File T.isthmusref04_File 3 48 = true := by kernel_rfl
theorem rfV_one (x : RFile) : ∀ u ∈ rfV x, u.oneCell' = true := rfileC_one rfl rfl rfl
theorem rfsV_one {A : Option Addr} {m c : Nat} (r : RFS) : ∀ u ∈ rfsV r (.slice A m c), u.oneCell' = true := rfsC_one rfl rfl rfl rfl rfl
theorem rfs_open (hs : Isk.Sep b w L) (hm : Ins L (rfsF cs r).it) : ∃ A c, cs = rfsV r (.slice A r.l.length c) ∧ Isk.Sep b w ((listF rfF 3 (.slice A r.l.length c) r.l).it :: L) := by
  obtain ⟨sv, rfl, h⟩ : RfsS _ _ cs r := hs.get hm
  have hs2 := hs.fact h
  obtain ⟨A, c, rfl⟩ := hs2.lst_len .lst
  exact ⟨A, c, rfl, hs2⟩
theorem badF_split (c : UInt8) : badF c = (decide ((c.toNat : Int) < 33) || decide ((126 : Int) < (c.toNat : Int))) := by
  unfold badF
  congr 1 <;> (rw [Bool.eq_iff_iff]; simp; omega)
theorem isthmusref04_named (hs : Sep b w L) (hn : s.length ≤ 4611686018427387904) : C Tryd.prog N.isthmusref04_named #[str s] w fun r w' => r = .bool (namedF s) ∧ Sep b w' L := by
  refine C.isthmusref04_named ?_
  unfold F.isthmusref04_named
  repeat with_reducible refine mv.mk ?_
  refine lp_by (fun us w' => ∃ (i : Nat), us = [.bool false, .int .i64 i] ∧ i ≤ s.length ∧ (∀ j (h : j < s.length), j < i → badF s[j] = false) ∧ Sep b w' L) (fun us _ => match us with | [_, .int _ m] => s.length - m.toNat | _ => 0) ⟨0, rfl, Nat.zero_le _, fun j h hj => absurd hj (Nat.not_lt_zero _), hs⟩ ?_
  clear hs
  rintro x w ⟨i, hx, hi, hgood, hs⟩
  simp only [List.cons.injEq, and_true] at hx
  simp only [hx.1, hx.2]
  clear hx
  repeat (first
   | (with_reducible (first | refine st_lens ?_ | refine st_eqls ?_ | refine st_nels ?_ | refine tk_eqls ?_ | refine tk_nels ?_ | refine mv.mk ?_ | refine nk_p ?_ | refine gdT_i ?_ | refine gdT_ft ?_ | refine gdT_tf ?_ | refine gdT_u ?_ | refine gd_u ?_ | refine gd_ft ?_ | refine gd_tf ?_ | refine gd_i ?_ | refine pk_t ?_ | refine pk_f ?_ | refine br_t ?_ | refine br_f ?_ | refine sp_boxa hs fun g w hs => ?_))
   | (with_reducible ((first | apply st_bin | apply st_ext | apply st_len | apply st_un | apply st_conv | apply st_mki | apply st_fld | apply st_cap | apply st_max | apply st_min | apply st_ixv | apply st_mkf); intro k' hk; simp [go_sem, thenR_ok, bin]; refine hk _ _ ?_; clear hk k'))
   | ((with_reducible (first | apply tk_bin | apply tk_ext | apply tk_len | apply tk_un)); (· intro w; simp [go_sem, bin]; rfl))
   | ((with_reducible apply sp_newr hs); (· kernel_rfl); intro g w hs))
  refine br_split (fun hq => ?_) (fun hq => ?_)
  · have hi' : i < s.length := by have := of_decide_eq_true hq; omega
    have hbad : badF s[i] = true → namedF s = false := fun h => by
      have : s.any badF = true := List.any_eq_true.2 ⟨_, List.getElem_mem hi', h⟩
      simp [namedF, this]
    have hsp := badF_split s[i]
    repeat with_reducible refine mv.mk ?_
    refine st_of (idxs_run hi' w) ?_
    repeat (first
     | (with_reducible (first | refine st_lens ?_ | refine st_eqls ?_ | refine st_nels ?_ | refine tk_eqls ?_ | refine tk_nels ?_ | refine mv.mk ?_ | refine nk_p ?_ | refine gdT_i ?_ | refine gdT_ft ?_ | refine gdT_tf ?_ | refine gdT_u ?_ | refine gd_u ?_ | refine gd_ft ?_ | refine gd_tf ?_ | refine gd_i ?_ | refine pk_t ?_ | refine pk_f ?_ | refine br_t ?_ | refine br_f ?_ | refine sp_boxa hs fun g w hs => ?_))
     | (with_reducible ((first | apply st_bin | apply st_ext | apply st_len | apply st_un | apply st_conv | apply st_mki | apply st_fld | apply st_cap | apply st_max | apply st_min | apply st_ixv | apply st_mkf); intro k' hk; simp [go_sem, thenR_ok, bin]; refine hk _ _ ?_; clear hk k'))
     | ((with_reducible (first | apply tk_bin | apply tk_ext | apply tk_len | apply tk_un)); (· intro w; simp [go_sem, bin]; rfl))
     | ((with_reducible apply sp_newr hs); (· kernel_rfl); intro g w hs))
    cases h1 : decide (((s[i]).toNat : Int) < 33) with
    | true =>
      repeat (first
       | (with_reducible (first | refine st_lens ?_ | refine st_eqls ?_ | refine st_nels ?_ | refine tk_eqls ?_ | refine tk_nels ?_ | refine mv.mk ?_ | refine nk_p ?_ | refine gdT_i ?_ | refine gdT_ft ?_ | refine gdT_tf ?_ | refine gdT_u ?_ | refine gd_u ?_ | refine gd_ft ?_ | refine gd_tf ?_ | refine gd_i ?_ | refine pk_t ?_ | refine pk_f ?_ | refine br_t ?_ | refine br_f ?_ | refine sp_boxa hs fun g w hs => ?_))
       | (with_reducible ((first | apply st_bin | apply st_ext | apply st_len | apply st_un | apply st_conv | apply st_mki | apply st_fld | apply st_cap | apply st_max | apply st_min | apply st_ixv | apply st_mkf); intro k' hk; simp [go_sem, thenR_ok, bin]; refine hk _ _ ?_; clear hk k'))
       | ((with_reducible (first | apply tk_bin | apply tk_ext | apply tk_len | apply tk_un)); (· intro w; simp [go_sem, bin]; rfl))
       | ((with_reducible apply sp_newr hs); (· kernel_rfl); intro g w hs))
      exact ⟨by rw [hbad (by rw [hsp, h1]; rfl)], hs⟩
    | false =>
      repeat with_reducible refine mv.mk ?_
      refine gd_i ?_
      repeat with_reducible refine mv.mk ?_
      refine gd_i ?_
      repeat with_reducible refine mv.mk ?_
      refine gd_i ?_
      refine st_of (idxs_run hi' w) ?_
      repeat (first
       | (with_reducible (first | refine st_lens ?_ | refine st_eqls ?_ | refine st_nels ?_ | refine tk_eqls ?_ | refine tk_nels ?_ | refine mv.mk ?_ | refine nk_p ?_ | refine gdT_i ?_ | refine gdT_ft ?_ | refine gdT_tf ?_ | refine gdT_u ?_ | refine gd_u ?_ | refine gd_ft ?_ | refine gd_tf ?_ | refine gd_i ?_ | refine pk_t ?_ | refine pk_f ?_ | refine br_t ?_ | refine br_f ?_ | refine sp_boxa hs fun g w hs => ?_))
       | (with_reducible ((first | apply st_bin | apply st_ext | apply st_len | apply st_un | apply st_conv | apply st_mki | apply st_fld | apply st_cap | apply st_max | apply st_min | apply st_ixv | apply st_mkf); intro k' hk; simp [go_sem, thenR_ok, bin]; refine hk _ _ ?_; clear hk k'))
       | ((with_reducible (first | apply tk_bin | apply tk_ext | apply tk_len | apply tk_un)); (· intro w; simp [go_sem, bin]; rfl))
       | ((with_reducible apply sp_newr hs); (· kernel_rfl); intro g w hs))
      cases h2 : decide ((126 : Int) < ((s[i]).toNat : Int)) with
      | true =>
        repeat (first
         | (with_reducible (first | refine st_lens ?_ | refine st_eqls ?_ | refine st_nels ?_ | refine tk_eqls ?_ | refine tk_nels ?_ | refine mv.mk ?_ | refine nk_p ?_ | refine gdT_i ?_ | refine gdT_ft ?_ | refine gdT_tf ?_ | refine gdT_u ?_ | refine gd_u ?_ | refine gd_ft ?_ | refine gd_tf ?_ | refine gd_i ?_ | refine pk_t ?_ | refine pk_f ?_ | refine br_t ?_ | refine br_f ?_ | refine sp_boxa hs fun g w hs => ?_))
         | (with_reducible ((first | apply st_bin | apply st_ext | apply st_len | apply st_un | apply st_conv | apply st_mki | apply st_fld | apply st_cap | apply st_max | apply st_min | apply st_ixv | apply st_mkf); intro k' hk; simp [go_sem, thenR_ok, bin]; refine hk _ _ ?_; clear hk k'))
         | ((with_reducible (first | apply tk_bin | apply tk_ext | apply tk_len | apply tk_un)); (· intro w; simp [go_sem, bin]; rfl))
         | ((with_reducible apply sp_newr hs); (· kernel_rfl); intro g w hs))
        exact ⟨by rw [hbad (by rw [hsp, h1, h2]; rfl)], hs⟩
      | false =>
        repeat (first
         | (with_reducible (first | refine st_lens ?_ | refine st_eqls ?_ | refine st_nels ?_ | refine tk_eqls ?_ | refine tk_nels ?_ | refine mv.mk ?_ | refine nk_p ?_ | refine gdT_i ?_ | refine gdT_ft ?_ | refine gdT_tf ?_ | refine gdT_u ?_ | refine gd_u ?_ | refine gd_ft ?_ | refine gd_tf ?_ | refine gd_i ?_ | refine pk_t ?_ | refine pk_f ?_ | refine br_t ?_ | refine br_f ?_ | refine sp_boxa hs fun g w hs => ?_))
         | (with_reducible ((first | apply st_bin | apply st_ext | apply st_len | apply st_un | apply st_conv | apply st_mki | apply st_fld | apply st_cap | apply st_max | apply st_min | apply st_ixv | apply st_mkf); intro k' hk; simp [go_sem, thenR_ok, bin]; refine hk _ _ ?_; clear hk k'))
         | ((with_reducible (first | apply tk_bin | apply tk_ext | apply tk_len | apply tk_un)); (· intro w; simp [go_sem, bin]; rfl))
         | ((with_reducible apply sp_newr hs); (· kernel_rfl); intro g w hs))
        rw [i64_succ (by omega)]
        refine ⟨⟨i + 1, rfl, hi', fun j h hj => ?_, hs⟩, by simp; omega⟩
        rcases Nat.lt_or_ge j i with h3 | h3
        · exact hgood j h h3
        · obtain rfl : j = i := by omega
          rw [hsp, h1, h2]; rfl
  obtain rfl : i = s.length := by have := of_decide_eq_false hq; omega
  have hany : s.any badF = false := by
    rw [List.any_eq_false]
    intro c hc
    obtain ⟨j, hj, rfl⟩ := List.mem_iff_getElem.1 hc
    rw [hgood j hj hj]
    simp
  repeat (first
   | (with_reducible (first | refine st_lens ?_ | refine st_eqls ?_ | refine st_nels ?_ | refine tk_eqls ?_ | refine tk_nels ?_ | refine mv.mk ?_ | refine nk_p ?_ | refine gdT_i ?_ | refine gdT_ft ?_ | refine gdT_tf ?_ | refine gdT_u ?_ | refine gd_u ?_ | refine gd_ft ?_ | refine gd_tf ?_ | refine gd_i ?_ | refine pk_t ?_ | refine pk_f ?_ | refine br_t ?_ | refine br_f ?_ | refine sp_boxa hs fun g w hs => ?_))
   | (with_reducible ((first | apply st_bin | apply st_ext | apply st_len | apply st_un | apply st_conv | apply st_mki | apply st_fld | apply st_cap | apply st_max | apply st_min | apply st_ixv | apply st_mkf); intro k' hk; simp [go_sem, thenR_ok, bin]; refine hk _ _ ?_; clear hk k'))
   | ((with_reducible (first | apply tk_bin | apply tk_ext | apply tk_len | apply tk_un)); (· intro w; simp [go_sem, bin]; rfl))
   | ((with_reducible apply sp_newr hs); (· kernel_rfl); intro g w hs))
  by_cases h1 : 0 < s.length
  · rw [decide_eq_true h1]
    repeat (first
     | (with_reducible (first | refine st_lens ?_ | refine st_eqls ?_ | refine st_nels ?_ | refine tk_eqls ?_ | refine tk_nels ?_ | refine mv.mk ?_ | refine nk_p ?_ | refine gdT_i ?_ | refine gdT_ft ?_ | refine gdT_tf ?_ | refine gdT_u ?_ | refine gd_u ?_ | refine gd_ft ?_ | refine gd_tf ?_ | refine gd_i ?_ | refine pk_t ?_ | refine pk_f ?_ | refine br_t ?_ | refine br_f ?_ | refine sp_boxa hs fun g w hs => ?_))
     | (with_reducible ((first | apply st_bin | apply st_ext | apply st_len | apply st_un | apply st_conv | apply st_mki | apply st_fld | apply st_cap | apply st_max | apply st_min | apply st_ixv | apply st_mkf); intro k' hk; simp [go_sem, thenR_ok, bin]; refine hk _ _ ?_; clear hk k'))
     | ((with_reducible (first | apply tk_bin | apply tk_ext | apply tk_len | apply tk_un)); (· intro w; simp [go_sem, bin]; rfl))
     | ((with_reducible apply sp_newr hs); (· kernel_rfl); intro g w hs))
    refine ⟨?_, hs⟩
    congr 1
    rw [namedF, hany, Bool.eq_iff_iff]
    simp only [decide_eq_true_eq, Bool.and_eq_true, Bool.not_false, and_true]
    omega
  · rw [decide_eq_false h1]
    repeat (first
     | (with_reducible (first | refine st_lens ?_ | refine st_eqls ?_ | refine st_nels ?_ | refine tk_eqls ?_ | refine tk_nels ?_ | refine mv.mk ?_ | refine nk_p ?_ | refine gdT_i ?_ | refine gdT_ft ?_ | refine gdT_tf ?_ | refine gdT_u ?_ | refine gd_u ?_ | refine gd_ft ?_ | refine gd_tf ?_ | refine gd_i ?_ | refine pk_t ?_ | refine pk_f ?_ | refine br_t ?_ | refine br_f ?_ | refine sp_boxa hs fun g w hs => ?_))
     | (with_reducible ((first | apply st_bin | apply st_ext | apply st_len | apply st_un | apply st_conv | apply st_mki | apply st_fld | apply st_cap | apply st_max | apply st_min | apply st_ixv | apply st_mkf); intro k' hk; simp [go_sem, thenR_ok, bin]; refine hk _ _ ?_; clear hk k'))
     | ((with_reducible (first | apply tk_bin | apply tk_ext | apply tk_len | apply tk_un)); (· intro w; simp [go_sem, bin]; rfl))
     | ((with_reducible apply sp_newr hs); (· kernel_rfl); intro g w hs))
    refine ⟨?_, hs⟩
    rw [namedF, decide_eq_false (by omega)]
    rfl
theorem find_r {i A c} (hs : Sep b w (blkI g T.isthmusref04_FS (rfsV r (.slice A r.l.length c)) :: (listF rfF 3 (.slice A r.l.length c) r.l).it :: L)) (hi : i = posR n r.l) (hl : r.l.length ≤ 1000000) :
    F.isthmusref04_find_r (fun v w' => v = .tuple #[.int .i64 (posR n r.l), .bool (isR n r.l)] ∧ Sep b w' L) (str n) (.pointer (some ⟨g, 0, none⟩)) (fun _ => .int .i64 (i : Int)) w := by
  unfold F.isthmusref04_find_r
  by_cases hil : i < r.l.length
  · obtain ⟨g1, o1, y, hix, hyl, hs⟩ := hs.el (P := Tryd.prog) (T := T.sl_isthmusref04_File) (.tl .hd) rfT i hil
    have hy : y = rfV r.l[i] := hs.get (.tl .hd)
    subst hy
    have hm := hs.drew.mayr .all
    have hS : ∀ w', w' = w.drew → Mayr _ w' := fun w' e => e.symm ▸ hm
    repeat (first
     | (with_reducible refine rfs.a0 ?_)
     | ((with_reducible apply rfs.r0 hs); (· (with_reducible (repeat (first | exact .blk | exact .rng | apply Rng.tl)))))
     | (with_reducible refine rfs.c0 ?_)
     | ((with_reducible apply rfs.e0); (· first | exact hS | exact hid); (· (with_reducible (repeat (first | exact .blk | exact .rng | apply Rng.tl)))))
     | (with_reducible refine rfs.a1 ?_)
     | ((with_reducible apply rfs.r1 hs); (· (with_reducible (repeat (first | exact .blk | exact .rng | apply Rng.tl)))))
     | (with_reducible refine rfs.c1 ?_)
     | ((with_reducible apply rfs.e1); (· first | exact hS | exact hid); (· (with_reducible (repeat (first | exact .blk | exact .rng | apply Rng.tl)))))
     | (with_reducible refine rfs.a2 ?_)
     | ((with_reducible apply rfs.r2 hs); (· (with_reducible (repeat (first | exact .blk | exact .rng | apply Rng.tl)))))
     | (with_reducible refine rfs.c2 ?_)
     | ((with_reducible apply rfs.e2); (· first | exact hS | exact hid); (· (with_reducible (repeat (first | exact .blk | exact .rng | apply Rng.tl)))))
     | (with_reducible refine rfs.a3 ?_)
     | ((with_reducible apply rfs.r3 hs); (· (with_reducible (repeat (first | exact .blk | exact .rng | apply Rng.tl)))))
     | (with_reducible refine rfs.c3 ?_)
     | ((with_reducible apply rfs.e3); (· first | exact hS | exact hid); (· (with_reducible (repeat (first | exact .blk | exact .rng | apply Rng.tl)))))
     | (with_reducible refine rfs.a4 ?_)
     | ((with_reducible apply rfs.r4 hs); (· (with_reducible (repeat (first | exact .blk | exact .rng | apply Rng.tl)))))
     | (with_reducible refine rfs.c4 ?_)
     | ((with_reducible apply rfs.e4); (· first | exact hS | exact hid); (· (with_reducible (repeat (first | exact .blk | exact .rng | apply Rng.tl)))))
     | (with_reducible (first | refine st_lens ?_ | refine st_eqls ?_ | refine st_nels ?_ | refine tk_eqls ?_ | refine tk_nels ?_ | refine mv.mk ?_ | refine nk_p ?_ | refine gdT_i ?_ | refine gdT_ft ?_ | refine gdT_tf ?_ | refine gdT_u ?_ | refine gd_u ?_ | refine gd_ft ?_ | refine gd_tf ?_ | refine gd_i ?_ | refine pk_t ?_ | refine pk_f ?_ | refine br_t ?_ | refine br_f ?_ | refine sp_boxa hs fun g w hs => ?_))
     | (with_reducible ((first | apply st_bin | apply st_ext | apply st_len | apply st_un | apply st_conv | apply st_mki | apply st_fld | apply st_cap | apply st_max | apply st_min | apply st_ixv | apply st_mkf); intro k' hk; simp [go_sem, thenR_ok, bin]; refine hk _ _ ?_; clear hk k'))
     | ((with_reducible (first | apply tk_bin | apply tk_ext | apply tk_len | apply tk_un)); (· intro w; simp [go_sem, bin]; rfl))
     | ((with_reducible apply sp_newr hs); (· kernel_rfl); intro g w hs))
    rw [decide_eq_true hil]
    repeat (first
     | (with_reducible refine rfs.a0 ?_)
     | ((with_reducible apply rfs.r0 hs); (· (with_reducible (repeat (first | exact .blk | exact .rng | apply Rng.tl)))))
     | (with_reducible refine rfs.c0 ?_)
     | ((with_reducible apply rfs.e0); (· first | exact hS | exact hid); (· (with_reducible (repeat (first | exact .blk | exact .rng | apply Rng.tl)))))
     | (with_reducible refine rfs.a1 ?_)
     | ((with_reducible apply rfs.r1 hs); (· (with_reducible (repeat (first | exact .blk | exact .rng | apply Rng.tl)))))
     | (with_reducible refine rfs.c1 ?_)
     | ((with_reducible apply rfs.e1); (· first | exact hS | exact hid); (· (with_reducible (repeat (first | exact .blk | exact .rng | apply Rng.tl)))))
     | (with_reducible refine rfs.a2 ?_)
     | ((with_reducible apply rfs.r2 hs); (· (with_reducible (repeat (first | exact .blk | exact .rng | apply Rng.tl)))))
     | (with_reducible refine rfs.c2 ?_)
     | ((with_reducible apply rfs.e2); (· first | exact hS | exact hid); (· (with_reducible (repeat (first | exact .blk | exact .rng | apply Rng.tl)))))
     | (with_reducible refine rfs.a3 ?_)
     | ((with_reducible apply rfs.r3 hs); (· (with_reducible (repeat (first | exact .blk | exact .rng | apply Rng.tl)))))
     | (with_reducible refine rfs.c3 ?_)
     | ((with_reducible apply rfs.e3); (· first | exact hS | exact hid); (· (with_reducible (repeat (first | exact .blk | exact .rng | apply Rng.tl)))))
     | (with_reducible refine rfs.a4 ?_)
     | ((with_reducible apply rfs.r4 hs); (· (with_reducible (repeat (first | exact .blk | exact .rng | apply Rng.tl)))))
     | (with_reducible refine rfs.c4 ?_)
     | ((with_reducible apply rfs.e4); (· first | exact hS | exact hid); (· (with_reducible (repeat (first | exact .blk | exact .rng | apply Rng.tl)))))
     | (with_reducible (first | refine st_lens ?_ | refine st_eqls ?_ | refine st_nels ?_ | refine tk_eqls ?_ | refine tk_nels ?_ | refine mv.mk ?_ | refine nk_p ?_ | refine gdT_i ?_ | refine gdT_ft ?_ | refine gdT_tf ?_ | refine gdT_u ?_ | refine gd_u ?_ | refine gd_ft ?_ | refine gd_tf ?_ | refine gd_i ?_ | refine pk_t ?_ | refine pk_f ?_ | refine br_t ?_ | refine br_f ?_ | refine sp_boxa hs fun g w hs => ?_))
     | (with_reducible ((first | apply st_bin | apply st_ext | apply st_len | apply st_un | apply st_conv | apply st_mki | apply st_fld | apply st_cap | apply st_max | apply st_min | apply st_ixv | apply st_mkf); intro k' hk; simp [go_sem, thenR_ok, bin]; refine hk _ _ ?_; clear hk k'))
     | ((with_reducible (first | apply tk_bin | apply tk_ext | apply tk_len | apply tk_un)); (· intro w; simp [go_sem, bin]; rfl))
     | ((with_reducible apply sp_newr hs); (· kernel_rfl); intro g w hs))
    refine tk_run (hix .i64) ?_
    repeat (first
     | (with_reducible refine rfile.a0 ?_)
     | ((with_reducible apply rfile.r0 hs); (· (with_reducible (repeat (first | exact .blk | exact .rng | apply Rng.tl)))))
     | (with_reducible refine rfile.c0 ?_)
     | ((with_reducible apply rfile.e0); (· first | exact hS | exact hid); (· (with_reducible (repeat (first | exact .blk | exact .rng | apply Rng.tl)))))
     | (with_reducible refine rfile.a1 ?_)
     | ((with_reducible apply rfile.r1 hs); (· (with_reducible (repeat (first | exact .blk | exact .rng | apply Rng.tl)))))
     | (with_reducible refine rfile.c1 ?_)
     | ((with_reducible apply rfile.e1); (· first | exact hS | exact hid); (· (with_reducible (repeat (first | exact .blk | exact .rng | apply Rng.tl)))))
     | (with_reducible refine rfile.a2 ?_)
     | ((with_reducible apply rfile.r2 hs); (· (with_reducible (repeat (first | exact .blk | exact .rng | apply Rng.tl)))))
     | (with_reducible refine rfile.c2 ?_)
     | ((with_reducible apply rfile.e2); (· first | exact hS | exact hid); (· (with_reducible (repeat (first | exact .blk | exact .rng | apply Rng.tl)))))
     | (with_reducible (first | refine st_lens ?_ | refine st_eqls ?_ | refine st_nels ?_ | refine tk_eqls ?_ | refine tk_nels ?_ | refine mv.mk ?_ | refine nk_p ?_ | refine gdT_i ?_ | refine gdT_ft ?_ | refine gdT_tf ?_ | refine gdT_u ?_ | refine gd_u ?_ | refine gd_ft ?_ | refine gd_tf ?_ | refine gd_i ?_ | refine pk_t ?_ | refine pk_f ?_ | refine br_t ?_ | refine br_f ?_ | refine sp_boxa hs fun g w hs => ?_))
     | (with_reducible ((first | apply st_bin | apply st_ext | apply st_len | apply st_un | apply st_conv | apply st_mki | apply st_fld | apply st_cap | apply st_max | apply st_min | apply st_ixv | apply st_mkf); intro k' hk; simp [go_sem, thenR_ok, bin]; refine hk _ _ ?_; clear hk k'))
     | ((with_reducible (first | apply tk_bin | apply tk_ext | apply tk_len | apply tk_un)); (· intro w; simp [go_sem, bin]; rfl))
     | ((with_reducible apply sp_newr hs); (· kernel_rfl); intro g w hs))
    subst hi
    refine ⟨?_, hs.drew.sbl (.drop (.drop (.drop (.drop .all))))⟩
    rw [(posR_at hil).2]
  · have hm := hs.drew.mayr .all
    have hS : ∀ w', w' = w.drew → Mayr _ w' := fun w' e => e.symm ▸ hm
    repeat (first
     | (with_reducible refine rfs.a0 ?_)
     | ((with_reducible apply rfs.r0 hs); (· (with_reducible (repeat (first | exact .blk | exact .rng | apply Rng.tl)))))
     | (with_reducible refine rfs.c0 ?_)
     | ((with_reducible apply rfs.e0); (· first | exact hS | exact hid); (· (with_reducible (repeat (first | exact .blk | exact .rng | apply Rng.tl)))))
     | (with_reducible refine rfs.a1 ?_)
     | ((with_reducible apply rfs.r1 hs); (· (with_reducible (repeat (first | exact .blk | exact .rng | apply Rng.tl)))))
     | (with_reducible refine rfs.c1 ?_)
     | ((with_reducible apply rfs.e1); (· first | exact hS | exact hid); (· (with_reducible (repeat (first | exact .blk | exact .rng | apply Rng.tl)))))
     | (with_reducible refine rfs.a2 ?_)
     | ((with_reducible apply rfs.r2 hs); (· (with_reducible (repeat (first | exact .blk | exact .rng | apply Rng.tl)))))
     | (with_reducible refine rfs.c2 ?_)
     | ((with_reducible apply rfs.e2); (· first | exact hS | exact hid); (· (with_reducible (repeat (first | exact .blk | exact .rng | apply Rng.tl)))))
     | (with_reducible refine rfs.a3 ?_)
     | ((with_reducible apply rfs.r3 hs); (· (with_reducible (repeat (first | exact .blk | exact .rng | apply Rng.tl)))))
     | (with_reducible refine rfs.c3 ?_)
     | ((with_reducible apply rfs.e3); (· first | exact hS | exact hid); (· (with_reducible (repeat (first | exact .blk | exact .rng | apply Rng.tl)))))
     | (with_reducible refine rfs.a4 ?_)
     | ((with_reducible apply rfs.r4 hs); (· (with_reducible (repeat (first | exact .blk | exact .rng | apply Rng.tl)))))
     | (with_reducible refine rfs.c4 ?_)
     | ((with_reducible apply rfs.e4); (· first | exact hS | exact hid); (· (with_reducible (repeat (first | exact .blk | exact .rng | apply Rng.tl)))))
     | (with_reducible (first | refine st_lens ?_ | refine st_eqls ?_ | refine st_nels ?_ | refine tk_eqls ?_ | refine tk_nels ?_ | refine mv.mk ?_ | refine nk_p ?_ | refine gdT_i ?_ | refine gdT_ft ?_ | refine gdT_tf ?_ | refine gdT_u ?_ | refine gd_u ?_ | refine gd_ft ?_ | refine gd_tf ?_ | refine gd_i ?_ | refine pk_t ?_ | refine pk_f ?_ | refine br_t ?_ | refine br_f ?_ | refine sp_boxa hs fun g w hs => ?_))
     | (with_reducible ((first | apply st_bin | apply st_ext | apply st_len | apply st_un | apply st_conv | apply st_mki | apply st_fld | apply st_cap | apply st_max | apply st_min | apply st_ixv | apply st_mkf); intro k' hk; simp [go_sem, thenR_ok, bin]; refine hk _ _ ?_; clear hk k'))
     | ((with_reducible (first | apply tk_bin | apply tk_ext | apply tk_len | apply tk_un)); (· intro w; simp [go_sem, bin]; rfl))
     | ((with_reducible apply sp_newr hs); (· kernel_rfl); intro g w hs))
    rw [decide_eq_false hil]
    repeat (first
     | (with_reducible (first | refine st_lens ?_ | refine st_eqls ?_ | refine st_nels ?_ | refine tk_eqls ?_ | refine tk_nels ?_ | refine mv.mk ?_ | refine nk_p ?_ | refine gdT_i ?_ | refine gdT_ft ?_ | refine gdT_tf ?_ | refine gdT_u ?_ | refine gd_u ?_ | refine gd_ft ?_ | refine gd_tf ?_ | refine gd_i ?_ | refine pk_t ?_ | refine pk_f ?_ | refine br_t ?_ | refine br_f ?_ | refine sp_boxa hs fun g w hs => ?_))
     | (with_reducible ((first | apply st_bin | apply st_ext | apply st_len | apply st_un | apply st_conv | apply st_mki | apply st_fld | apply st_cap | apply st_max | apply st_min | apply st_ixv | apply st_mkf); intro k' hk; simp [go_sem, thenR_ok, bin]; refine hk _ _ ?_; clear hk k'))
     | ((with_reducible (first | apply tk_bin | apply tk_ext | apply tk_len | apply tk_un)); (· intro w; simp [go_sem, bin]; rfl))
     | ((with_reducible apply sp_newr hs); (· kernel_rfl); intro g w hs))
    subst hi
    have := posR_le n r.l
    refine ⟨?_, hs.drew.sbl (.drop (.drop .all))⟩
    rw [posR_end (by omega)]
theorem isthmusref04_find (hs : Sep b w L) (hm : Ins L (rfsF cs r).it) (hl : r.l.length ≤ 1000000) : C Tryd.prog N.isthmusref04_find #[.agg cs.toArray, str n] w fun v w' => v = .tuple #[.int .i64 (posR n r.l), .bool (isR n r.l)] ∧ Sep b w' L := by
  obtain ⟨A, c, rfl, hs⟩ := rfs_open hs hm
  refine C.isthmusref04_find ?_
  unfold F.isthmusref04_find
  refine sp_boxa hs fun g w hs => ?_
  repeat with_reducible refine mv.mk ?_
  have hpl := posR_le n r.l
  refine lp_by (fun us w' => ∃ (i : Nat), us = [.int .i64 (i : Int)] ∧ i ≤ posR n r.l ∧ Sep b w' (blkI g T.isthmusref04_FS (rfsV r (.slice A r.l.length c)) :: (listF rfF 3 (.slice A r.l.length c) r.l).it :: L)) (fun us _ => match us with | [.int _ m] => r.l.length - m.toNat | _ => 0) ⟨0, rfl, Nat.zero_le _, hs⟩ ?_
  clear hs
  rintro x w ⟨i, hx, hi, hs⟩
  simp only [List.cons.injEq, and_true] at hx
  simp only [hx]
  clear hx
  repeat (first
   | (with_reducible refine rfs.a0 ?_)
   | ((with_reducible apply rfs.r0 hs); (· (with_reducible (repeat (first | exact .blk | exact .rng | apply Rng.tl)))))
   | (with_reducible refine rfs.c0 ?_)
   | ((with_reducible apply rfs.e0); (· first | exact hS | exact hid); (· (with_reducible (repeat (first | exact .blk | exact .rng | apply Rng.tl)))))
   | (with_reducible refine rfs.a1 ?_)
   | ((with_reducible apply rfs.r1 hs); (· (with_reducible (repeat (first | exact .blk | exact .rng | apply Rng.tl)))))
   | (with_reducible refine rfs.c1 ?_)
   | ((with_reducible apply rfs.e1); (· first | exact hS | exact hid); (· (with_reducible (repeat (first | exact .blk | exact .rng | apply Rng.tl)))))
   | (with_reducible refine rfs.a2 ?_)
   | ((with_reducible apply rfs.r2 hs); (· (with_reducible (repeat (first | exact .blk | exact .rng | apply Rng.tl)))))
   | (with_reducible refine rfs.c2 ?_)
   | ((with_reducible apply rfs.e2); (· first | exact hS | exact hid); (· (with_reducible (repeat (first | exact .blk | exact .rng | apply Rng.tl)))))
   | (with_reducible refine rfs.a3 ?_)
   | ((with_reducible apply rfs.r3 hs); (· (with_reducible (repeat (first | exact .blk | exact .rng | apply Rng.tl)))))
   | (with_reducible refine rfs.c3 ?_)
   | ((with_reducible apply rfs.e3); (· first | exact hS | exact hid); (· (with_reducible (repeat (first | exact .blk | exact .rng | apply Rng.tl)))))
   | (with_reducible refine rfs.a4 ?_)
   | ((with_reducible apply rfs.r4 hs); (· (with_reducible (repeat (first | exact .blk | exact .rng | apply Rng.tl)))))
   | (with_reducible refine rfs.c4 ?_)
   | ((with_reducible apply rfs.e4); (· first | exact hS | exact hid); (· (with_reducible (repeat (first | exact .blk | exact .rng | apply Rng.tl)))))
   | (with_reducible (first | refine st_lens ?_ | refine st_eqls ?_ | refine st_nels ?_ | refine tk_eqls ?_ | refine tk_nels ?_ | refine mv.mk ?_ | refine nk_p ?_ | refine gdT_i ?_ | refine gdT_ft ?_ | refine gdT_tf ?_ | refine gdT_u ?_ | refine gd_u ?_ | refine gd_ft ?_ | refine gd_tf ?_ | refine gd_i ?_ | refine pk_t ?_ | refine pk_f ?_ | refine br_t ?_ | refine br_f ?_ | refine sp_boxa hs fun g w hs => ?_))
   | (with_reducible ((first | apply st_bin | apply st_ext | apply st_len | apply st_un | apply st_conv | apply st_mki | apply st_fld | apply st_cap | apply st_max | apply st_min | apply st_ixv | apply st_mkf); intro k' hk; simp [go_sem, thenR_ok, bin]; refine hk _ _ ?_; clear hk k'))
   | ((with_reducible (first | apply tk_bin | apply tk_ext | apply tk_len | apply tk_un)); (· intro w; simp [go_sem, bin]; rfl))
   | ((with_reducible apply sp_newr hs); (· kernel_rfl); intro g w hs))
  by_cases hil : i < r.l.length
  · rw [decide_eq_true hil]
    repeat (first
     | (with_reducible refine rfs.a0 ?_)
     | ((with_reducible apply rfs.r0 hs); (· (with_reducible (repeat (first | exact .blk | exact .rng | apply Rng.tl)))))
     | (with_reducible refine rfs.c0 ?_)
     | ((with_reducible apply rfs.e0); (· first | exact hS | exact hid); (· (with_reducible (repeat (first | exact .blk | exact .rng | apply Rng.tl)))))
     | (with_reducible refine rfs.a1 ?_)
     | ((with_reducible apply rfs.r1 hs); (· (with_reducible (repeat (first | exact .blk | exact .rng | apply Rng.tl)))))
     | (with_reducible refine rfs.c1 ?_)
     | ((with_reducible apply rfs.e1); (· first | exact hS | exact hid); (· (with_reducible (repeat (first | exact .blk | exact .rng | apply Rng.tl)))))
     | (with_reducible refine rfs.a2 ?_)
     | ((with_reducible apply rfs.r2 hs); (· (with_reducible (repeat (first | exact .blk | exact .rng | apply Rng.tl)))))
     | (with_reducible refine rfs.c2 ?_)
     | ((with_reducible apply rfs.e2); (· first | exact hS | exact hid); (· (with_reducible (repeat (first | exact .blk | exact .rng | apply Rng.tl)))))
     | (with_reducible refine rfs.a3 ?_)
     | ((with_reducible apply rfs.r3 hs); (· (with_reducible (repeat (first | exact .blk | exact .rng | apply Rng.tl)))))
     | (with_reducible refine rfs.c3 ?_)
     | ((with_reducible apply rfs.e3); (· first | exact hS | exact hid); (· (with_reducible (repeat (first | exact .blk | exact .rng | apply Rng.tl)))))
     | (with_reducible refine rfs.a4 ?_)
     | ((with_reducible apply rfs.r4 hs); (· (with_reducible (repeat (first | exact .blk | exact .rng | apply Rng.tl)))))
     | (with_reducible refine rfs.c4 ?_)
     | ((with_reducible apply rfs.e4); (· first | exact hS | exact hid); (· (with_reducible (repeat (first | exact .blk | exact .rng | apply Rng.tl)))))
     | (with_reducible (first | refine st_lens ?_ | refine st_eqls ?_ | refine st_nels ?_ | refine tk_eqls ?_ | refine tk_nels ?_ | refine mv.mk ?_ | refine nk_p ?_ | refine gdT_i ?_ | refine gdT_ft ?_ | refine gdT_tf ?_ | refine gdT_u ?_ | refine gd_u ?_ | refine gd_ft ?_ | refine gd_tf ?_ | refine gd_i ?_ | refine pk_t ?_ | refine pk_f ?_ | refine br_t ?_ | refine br_f ?_ | refine sp_boxa hs fun g w hs => ?_))
     | (with_reducible ((first | apply st_bin | apply st_ext | apply st_len | apply st_un | apply st_conv | apply st_mki | apply st_fld | apply st_cap | apply st_max | apply st_min | apply st_ixv | apply st_mkf); intro k' hk; simp [go_sem, thenR_ok, bin]; refine hk _ _ ?_; clear hk k'))
     | ((with_reducible (first | apply tk_bin | apply tk_ext | apply tk_len | apply tk_un)); (· intro w; simp [go_sem, bin]; rfl))
     | ((with_reducible apply sp_newr hs); (· kernel_rfl); intro g w hs))
    obtain ⟨g1, o1, y, hix, hyl, hs⟩ := hs.el (P := Tryd.prog) (T := T.sl_isthmusref04_File) (.tl .hd) rfT i hil
    have hy : y = rfV r.l[i] := hs.get (.tl .hd)
    subst hy
    refine st_of (hix .i64 w) ?_
    repeat (first
     | (with_reducible refine rfile.a0 ?_)
     | ((with_reducible apply rfile.r0 hs); (· (with_reducible (repeat (first | exact .blk | exact .rng | apply Rng.tl)))))
     | (with_reducible refine rfile.c0 ?_)
     | ((with_reducible apply rfile.e0); (· first | exact hS | exact hid); (· (with_reducible (repeat (first | exact .blk | exact .rng | apply Rng.tl)))))
     | (with_reducible refine rfile.a1 ?_)
     | ((with_reducible apply rfile.r1 hs); (· (with_reducible (repeat (first | exact .blk | exact .rng | apply Rng.tl)))))
     | (with_reducible refine rfile.c1 ?_)
     | ((with_reducible apply rfile.e1); (· first | exact hS | exact hid); (· (with_reducible (repeat (first | exact .blk | exact .rng | apply Rng.tl)))))
     | (with_reducible refine rfile.a2 ?_)
     | ((with_reducible apply rfile.r2 hs); (· (with_reducible (repeat (first | exact .blk | exact .rng | apply Rng.tl)))))
     | (with_reducible refine rfile.c2 ?_)
     | ((with_reducible apply rfile.e2); (· first | exact hS | exact hid); (· (with_reducible (repeat (first | exact .blk | exact .rng | apply Rng.tl)))))
     | (with_reducible (first | refine st_lens ?_ | refine st_eqls ?_ | refine st_nels ?_ | refine tk_eqls ?_ | refine tk_nels ?_ | refine mv.mk ?_ | refine nk_p ?_ | refine gdT_i ?_ | refine gdT_ft ?_ | refine gdT_tf ?_ | refine gdT_u ?_ | refine gd_u ?_ | refine gd_ft ?_ | refine gd_tf ?_ | refine gd_i ?_ | refine pk_t ?_ | refine pk_f ?_ | refine br_t ?_ | refine br_f ?_ | refine sp_boxa hs fun g w hs => ?_))
     | (with_reducible ((first | apply st_bin | apply st_ext | apply st_len | apply st_un | apply st_conv | apply st_mki | apply st_fld | apply st_cap | apply st_max | apply st_min | apply st_ixv | apply st_mkf); intro k' hk; simp [go_sem, thenR_ok, bin]; refine hk _ _ ?_; clear hk k'))
     | ((with_reducible (first | apply tk_bin | apply tk_ext | apply tk_len | apply tk_un)); (· intro w; simp [go_sem, bin]; rfl))
     | ((with_reducible apply sp_newr hs); (· kernel_rfl); intro g w hs))
    refine st_of (lss_run w) ?_
    replace hs := hs.sbl (.drop (.drop .all))
    by_cases c1 : (r.l[i]).name < n
    · rw [decide_eq_true c1]
      repeat (first
       | (with_reducible (first | refine st_lens ?_ | refine st_eqls ?_ | refine st_nels ?_ | refine tk_eqls ?_ | refine tk_nels ?_ | refine mv.mk ?_ | refine nk_p ?_ | refine gdT_i ?_ | refine gdT_ft ?_ | refine gdT_tf ?_ | refine gdT_u ?_ | refine gd_u ?_ | refine gd_ft ?_ | refine gd_tf ?_ | refine gd_i ?_ | refine pk_t ?_ | refine pk_f ?_ | refine br_t ?_ | refine br_f ?_ | refine sp_boxa hs fun g w hs => ?_))
       | (with_reducible ((first | apply st_bin | apply st_ext | apply st_len | apply st_un | apply st_conv | apply st_mki | apply st_fld | apply st_cap | apply st_max | apply st_min | apply st_ixv | apply st_mkf); intro k' hk; simp [go_sem, thenR_ok, bin]; refine hk _ _ ?_; clear hk k'))
       | ((with_reducible (first | apply tk_bin | apply tk_ext | apply tk_len | apply tk_un)); (· intro w; simp [go_sem, bin]; rfl))
       | ((with_reducible apply sp_newr hs); (· kernel_rfl); intro g w hs))
      rw [i64_succ (by omega)]
      refine ⟨⟨i + 1, rfl, ?_, hs⟩, by simp; omega⟩
      rcases Nat.lt_or_ge i (posR n r.l) with h1 | h1
      · exact h1
      · obtain rfl : i = posR n r.l := by omega
        exact absurd c1 (posR_at hil).1
    · rw [decide_eq_false c1]
      repeat with_reducible refine mv.mk ?_
      refine pk_t ?_
      refine br_f ?_
      have hip : i = posR n r.l := by
        rcases Nat.lt_or_ge i (posR n r.l) with h1 | h1
        · exact absurd (posR_before i hil h1) c1
        · omega
      exact (show mv _ _ from find_r hs hip hl)
  · rw [decide_eq_false hil]
    repeat with_reducible refine mv.mk ?_
    have hip : i = posR n r.l := by omega
    repeat (refine gd_ft ?_)
    refine pk_f ?_
    refine br_f ?_
    exact (show mv _ _ from find_r hs hip hl)
theorem zero_rf {k : Value → World → Prop} (hk : k (.agg (rfV ⟨[], [], []⟩).toArray) w) : o1 Tryd.prog (Instr.build T.isthmusref04_File #[]) w k := st_build (by kernel_rfl) hk
theorem isthmusref04_get (hs : Sep b w L) (hm : Ins L (rfsF cs r).it) (hl : r.l.length ≤ 1000000) (hn : n.length ≤ 4611686018427387904) :
    C Tryd.prog N.isthmusref04_get #[.agg cs.toArray, str n] w fun v w' => v = .tuple #[.agg (rfV (getR r n).1).toArray, .int .i64 (getR r n).2] ∧ Sep b w' L := by
  obtain ⟨A, c, rfl, hs⟩ := rfs_open hs hm
  refine C.isthmusref04_get ?_
  unfold F.isthmusref04_get
  repeat (first
   | (with_reducible (first | refine st_lens ?_ | refine st_eqls ?_ | refine st_nels ?_ | refine tk_eqls ?_ | refine tk_nels ?_ | refine mv.mk ?_ | refine nk_p ?_ | refine gdT_i ?_ | refine gdT_ft ?_ | refine gdT_tf ?_ | refine gdT_u ?_ | refine gd_u ?_ | refine gd_ft ?_ | refine gd_tf ?_ | refine gd_i ?_ | refine pk_t ?_ | refine pk_f ?_ | refine br_t ?_ | refine br_f ?_ | refine sp_boxa hs fun g w hs => ?_))
   | (with_reducible ((first | apply st_bin | apply st_ext | apply st_len | apply st_un | apply st_conv | apply st_mki | apply st_fld | apply st_cap | apply st_max | apply st_min | apply st_ixv | apply st_mkf); intro k' hk; simp [go_sem, thenR_ok, bin]; refine hk _ _ ?_; clear hk k'))
   | ((with_reducible (first | apply tk_bin | apply tk_ext | apply tk_len | apply tk_un)); (· intro w; simp [go_sem, bin]; rfl))
   | ((with_reducible apply sp_newr hs); (· kernel_rfl); intro g w hs))
  refine cl (isthmusref04_named (s := n) hs hn) ?_
  rintro _ w ⟨rfl, hs⟩
  unfold getR
  cases hnm : namedF n with
  | false =>
    repeat (first
     | (with_reducible (first | refine st_lens ?_ | refine st_eqls ?_ | refine st_nels ?_ | refine tk_eqls ?_ | refine tk_nels ?_ | refine mv.mk ?_ | refine nk_p ?_ | refine gdT_i ?_ | refine gdT_ft ?_ | refine gdT_tf ?_ | refine gdT_u ?_ | refine gd_u ?_ | refine gd_ft ?_ | refine gd_tf ?_ | refine gd_i ?_ | refine pk_t ?_ | refine pk_f ?_ | refine br_t ?_ | refine br_f ?_ | refine sp_boxa hs fun g w hs => ?_))
     | (with_reducible ((first | apply st_bin | apply st_ext | apply st_len | apply st_un | apply st_conv | apply st_mki | apply st_fld | apply st_cap | apply st_max | apply st_min | apply st_ixv | apply st_mkf); intro k' hk; simp [go_sem, thenR_ok, bin]; refine hk _ _ ?_; clear hk k'))
     | ((with_reducible (first | apply tk_bin | apply tk_ext | apply tk_len | apply tk_un)); (· intro w; simp [go_sem, bin]; rfl))
     | ((with_reducible apply sp_newr hs); (· kernel_rfl); intro g w hs))
    refine zero_rf ?_
    refine sp_setr (ds := rfV ⟨[], [], []⟩) hs .hd (by kernel_rfl) rfl (rfV_one _) fun w hs => mv.mk (sp_rc hs .hd (by kernel_rfl) rfl ?_)
    exact ⟨rfl, hs.sbl (.drop (.drop (.drop .all)))⟩
  | true =>
  repeat (first
   | (with_reducible refine rfs.a0 ?_)
   | ((with_reducible apply rfs.r0 hs); (· (with_reducible (repeat (first | exact .blk | exact .rng | apply Rng.tl)))))
   | (with_reducible refine rfs.c0 ?_)
   | ((with_reducible apply rfs.e0); (· first | exact hS | exact hid); (· (with_reducible (repeat (first | exact .blk | exact .rng | apply Rng.tl)))))
   | (with_reducible refine rfs.a1 ?_)
   | ((with_reducible apply rfs.r1 hs); (· (with_reducible (repeat (first | exact .blk | exact .rng | apply Rng.tl)))))
   | (with_reducible refine rfs.c1 ?_)
   | ((with_reducible apply rfs.e1); (· first | exact hS | exact hid); (· (with_reducible (repeat (first | exact .blk | exact .rng | apply Rng.tl)))))
   | (with_reducible refine rfs.a2 ?_)
   | ((with_reducible apply rfs.r2 hs); (· (with_reducible (repeat (first | exact .blk | exact .rng | apply Rng.tl)))))
   | (with_reducible refine rfs.c2 ?_)
   | ((with_reducible apply rfs.e2); (· first | exact hS | exact hid); (· (with_reducible (repeat (first | exact .blk | exact .rng | apply Rng.tl)))))
   | (with_reducible refine rfs.a3 ?_)
   | ((with_reducible apply rfs.r3 hs); (· (with_reducible (repeat (first | exact .blk | exact .rng | apply Rng.tl)))))
   | (with_reducible refine rfs.c3 ?_)
   | ((with_reducible apply rfs.e3); (· first | exact hS | exact hid); (· (with_reducible (repeat (first | exact .blk | exact .rng | apply Rng.tl)))))
   | (with_reducible refine rfs.a4 ?_)
   | ((with_reducible apply rfs.r4 hs); (· (with_reducible (repeat (first | exact .blk | exact .rng | apply Rng.tl)))))
   | (with_reducible refine rfs.c4 ?_)
   | ((with_reducible apply rfs.e4); (· first | exact hS | exact hid); (· (with_reducible (repeat (first | exact .blk | exact .rng | apply Rng.tl)))))
   | (with_reducible (first | refine st_lens ?_ | refine st_eqls ?_ | refine st_nels ?_ | refine tk_eqls ?_ | refine tk_nels ?_ | refine mv.mk ?_ | refine nk_p ?_ | refine gdT_i ?_ | refine gdT_ft ?_ | refine gdT_tf ?_ | refine gdT_u ?_ | refine gd_u ?_ | refine gd_ft ?_ | refine gd_tf ?_ | refine gd_i ?_ | refine pk_t ?_ | refine pk_f ?_ | refine br_t ?_ | refine br_f ?_ | refine sp_boxa hs fun g w hs => ?_))
   | (with_reducible ((first | apply st_bin | apply st_ext | apply st_len | apply st_un | apply st_conv | apply st_mki | apply st_fld | apply st_cap | apply st_max | apply st_min | apply st_ixv | apply st_mkf); intro k' hk; simp [go_sem, thenR_ok, bin]; refine hk _ _ ?_; clear hk k'))
   | ((with_reducible (first | apply tk_bin | apply tk_ext | apply tk_len | apply tk_un)); (· intro w; simp [go_sem, bin]; rfl))
   | ((with_reducible apply sp_newr hs); (· kernel_rfl); intro g w hs))
  cases hd : r.down with
  | true =>
    repeat (first
     | (with_reducible (first | refine st_lens ?_ | refine st_eqls ?_ | refine st_nels ?_ | refine tk_eqls ?_ | refine tk_nels ?_ | refine mv.mk ?_ | refine nk_p ?_ | refine gdT_i ?_ | refine gdT_ft ?_ | refine gdT_tf ?_ | refine gdT_u ?_ | refine gd_u ?_ | refine gd_ft ?_ | refine gd_tf ?_ | refine gd_i ?_ | refine pk_t ?_ | refine pk_f ?_ | refine br_t ?_ | refine br_f ?_ | refine sp_boxa hs fun g w hs => ?_))
     | (with_reducible ((first | apply st_bin | apply st_ext | apply st_len | apply st_un | apply st_conv | apply st_mki | apply st_fld | apply st_cap | apply st_max | apply st_min | apply st_ixv | apply st_mkf); intro k' hk; simp [go_sem, thenR_ok, bin]; refine hk _ _ ?_; clear hk k'))
     | ((with_reducible (first | apply tk_bin | apply tk_ext | apply tk_len | apply tk_un)); (· intro w; simp [go_sem, bin]; rfl))
     | ((with_reducible apply sp_newr hs); (· kernel_rfl); intro g w hs))
    refine zero_rf ?_
    refine sp_setr (ds := rfV ⟨[], [], []⟩) hs .hd (by kernel_rfl) rfl (rfV_one _) fun w hs => mv.mk (sp_rc hs .hd (by kernel_rfl) rfl ?_)
    exact ⟨rfl, hs.sbl (.drop (.drop (.drop .all)))⟩
  | false =>
  repeat (first
   | (with_reducible (first | refine st_lens ?_ | refine st_eqls ?_ | refine st_nels ?_ | refine tk_eqls ?_ | refine tk_nels ?_ | refine mv.mk ?_ | refine nk_p ?_ | refine gdT_i ?_ | refine gdT_ft ?_ | refine gdT_tf ?_ | refine gdT_u ?_ | refine gd_u ?_ | refine gd_ft ?_ | refine gd_tf ?_ | refine gd_i ?_ | refine pk_t ?_ | refine pk_f ?_ | refine br_t ?_ | refine br_f ?_ | refine sp_boxa hs fun g w hs => ?_))
   | (with_reducible ((first | apply st_bin | apply st_ext | apply st_len | apply st_un | apply st_conv | apply st_mki | apply st_fld | apply st_cap | apply st_max | apply st_min | apply st_ixv | apply st_mkf); intro k' hk; simp [go_sem, thenR_ok, bin]; refine hk _ _ ?_; clear hk k'))
   | ((with_reducible (first | apply tk_bin | apply tk_ext | apply tk_len | apply tk_un)); (· intro w; simp [go_sem, bin]; rfl))
   | ((with_reducible apply sp_newr hs); (· kernel_rfl); intro g w hs))
  refine sp_loadall hs (.tl .hd) (by kernel_rfl) rfl ?_
  repeat with_reducible refine mv.mk ?_
  refine cl (isthmusref04_find (n := n) hs (.tl (.tl (.tl hm))) hl) ?_
  rintro _ w ⟨rfl, hs⟩
  repeat (first
   | (with_reducible (first | refine st_lens ?_ | refine st_eqls ?_ | refine st_nels ?_ | refine tk_eqls ?_ | refine tk_nels ?_ | refine mv.mk ?_ | refine nk_p ?_ | refine gdT_i ?_ | refine gdT_ft ?_ | refine gdT_tf ?_ | refine gdT_u ?_ | refine gd_u ?_ | refine gd_ft ?_ | refine gd_tf ?_ | refine gd_i ?_ | refine pk_t ?_ | refine pk_f ?_ | refine br_t ?_ | refine br_f ?_ | refine sp_boxa hs fun g w hs => ?_))
   | (with_reducible ((first | apply st_bin | apply st_ext | apply st_len | apply st_un | apply st_conv | apply st_mki | apply st_fld | apply st_cap | apply st_max | apply st_min | apply st_ixv | apply st_mkf); intro k' hk; simp [go_sem, thenR_ok, bin]; refine hk _ _ ?_; clear hk k'))
   | ((with_reducible (first | apply tk_bin | apply tk_ext | apply tk_len | apply tk_un)); (· intro w; simp [go_sem, bin]; rfl))
   | ((with_reducible apply sp_newr hs); (· kernel_rfl); intro g w hs))
  cases hi : isR n r.l with
  | false =>
    rw [Bool.not_false]
    repeat (first
     | (with_reducible (first | refine st_lens ?_ | refine st_eqls ?_ | refine st_nels ?_ | refine tk_eqls ?_ | refine tk_nels ?_ | refine mv.mk ?_ | refine nk_p ?_ | refine gdT_i ?_ | refine gdT_ft ?_ | refine gdT_tf ?_ | refine gdT_u ?_ | refine gd_u ?_ | refine gd_ft ?_ | refine gd_tf ?_ | refine gd_i ?_ | refine pk_t ?_ | refine pk_f ?_ | refine br_t ?_ | refine br_f ?_ | refine sp_boxa hs fun g w hs => ?_))
     | (with_reducible ((first | apply st_bin | apply st_ext | apply st_len | apply st_un | apply st_conv | apply st_mki | apply st_fld | apply st_cap | apply st_max | apply st_min | apply st_ixv | apply st_mkf); intro k' hk; simp [go_sem, thenR_ok, bin]; refine hk _ _ ?_; clear hk k'))
     | ((with_reducible (first | apply tk_bin | apply tk_ext | apply tk_len | apply tk_un)); (· intro w; simp [go_sem, bin]; rfl))
     | ((with_reducible apply sp_newr hs); (· kernel_rfl); intro g w hs))
    refine zero_rf ?_
    refine sp_setr (ds := rfV ⟨[], [], []⟩) hs .hd (by kernel_rfl) rfl (rfV_one _) fun w hs => mv.mk (sp_rc hs .hd (by kernel_rfl) rfl ?_)
    exact ⟨rfl, hs.sbl (.drop (.drop (.drop .all)))⟩
  | true =>
  rw [Bool.not_true]
  repeat (first
   | (with_reducible refine rfs.a0 ?_)
   | ((with_reducible apply rfs.r0 hs); (· (with_reducible (repeat (first | exact .blk | exact .rng | apply Rng.tl)))))
   | (with_reducible refine rfs.c0 ?_)
   | ((with_reducible apply rfs.e0); (· first | exact hS | exact hid); (· (with_reducible (repeat (first | exact .blk | exact .rng | apply Rng.tl)))))
   | (with_reducible refine rfs.a1 ?_)
   | ((with_reducible apply rfs.r1 hs); (· (with_reducible (repeat (first | exact .blk | exact .rng | apply Rng.tl)))))
   | (with_reducible refine rfs.c1 ?_)
   | ((with_reducible apply rfs.e1); (· first | exact hS | exact hid); (· (with_reducible (repeat (first | exact .blk | exact .rng | apply Rng.tl)))))
   | (with_reducible refine rfs.a2 ?_)
   | ((with_reducible apply rfs.r2 hs); (· (with_reducible (repeat (first | exact .blk | exact .rng | apply Rng.tl)))))
   | (with_reducible refine rfs.c2 ?_)
   | ((with_reducible apply rfs.e2); (· first | exact hS | exact hid); (· (with_reducible (repeat (first | exact .blk | exact .rng | apply Rng.tl)))))
   | (with_reducible refine rfs.a3 ?_)
   | ((with_reducible apply rfs.r3 hs); (· (with_reducible (repeat (first | exact .blk | exact .rng | apply Rng.tl)))))
   | (with_reducible refine rfs.c3 ?_)
   | ((with_reducible apply rfs.e3); (· first | exact hS | exact hid); (· (with_reducible (repeat (first | exact .blk | exact .rng | apply Rng.tl)))))
   | (with_reducible refine rfs.a4 ?_)
   | ((with_reducible apply rfs.r4 hs); (· (with_reducible (repeat (first | exact .blk | exact .rng | apply Rng.tl)))))
   | (with_reducible refine rfs.c4 ?_)
   | ((with_reducible apply rfs.e4); (· first | exact hS | exact hid); (· (with_reducible (repeat (first | exact .blk | exact .rng | apply Rng.tl)))))
   | (with_reducible (first | refine st_lens ?_ | refine st_eqls ?_ | refine st_nels ?_ | refine tk_eqls ?_ | refine tk_nels ?_ | refine mv.mk ?_ | refine nk_p ?_ | refine gdT_i ?_ | refine gdT_ft ?_ | refine gdT_tf ?_ | refine gdT_u ?_ | refine gd_u ?_ | refine gd_ft ?_ | refine gd_tf ?_ | refine gd_i ?_ | refine pk_t ?_ | refine pk_f ?_ | refine br_t ?_ | refine br_f ?_ | refine sp_boxa hs fun g w hs => ?_))
   | (with_reducible ((first | apply st_bin | apply st_ext | apply st_len | apply st_un | apply st_conv | apply st_mki | apply st_fld | apply st_cap | apply st_max | apply st_min | apply st_ixv | apply st_mkf); intro k' hk; simp [go_sem, thenR_ok, bin]; refine hk _ _ ?_; clear hk k'))
   | ((with_reducible (first | apply tk_bin | apply tk_ext | apply tk_len | apply tk_un)); (· intro w; simp [go_sem, bin]; rfl))
   | ((with_reducible apply sp_newr hs); (· kernel_rfl); intro g w hs))
  have hlt := isR_lt hi
  obtain ⟨g1, o1, y, hix, hyl, hs⟩ := hs.el (P := Tryd.prog) (T := T.sl_isthmusref04_File) (.tl (.tl .hd)) rfT (posR n r.l) hlt
  have hy : y = rfV r.l[posR n r.l] := hs.get (.tl .hd)
  rw [atR_get hlt] at hy
  subst hy
  refine st_of (hix .i64 w) ?_
  refine sp_ldn hs .rng (by kernel_rfl) rfl ?_
  refine sp_setr (ds := rfV (atR n r.l)) hs (.tl (.tl .hd)) (by kernel_rfl) rfl (rfV_one _) fun w hs => mv.mk (sp_rc hs .hd (by kernel_rfl) rfl ?_)
  exact ⟨rfl, hs.sbl (.drop (.drop (.drop (.drop (.drop .all)))))⟩
theorem isthmusref04_step (hs : Sep b w L) (hm : Ins L (rfsF cs r).it) :
    C Tryd.prog N.isthmusref04_step #[.agg cs.toArray] w fun v w' => ∃ ds, v = .tuple #[.agg ds.toArray, .bool (stepR r).2] ∧ Sep b w' ((rfsF ds (stepR r).1).it :: L) := by
  obtain ⟨A, c, rfl, hs⟩ := rfs_open hs hm
  refine C.isthmusref04_step ?_
  unfold F.isthmusref04_step
  refine sp_boxa hs fun g1 w hs => ?_
  refine sp_newr hs (by kernel_rfl) fun g2 w hs => ?_
  repeat (first
   | (with_reducible refine rfs.a0 ?_)
   | ((with_reducible apply rfs.r0 hs); (· (with_reducible (repeat (first | exact .blk | exact .rng | apply Rng.tl)))))
   | (with_reducible refine rfs.c0 ?_)
   | ((with_reducible apply rfs.e0); (· first | exact hS | exact hid); (· (with_reducible (repeat (first | exact .blk | exact .rng | apply Rng.tl)))))
   | (with_reducible refine rfs.a1 ?_)
   | ((with_reducible apply rfs.r1 hs); (· (with_reducible (repeat (first | exact .blk | exact .rng | apply Rng.tl)))))
   | (with_reducible refine rfs.c1 ?_)
   | ((with_reducible apply rfs.e1); (· first | exact hS | exact hid); (· (with_reducible (repeat (first | exact .blk | exact .rng | apply Rng.tl)))))
   | (with_reducible refine rfs.a2 ?_)
   | ((with_reducible apply rfs.r2 hs); (· (with_reducible (repeat (first | exact .blk | exact .rng | apply Rng.tl)))))
   | (with_reducible refine rfs.c2 ?_)
   | ((with_reducible apply rfs.e2); (· first | exact hS | exact hid); (· (with_reducible (repeat (first | exact .blk | exact .rng | apply Rng.tl)))))
   | (with_reducible refine rfs.a3 ?_)
   | ((with_reducible apply rfs.r3 hs); (· (with_reducible (repeat (first | exact .blk | exact .rng | apply Rng.tl)))))
   | (with_reducible refine rfs.c3 ?_)
   | ((with_reducible apply rfs.e3); (· first | exact hS | exact hid); (· (with_reducible (repeat (first | exact .blk | exact .rng | apply Rng.tl)))))
   | (with_reducible refine rfs.a4 ?_)
   | ((with_reducible apply rfs.r4 hs); (· (with_reducible (repeat (first | exact .blk | exact .rng | apply Rng.tl)))))
   | (with_reducible refine rfs.c4 ?_)
   | ((with_reducible apply rfs.e4); (· first | exact hS | exact hid); (· (with_reducible (repeat (first | exact .blk | exact .rng | apply Rng.tl)))))
   | (with_reducible (first | refine st_lens ?_ | refine st_eqls ?_ | refine st_nels ?_ | refine tk_eqls ?_ | refine tk_nels ?_ | refine mv.mk ?_ | refine nk_p ?_ | refine gdT_i ?_ | refine gdT_ft ?_ | refine gdT_tf ?_ | refine gdT_u ?_ | refine gd_u ?_ | refine gd_ft ?_ | refine gd_tf ?_ | refine gd_i ?_ | refine pk_t ?_ | refine pk_f ?_ | refine br_t ?_ | refine br_f ?_ | refine sp_boxa hs fun g w hs => ?_))
   | (with_reducible ((first | apply st_bin | apply st_ext | apply st_len | apply st_un | apply st_conv | apply st_mki | apply st_fld | apply st_cap | apply st_max | apply st_min | apply st_ixv | apply st_mkf); intro k' hk; simp [go_sem, thenR_ok, bin]; refine hk _ _ ?_; clear hk k'))
   | ((with_reducible (first | apply tk_bin | apply tk_ext | apply tk_len | apply tk_un)); (· intro w; simp [go_sem, bin]; rfl))
   | ((with_reducible apply sp_newr hs); (· kernel_rfl); intro g w hs))
  have hfin : ∀ (q : RFS) (bb : Bool) (w : World), (stepR r) = (q, bb) → q.l = r.l → Sep b w (blkI g1 T.isthmusref04_FS (rfsV q (.slice A r.l.length c)) :: resI Tryd.prog g2 T.isthmusref04_FS :: (listF rfF 3 (.slice A r.l.length c) r.l).it :: L) →
      o1 Tryd.prog (Instr.loadAt T.isthmusref04_FS (.pointer (some ⟨g1, 0, none⟩))) w fun t12 w => o0 Tryd.prog (Instr.storeAt T.isthmusref04_FS (.pointer (some ⟨g2, 0, none⟩)) t12) w fun _ w => mv (.bool bb) fun t3_1 =>
        rc Tryd.prog T.isthmusref04_FS (.pointer (some ⟨g2, 0, none⟩)) w fun r0 => ∃ ds, (Value.tuple #[r0, t3_1]) = .tuple #[.agg ds.toArray, .bool (stepR r).2] ∧ Sep b w ((rfsF ds (stepR r).1).it :: L) := by
    intro q bb w e el hs
    refine sp_loadall hs .hd (by kernel_rfl) rfl ?_
    refine sp_setr (ds := rfsV q (.slice A r.l.length c)) hs (.tl .hd) (by kernel_rfl) rfl (rfsV_one q) fun w hs => mv.mk (sp_rc hs .hd (by kernel_rfl) rfl ?_)
    refine ⟨_, by rw [e], ?_⟩
    rw [e]
    exact (hs.fact (f := rfsF (rfsV q (.slice A r.l.length c)) q) ⟨_, rfl, by rw [el]; exact hs.get (.tl (.tl .hd))⟩).sbl (.cons .hd (.drop (.drop (.drop .all))))
  replace hs : Sep b w (blkI g1 T.isthmusref04_FS (rfsV r (.slice A r.l.length c)) :: resI Tryd.prog g2 T.isthmusref04_FS :: (listF rfF 3 (.slice A r.l.length c) r.l).it :: L) := hs.sbl (.cons (.tl .hd) (.cons .hd .all))
  have hgo : ¬ (r.armed = true ∧ r.left = 0) → ∀ w, Sep b w (blkI g1 T.isthmusref04_FS (rfsV r (.slice A r.l.length c)) :: resI Tryd.prog g2 T.isthmusref04_FS :: (listF rfF 3 (.slice A r.l.length c) r.l).it :: L) →
      o1 Tryd.prog (Instr.fieldAt T.isthmusref04_FS (.pointer (some ⟨g1, 0, none⟩)) 3) w fun t13 w => o1 Tryd.prog (Instr.loadAt T.int t13) w fun t14 w =>
        o1 Tryd.prog (bin .sub T.int (.tmp 14) (.const (.int .i64 1)) t14 (.int .i64 1)) w fun t15 w => o1 Tryd.prog (Instr.fieldAt T.isthmusref04_FS (.pointer (some ⟨g1, 0, none⟩)) 3) w fun t16 w => o0 Tryd.prog (Instr.storeAt T.int t16 t15) w fun _ w =>
        o1 Tryd.prog (Instr.fieldAt T.isthmusref04_FS (.pointer (some ⟨g1, 0, none⟩)) 1) w fun t17 w => o1 Tryd.prog (Instr.loadAt T.int t17) w fun t18 w => o1 Tryd.prog (bin .add T.int (.tmp 18) (.const (.int .i64 1)) t18 (.int .i64 1)) w fun t19 w =>
        o1 Tryd.prog (Instr.fieldAt T.isthmusref04_FS (.pointer (some ⟨g1, 0, none⟩)) 1) w fun t20 w => o0 Tryd.prog (Instr.storeAt T.int t20 t19) w fun _ w =>
        o1 Tryd.prog (Instr.loadAt T.isthmusref04_FS (.pointer (some ⟨g1, 0, none⟩))) w fun t21 w => o0 Tryd.prog (Instr.storeAt T.isthmusref04_FS (.pointer (some ⟨g2, 0, none⟩)) t21) w fun _ w => mv (.bool false) fun t3_2 =>
        rc Tryd.prog T.isthmusref04_FS (.pointer (some ⟨g2, 0, none⟩)) w fun r0 => ∃ ds, (Value.tuple #[r0, t3_2]) = .tuple #[.agg ds.toArray, .bool (stepR r).2] ∧ Sep b w ((rfsF ds (stepR r).1).it :: L) := by
    intro hn w hs
    have e : stepR r = ({ r with left := IntKind.i64.wrap (r.left - 1), steps := IntKind.i64.wrap (r.steps + 1) }, false) := by rw [stepR, if_neg hn]
    repeat (first
     | (with_reducible refine rfs.a0 ?_)
     | ((with_reducible apply rfs.r0 hs); (· (with_reducible (repeat (first | exact .blk | exact .rng | apply Rng.tl)))))
     | (with_reducible refine rfs.c0 ?_)
     | ((with_reducible apply rfs.e0); (· first | exact hS | exact hid); (· (with_reducible (repeat (first | exact .blk | exact .rng | apply Rng.tl)))))
     | (with_reducible refine rfs.a1 ?_)
     | ((with_reducible apply rfs.r1 hs); (· (with_reducible (repeat (first | exact .blk | exact .rng | apply Rng.tl)))))
     | (with_reducible refine rfs.c1 ?_)
     | ((with_reducible apply rfs.e1); (· first | exact hS | exact hid); (· (with_reducible (repeat (first | exact .blk | exact .rng | apply Rng.tl)))))
     | (with_reducible refine rfs.a2 ?_)
     | ((with_reducible apply rfs.r2 hs); (· (with_reducible (repeat (first | exact .blk | exact .rng | apply Rng.tl)))))
     | (with_reducible refine rfs.c2 ?_)
     | ((with_reducible apply rfs.e2); (· first | exact hS | exact hid); (· (with_reducible (repeat (first | exact .blk | exact .rng | apply Rng.tl)))))
     | (with_reducible refine rfs.a3 ?_)
     | ((with_reducible apply rfs.r3 hs); (· (with_reducible (repeat (first | exact .blk | exact .rng | apply Rng.tl)))))
     | (with_reducible refine rfs.c3 ?_)
     | ((with_reducible apply rfs.e3); (· first | exact hS | exact hid); (· (with_reducible (repeat (first | exact .blk | exact .rng | apply Rng.tl)))))
     | (with_reducible refine rfs.a4 ?_)
     | ((with_reducible apply rfs.r4 hs); (· (with_reducible (repeat (first | exact .blk | exact .rng | apply Rng.tl)))))
     | (with_reducible refine rfs.c4 ?_)
     | ((with_reducible apply rfs.e4); (· first | exact hS | exact hid); (· (with_reducible (repeat (first | exact .blk | exact .rng | apply Rng.tl)))))
     | (with_reducible (first | refine st_lens ?_ | refine st_eqls ?_ | refine st_nels ?_ | refine tk_eqls ?_ | refine tk_nels ?_ | refine mv.mk ?_ | refine nk_p ?_ | refine gdT_i ?_ | refine gdT_ft ?_ | refine gdT_tf ?_ | refine gdT_u ?_ | refine gd_u ?_ | refine gd_ft ?_ | refine gd_tf ?_ | refine gd_i ?_ | refine pk_t ?_ | refine pk_f ?_ | refine br_t ?_ | refine br_f ?_ | refine sp_boxa hs fun g w hs => ?_))
     | (with_reducible ((first | apply st_bin | apply st_ext | apply st_len | apply st_un | apply st_conv | apply st_mki | apply st_fld | apply st_cap | apply st_max | apply st_min | apply st_ixv | apply st_mkf); intro k' hk; simp [go_sem, thenR_ok, bin]; refine hk _ _ ?_; clear hk k'))
     | ((with_reducible (first | apply tk_bin | apply tk_ext | apply tk_len | apply tk_un)); (· intro w; simp [go_sem, bin]; rfl))
     | ((with_reducible apply sp_newr hs); (· kernel_rfl); intro g w hs))
    refine sx_st (p := 3) hs .hd (by kernel_rfl) ⟨rfl, rfl⟩ (by simp [rfsC]) fun w hs => ?_
    replace hs : Sep b w (blkI g1 T.isthmusref04_FS (rfsC (.slice A r.l.length c) (.int .i64 r.steps) (.bool r.armed) (.int .i64 (IntKind.i64.wrap (r.left - 1))) (.bool r.down)) :: _) := hs
    repeat (first
     | (with_reducible refine rfs.a0 ?_)
     | ((with_reducible apply rfs.r0 hs); (· (with_reducible (repeat (first | exact .blk | exact .rng | apply Rng.tl)))))
     | (with_reducible refine rfs.c0 ?_)
     | ((with_reducible apply rfs.e0); (· first | exact hS | exact hid); (· (with_reducible (repeat (first | exact .blk | exact .rng | apply Rng.tl)))))
     | (with_reducible refine rfs.a1 ?_)
     | ((with_reducible apply rfs.r1 hs); (· (with_reducible (repeat (first | exact .blk | exact .rng | apply Rng.tl)))))
     | (with_reducible refine rfs.c1 ?_)
     | ((with_reducible apply rfs.e1); (· first | exact hS | exact hid); (· (with_reducible (repeat (first | exact .blk | exact .rng | apply Rng.tl)))))
     | (with_reducible refine rfs.a2 ?_)
     | ((with_reducible apply rfs.r2 hs); (· (with_reducible (repeat (first | exact .blk | exact .rng | apply Rng.tl)))))
     | (with_reducible refine rfs.c2 ?_)
     | ((with_reducible apply rfs.e2); (· first | exact hS | exact hid); (· (with_reducible (repeat (first | exact .blk | exact .rng | apply Rng.tl)))))
     | (with_reducible refine rfs.a3 ?_)
     | ((with_reducible apply rfs.r3 hs); (· (with_reducible (repeat (first | exact .blk | exact .rng | apply Rng.tl)))))
     | (with_reducible refine rfs.c3 ?_)
     | ((with_reducible apply rfs.e3); (· first | exact hS | exact hid); (· (with_reducible (repeat (first | exact .blk | exact .rng | apply Rng.tl)))))
     | (with_reducible refine rfs.a4 ?_)
     | ((with_reducible apply rfs.r4 hs); (· (with_reducible (repeat (first | exact .blk | exact .rng | apply Rng.tl)))))
     | (with_reducible refine rfs.c4 ?_)
     | ((with_reducible apply rfs.e4); (· first | exact hS | exact hid); (· (with_reducible (repeat (first | exact .blk | exact .rng | apply Rng.tl)))))
     | (with_reducible (first | refine st_lens ?_ | refine st_eqls ?_ | refine st_nels ?_ | refine tk_eqls ?_ | refine tk_nels ?_ | refine mv.mk ?_ | refine nk_p ?_ | refine gdT_i ?_ | refine gdT_ft ?_ | refine gdT_tf ?_ | refine gdT_u ?_ | refine gd_u ?_ | refine gd_ft ?_ | refine gd_tf ?_ | refine gd_i ?_ | refine pk_t ?_ | refine pk_f ?_ | refine br_t ?_ | refine br_f ?_ | refine sp_boxa hs fun g w hs => ?_))
     | (with_reducible ((first | apply st_bin | apply st_ext | apply st_len | apply st_un | apply st_conv | apply st_mki | apply st_fld | apply st_cap | apply st_max | apply st_min | apply st_ixv | apply st_mkf); intro k' hk; simp [go_sem, thenR_ok, bin]; refine hk _ _ ?_; clear hk k'))
     | ((with_reducible (first | apply tk_bin | apply tk_ext | apply tk_len | apply tk_un)); (· intro w; simp [go_sem, bin]; rfl))
     | ((with_reducible apply sp_newr hs); (· kernel_rfl); intro g w hs))
    refine sx_st (p := 1) hs .hd (by kernel_rfl) ⟨rfl, rfl⟩ (by simp [rfsC]) fun w hs => ?_
    exact hfin _ _ w e rfl hs
  cases ha : r.armed with
  | false =>
    repeat (first
     | (with_reducible (first | refine st_lens ?_ | refine st_eqls ?_ | refine st_nels ?_ | refine tk_eqls ?_ | refine tk_nels ?_ | refine mv.mk ?_ | refine nk_p ?_ | refine gdT_i ?_ | refine gdT_ft ?_ | refine gdT_tf ?_ | refine gdT_u ?_ | refine gd_u ?_ | refine gd_ft ?_ | refine gd_tf ?_ | refine gd_i ?_ | refine pk_t ?_ | refine pk_f ?_ | refine br_t ?_ | refine br_f ?_ | refine sp_boxa hs fun g w hs => ?_))
     | (with_reducible ((first | apply st_bin | apply st_ext | apply st_len | apply st_un | apply st_conv | apply st_mki | apply st_fld | apply st_cap | apply st_max | apply st_min | apply st_ixv | apply st_mkf); intro k' hk; simp [go_sem, thenR_ok, bin]; refine hk _ _ ?_; clear hk k'))
     | ((with_reducible (first | apply tk_bin | apply tk_ext | apply tk_len | apply tk_un)); (· intro w; simp [go_sem, bin]; rfl))
     | ((with_reducible apply sp_newr hs); (· kernel_rfl); intro g w hs))
    exact hgo (by simp [ha]) w hs
  | true =>
  repeat (first
   | (with_reducible refine rfs.a0 ?_)
   | ((with_reducible apply rfs.r0 hs); (· (with_reducible (repeat (first | exact .blk | exact .rng | apply Rng.tl)))))
   | (with_reducible refine rfs.c0 ?_)
   | ((with_reducible apply rfs.e0); (· first | exact hS | exact hid); (· (with_reducible (repeat (first | exact .blk | exact .rng | apply Rng.tl)))))
   | (with_reducible refine rfs.a1 ?_)
   | ((with_reducible apply rfs.r1 hs); (· (with_reducible (repeat (first | exact .blk | exact .rng | apply Rng.tl)))))
   | (with_reducible refine rfs.c1 ?_)
   | ((with_reducible apply rfs.e1); (· first | exact hS | exact hid); (· (with_reducible (repeat (first | exact .blk | exact .rng | apply Rng.tl)))))
   | (with_reducible refine rfs.a2 ?_)
   | ((with_reducible apply rfs.r2 hs); (· (with_reducible (repeat (first | exact .blk | exact .rng | apply Rng.tl)))))
   | (with_reducible refine rfs.c2 ?_)
   | ((with_reducible apply rfs.e2); (· first | exact hS | exact hid); (· (with_reducible (repeat (first | exact .blk | exact .rng | apply Rng.tl)))))
   | (with_reducible refine rfs.a3 ?_)
   | ((with_reducible apply rfs.r3 hs); (· (with_reducible (repeat (first | exact .blk | exact .rng | apply Rng.tl)))))
   | (with_reducible refine rfs.c3 ?_)
   | ((with_reducible apply rfs.e3); (· first | exact hS | exact hid); (· (with_reducible (repeat (first | exact .blk | exact .rng | apply Rng.tl)))))
   | (with_reducible refine rfs.a4 ?_)
   | ((with_reducible apply rfs.r4 hs); (· (with_reducible (repeat (first | exact .blk | exact .rng | apply Rng.tl)))))
   | (with_reducible refine rfs.c4 ?_)
   | ((with_reducible apply rfs.e4); (· first | exact hS | exact hid); (· (with_reducible (repeat (first | exact .blk | exact .rng | apply Rng.tl)))))
   | (with_reducible (first | refine st_lens ?_ | refine st_eqls ?_ | refine st_nels ?_ | refine tk_eqls ?_ | refine tk_nels ?_ | refine mv.mk ?_ | refine nk_p ?_ | refine gdT_i ?_ | refine gdT_ft ?_ | refine gdT_tf ?_ | refine gdT_u ?_ | refine gd_u ?_ | refine gd_ft ?_ | refine gd_tf ?_ | refine gd_i ?_ | refine pk_t ?_ | refine pk_f ?_ | refine br_t ?_ | refine br_f ?_ | refine sp_boxa hs fun g w hs => ?_))
   | (with_reducible ((first | apply st_bin | apply st_ext | apply st_len | apply st_un | apply st_conv | apply st_mki | apply st_fld | apply st_cap | apply st_max | apply st_min | apply st_ixv | apply st_mkf); intro k' hk; simp [go_sem, thenR_ok, bin]; refine hk _ _ ?_; clear hk k'))
   | ((with_reducible (first | apply tk_bin | apply tk_ext | apply tk_len | apply tk_un)); (· intro w; simp [go_sem, bin]; rfl))
   | ((with_reducible apply sp_newr hs); (· kernel_rfl); intro g w hs))
  by_cases h0 : r.left = 0
  rotate_left
  · rw [show (r.left == 0) = false by simpa using h0]
    repeat (first
     | (with_reducible (first | refine st_lens ?_ | refine st_eqls ?_ | refine st_nels ?_ | refine tk_eqls ?_ | refine tk_nels ?_ | refine mv.mk ?_ | refine nk_p ?_ | refine gdT_i ?_ | refine gdT_ft ?_ | refine gdT_tf ?_ | refine gdT_u ?_ | refine gd_u ?_ | refine gd_ft ?_ | refine gd_tf ?_ | refine gd_i ?_ | refine pk_t ?_ | refine pk_f ?_ | refine br_t ?_ | refine br_f ?_ | refine sp_boxa hs fun g w hs => ?_))
     | (with_reducible ((first | apply st_bin | apply st_ext | apply st_len | apply st_un | apply st_conv | apply st_mki | apply st_fld | apply st_cap | apply st_max | apply st_min | apply st_ixv | apply st_mkf); intro k' hk; simp [go_sem, thenR_ok, bin]; refine hk _ _ ?_; clear hk k'))
     | ((with_reducible (first | apply tk_bin | apply tk_ext | apply tk_len | apply tk_un)); (· intro w; simp [go_sem, bin]; rfl))
     | ((with_reducible apply sp_newr hs); (· kernel_rfl); intro g w hs))
    exact hgo (fun h => h0 h.2) w hs
  rw [show (r.left == 0) = true by simpa using h0]
  repeat (first
   | (with_reducible refine rfs.a0 ?_)
   | ((with_reducible apply rfs.r0 hs); (· (with_reducible (repeat (first | exact .blk | exact .rng | apply Rng.tl)))))
   | (with_reducible refine rfs.c0 ?_)
   | ((with_reducible apply rfs.e0); (· first | exact hS | exact hid); (· (with_reducible (repeat (first | exact .blk | exact .rng | apply Rng.tl)))))
   | (with_reducible refine rfs.a1 ?_)
   | ((with_reducible apply rfs.r1 hs); (· (with_reducible (repeat (first | exact .blk | exact .rng | apply Rng.tl)))))
   | (with_reducible refine rfs.c1 ?_)
   | ((with_reducible apply rfs.e1); (· first | exact hS | exact hid); (· (with_reducible (repeat (first | exact .blk | exact .rng | apply Rng.tl)))))
   | (with_reducible refine rfs.a2 ?_)
   | ((with_reducible apply rfs.r2 hs); (· (with_reducible (repeat (first | exact .blk | exact .rng | apply Rng.tl)))))
   | (with_reducible refine rfs.c2 ?_)
   | ((with_reducible apply rfs.e2); (· first | exact hS | exact hid); (· (with_reducible (repeat (first | exact .blk | exact .rng | apply Rng.tl)))))
   | (with_reducible refine rfs.a3 ?_)
   | ((with_reducible apply rfs.r3 hs); (· (with_reducible (repeat (first | exact .blk | exact .rng | apply Rng.tl)))))
   | (with_reducible refine rfs.c3 ?_)
   | ((with_reducible apply rfs.e3); (· first | exact hS | exact hid); (· (with_reducible (repeat (first | exact .blk | exact .rng | apply Rng.tl)))))
   | (with_reducible refine rfs.a4 ?_)
   | ((with_reducible apply rfs.r4 hs); (· (with_reducible (repeat (first | exact .blk | exact .rng | apply Rng.tl)))))
   | (with_reducible refine rfs.c4 ?_)
   | ((with_reducible apply rfs.e4); (· first | exact hS | exact hid); (· (with_reducible (repeat (first | exact .blk | exact .rng | apply Rng.tl)))))
   | (with_reducible (first | refine st_lens ?_ | refine st_eqls ?_ | refine st_nels ?_ | refine tk_eqls ?_ | refine tk_nels ?_ | refine mv.mk ?_ | refine nk_p ?_ | refine gdT_i ?_ | refine gdT_ft ?_ | refine gdT_tf ?_ | refine gdT_u ?_ | refine gd_u ?_ | refine gd_ft ?_ | refine gd_tf ?_ | refine gd_i ?_ | refine pk_t ?_ | refine pk_f ?_ | refine br_t ?_ | refine br_f ?_ | refine sp_boxa hs fun g w hs => ?_))
   | (with_reducible ((first | apply st_bin | apply st_ext | apply st_len | apply st_un | apply st_conv | apply st_mki | apply st_fld | apply st_cap | apply st_max | apply st_min | apply st_ixv | apply st_mkf); intro k' hk; simp [go_sem, thenR_ok, bin]; refine hk _ _ ?_; clear hk k'))
   | ((with_reducible (first | apply tk_bin | apply tk_ext | apply tk_len | apply tk_un)); (· intro w; simp [go_sem, bin]; rfl))
   | ((with_reducible apply sp_newr hs); (· kernel_rfl); intro g w hs))
  refine sx_st (p := 4) hs .hd (by kernel_rfl) ⟨rfl, rfl⟩ (by simp [rfsC]) fun w hs => ?_
  exact hfin { r with down := true } true w (by rw [stepR, if_pos ⟨ha, h0⟩]) rfl hs
end
end Go.Proofs.YtiaiglgfangedaaDoor
set_option linter.unusedVariables false
set_option linter.unusedSimpArgs false
set_option linter.unusedSectionVars false
namespace Go.Proofs.YtiaiglgfangedaaDoor
open Go Go.Isk Go.RowKit
set_option maxRecDepth 20000
def F.isthmusref04_set_r (k : Value → World → Prop) (t2 t4 t5 t6 t7_1 : Value) (w : World) : Prop :=
  mv t6 fun t24 =>
  jn (fun x1 => [x1 5]) (fun k1 =>
  br t24 (fun _ =>
  mv t5 fun t25 =>
  o1 Tryd.prog (bin .add 3 (.tmp 25) (.const (.int .i64 1)) t25 (.int .i64 1)) w fun t26 w =>
  mv t26 fun t5_1 =>
  k1 [t5_1] w) (fun _ =>
  k1 [t5] w)) fun x1 w =>
  mv t7_1 fun t27 =>
  o1 Tryd.prog (Instr.fieldAt 42 t2 0) w fun t28 w =>
  o1 Tryd.prog (Instr.loadAt 40 t28) w fun t29 w =>
  mv (x1 5) fun t30 =>
  o1 Tryd.prog (Instr.sliceAt 40 t29 (some t30) none none) w fun t31 w =>
  ob Tryd.prog (fun _ => Builtin.append_ #[40, 40] 40 #[t27, t31]) w fun t32 w =>
  o1 Tryd.prog (Instr.fieldAt 42 t2 0) w fun t33 w =>
  o0 Tryd.prog (Instr.storeAt 40 t33 t32) w fun _ w =>
  o1 Tryd.prog (Instr.loadAt 42 t2) w fun t34 w =>
  o0 Tryd.prog (Instr.storeAt 42 t4 t34) w fun _ w =>
  rc Tryd.prog 42 t4 w fun r0 =>
  k r0 w
def cellsR (l : List RFile) : List Value := (l.map rfV).flatten
section
variable {b : Base} {w : World} {L R : List It} {g g2 g3 g4 : Nat} {v sv x : Value} {s n : Bytes} {cs ds : List Value} {r : RFS} {l t : List RFile} {y : RFile} {k : Value → World → Prop}
theorem slto_el {α : Type} {F : Fam α} {P : Program} {sz T E by_ : Nat} {sv : Value} {ls : List α} (h : Isk.Sep b w L) (hm : Ins L (listF F sz sv ls).it) (hT : slT P T E sz by_ = true) (i : Nat) (hi : i ≤ ls.length) (q : IntKind) :
    ∃ v, (∀ w', (Instr.sliceAt T sv none (some (.int q (i : Nat))) none).run P w' = .ok v w') ∧ Isk.Sep b w ((listF F sz v (ls.take i)).it :: L) := by
  obtain ⟨xss, h1, h2, h3⟩ := h.get hm
  obtain ⟨v', hr, hs, ho⟩ := sl_to hT h3.1 i hi q
  refine ⟨v', hr, h.fact ⟨xss.take i, h1.take i, fun x hx => h2 x (List.mem_of_mem_take hx), ?_, fun hn k hk => ?_⟩⟩
  · rw [flatten_take i h2 (by rw [h1.1]; exact hi), show (ls.take i).length = i by simp; omega]; exact hs
  · refine h3.2 (Nat.lt_of_lt_of_le hn (Nat.mul_le_mul_right _ (by rw [List.length_take]; exact Nat.min_le_right _ _))) k (ho ▸ hk)
theorem cellsR_one (l : List RFile) : ∀ u ∈ cellsR l, u.oneCell' = true := by
  intro u hu
  obtain ⟨c, hc, hu⟩ := List.mem_flatten.1 hu
  obtain ⟨y, _, rfl⟩ := List.mem_map.1 hc
  exact rfV_one y u hu
theorem cellsR_app (l t : List RFile) : cellsR (l ++ t) = cellsR l ++ cellsR t := by simp [cellsR]
theorem rl_cells (hs : Isk.Sep b w L) (hm : Ins L (listF rfF 3 v l).it) : SlS (Stb w L) w v l.length 3 (cellsR l) := by
  obtain ⟨xss, h1, h2, h3⟩ := hs.get hm
  have : xss = l.map rfV := by
    apply List.ext_getElem
    · simp [h1.1]
    · intro i hi hj
      have hil : i < l.length := by rw [← h1.1]; exact hi
      have h4 : xss[i] = rfV l[i] := h1.2 i hil _ (List.getElem?_eq_getElem hi)
      rw [List.getElem_map, h4]
  rw [this] at h3
  exact h3
theorem rl_of (hs : Isk.Sep b w L) (h : SlS (Stb w L) w v l.length 3 (cellsR l)) : Isk.Sep b w ((listF rfF 3 v l).it :: L) :=
  hs.fact ⟨l.map rfV, ⟨by simp, fun i hi x hx => by
    rw [List.getElem?_map, List.getElem?_eq_getElem hi] at hx
    simp only [Option.map_some, Option.some.injEq] at hx
    exact hx.symm⟩, fun x hx => by
    obtain ⟨y, _, rfl⟩ := List.mem_map.1 hx
    rfl, h⟩
theorem sp_appR {T' : TypeId} (h : Isk.Sep b w L) (hm : Has L (rowI v T.isthmusref04_File 3 l.length (cellsR l)) R) (hx : Ins R (listF rfF 3 x t).it) (hl : l.length + t.length ≤ 1000000)
    (hk : ∀ v' w', Isk.Sep b w' (rowI v' T.isthmusref04_File 3 (l ++ t).length (cellsR (l ++ t)) :: R) → k v' w') : ob Tryd.prog (fun _ => Builtin.append_ #[T.sl_isthmusref04_File, T.sl_isthmusref04_File] T' #[v, x]) w k :=
  st_app rfT (h.get hm.ins) (rl_cells (h.drop hm) hx).1 (cellsR_one t) (by omega) (by omega) (Nat.zero_le _) fun v' w' ho hu hv => hk v' w' (by
    have := h.rerow hm hu hv ho
    rw [List.length_append, cellsR_app]
    exact this)
theorem row_cells {E sz n : Nat} {xs : List Value} (h : Isk.Sep b w L) (hm : Has L (rowI v E sz n xs) R) : v.cells = #[v] ∧ v.oneCell' = true := own_cells (h.get hm.ins)
theorem rfs_ret {A c} {K : Value → World → Prop} {q : RFS} (hs : Isk.Sep b w (rowI v T.isthmusref04_File 3 l.length (cellsR l) :: blkI g2 T.isthmusref04_FS (rfsV r (.slice A r.l.length c)) :: resI Tryd.prog g4 T.isthmusref04_FS :: L)) (hq : q = { r with l := l })
    (hk : ∀ ds w', Isk.Sep b w' ((rfsF ds q).it :: L) → K (.agg ds.toArray) w') :
    o0 Tryd.prog (Instr.storeAt T.sl_isthmusref04_File (.pointer (some ⟨g2, 0, none⟩)) v) w fun _ w =>
      o1 Tryd.prog (Instr.loadAt T.isthmusref04_FS (.pointer (some ⟨g2, 0, none⟩))) w fun t34 w => o0 Tryd.prog (Instr.storeAt T.isthmusref04_FS (.pointer (some ⟨g4, 0, none⟩)) t34) w fun _ w =>
      rc Tryd.prog T.isthmusref04_FS (.pointer (some ⟨g4, 0, none⟩)) w fun r0 => K r0 w := by
  subst hq
  have hv := row_cells hs .hd
  refine sx_st (p := 0) hs (.tl .hd) (by kernel_rfl) hv (by simp [rfsC]) fun w hs => ?_
  replace hs : Isk.Sep b w (blkI g2 T.isthmusref04_FS (rfsV { r with l := l } v) :: rowI v T.isthmusref04_File 3 l.length (cellsR l) :: resI Tryd.prog g4 T.isthmusref04_FS :: L) := hs
  refine sp_loadall hs .hd (by kernel_rfl) rfl ?_
  refine sp_setr (ds := rfsV { r with l := l } v) hs (.tl (.tl .hd)) (by kernel_rfl) rfl (rfsC_one hv.2 rfl rfl rfl rfl) fun w hs => sp_rc hs .hd (by kernel_rfl) rfl ?_
  replace hs := hs.rowF (.tl (.tl .hd))
  have hs2 := rl_of hs (hs.get .hd)
  refine hk _ w ((hs2.fact (f := rfsF (rfsV { r with l := l } v) { r with l := l }) ⟨_, rfl, hs2.get .hd⟩).sbl (.cons .hd (.drop (.drop (.drop (.drop .all))))))
theorem set_r {A c} (hs : Isk.Sep b w (rowI v T.isthmusref04_File 3 (r.l.take (posR y.name r.l) ++ [y]).length (cellsR (r.l.take (posR y.name r.l) ++ [y])) :: blkI g2 T.isthmusref04_FS (rfsV r (.slice A r.l.length c)) :: resI Tryd.prog g4 T.isthmusref04_FS :: (listF rfF 3 (.slice A r.l.length c) r.l).it :: L)) (hl : r.l.length ≤ 100000) :
    F.isthmusref04_set_r (fun v w' => ∃ ds, v = .agg ds.toArray ∧ Isk.Sep b w' ((rfsF ds (setF r y)).it :: L)) (.pointer (some ⟨g2, 0, none⟩)) (.pointer (some ⟨g4, 0, none⟩)) (.int .i64 (posR y.name r.l)) (.bool (isR y.name r.l)) v w := by
  have hp := posR_le y.name r.l
  unfold F.isthmusref04_set_r
  repeat with_reducible refine mv.mk ?_
  refine jn_by (fun us w' => us = [.int .i64 ((if isR y.name r.l = true then posR y.name r.l + 1 else posR y.name r.l : Nat) : Int)] ∧ Isk.Sep b w' (rowI v T.isthmusref04_File 3 (r.l.take (posR y.name r.l) ++ [y]).length (cellsR (r.l.take (posR y.name r.l) ++ [y])) :: blkI g2 T.isthmusref04_FS (rfsV r (.slice A r.l.length c)) :: resI Tryd.prog g4 T.isthmusref04_FS :: (listF rfF 3 (.slice A r.l.length c) r.l).it :: L)) ?_ ?_
  · cases hi : isR y.name r.l with
    | true =>
      repeat (first
       | (with_reducible (first | refine st_lens ?_ | refine st_eqls ?_ | refine st_nels ?_ | refine tk_eqls ?_ | refine tk_nels ?_ | refine mv.mk ?_ | refine nk_p ?_ | refine gdT_i ?_ | refine gdT_ft ?_ | refine gdT_tf ?_ | refine gdT_u ?_ | refine gd_u ?_ | refine gd_ft ?_ | refine gd_tf ?_ | refine gd_i ?_ | refine pk_t ?_ | refine pk_f ?_ | refine br_t ?_ | refine br_f ?_ | refine sp_boxa hs fun g w hs => ?_))
       | (with_reducible ((first | apply st_bin | apply st_ext | apply st_len | apply st_un | apply st_conv | apply st_mki | apply st_fld | apply st_cap | apply st_max | apply st_min | apply st_ixv | apply st_mkf); intro k' hk; simp [go_sem, thenR_ok, bin]; refine hk _ _ ?_; clear hk k'))
       | ((with_reducible (first | apply tk_bin | apply tk_ext | apply tk_len | apply tk_un)); (· intro w; simp [go_sem, bin]; rfl))
       | ((with_reducible apply sp_newr hs); (· kernel_rfl); intro g w hs))
      rw [i64_succ (by omega)]
      exact ⟨rfl, hs⟩
    | false =>
      repeat (first
       | (with_reducible (first | refine st_lens ?_ | refine st_eqls ?_ | refine st_nels ?_ | refine tk_eqls ?_ | refine tk_nels ?_ | refine mv.mk ?_ | refine nk_p ?_ | refine gdT_i ?_ | refine gdT_ft ?_ | refine gdT_tf ?_ | refine gdT_u ?_ | refine gd_u ?_ | refine gd_ft ?_ | refine gd_tf ?_ | refine gd_i ?_ | refine pk_t ?_ | refine pk_f ?_ | refine br_t ?_ | refine br_f ?_ | refine sp_boxa hs fun g w hs => ?_))
       | (with_reducible ((first | apply st_bin | apply st_ext | apply st_len | apply st_un | apply st_conv | apply st_mki | apply st_fld | apply st_cap | apply st_max | apply st_min | apply st_ixv | apply st_mkf); intro k' hk; simp [go_sem, thenR_ok, bin]; refine hk _ _ ?_; clear hk k'))
       | ((with_reducible (first | apply tk_bin | apply tk_ext | apply tk_len | apply tk_un)); (· intro w; simp [go_sem, bin]; rfl))
       | ((with_reducible apply sp_newr hs); (· kernel_rfl); intro g w hs))
      exact ⟨rfl, hs⟩
  · rintro x1 w ⟨hx, hs⟩
    simp only [List.cons.injEq, and_true] at hx
    simp only [hx]
    have hq : (if isR y.name r.l = true then posR y.name r.l + 1 else posR y.name r.l) ≤ r.l.length := by
      split
      · rename_i h; have := isR_lt h; omega
      · exact hp
    have he := setR_eq y r.l
    generalize (if isR y.name r.l = true then posR y.name r.l + 1 else posR y.name r.l) = q at *
    repeat (first
     | (with_reducible refine rfs.a0 ?_)
     | ((with_reducible apply rfs.r0 hs); (· (with_reducible (repeat (first | exact .blk | exact .rng | apply Rng.tl)))))
     | (with_reducible refine rfs.c0 ?_)
     | ((with_reducible apply rfs.e0); (· first | exact hS | exact hid); (· (with_reducible (repeat (first | exact .blk | exact .rng | apply Rng.tl)))))
     | (with_reducible refine rfs.a1 ?_)
     | ((with_reducible apply rfs.r1 hs); (· (with_reducible (repeat (first | exact .blk | exact .rng | apply Rng.tl)))))
     | (with_reducible refine rfs.c1 ?_)
     | ((with_reducible apply rfs.e1); (· first | exact hS | exact hid); (· (with_reducible (repeat (first | exact .blk | exact .rng | apply Rng.tl)))))
     | (with_reducible refine rfs.a2 ?_)
     | ((with_reducible apply rfs.r2 hs); (· (with_reducible (repeat (first | exact .blk | exact .rng | apply Rng.tl)))))
     | (with_reducible refine rfs.c2 ?_)
     | ((with_reducible apply rfs.e2); (· first | exact hS | exact hid); (· (with_reducible (repeat (first | exact .blk | exact .rng | apply Rng.tl)))))
     | (with_reducible refine rfs.a3 ?_)
     | ((with_reducible apply rfs.r3 hs); (· (with_reducible (repeat (first | exact .blk | exact .rng | apply Rng.tl)))))
     | (with_reducible refine rfs.c3 ?_)
     | ((with_reducible apply rfs.e3); (· first | exact hS | exact hid); (· (with_reducible (repeat (first | exact .blk | exact .rng | apply Rng.tl)))))
     | (with_reducible refine rfs.a4 ?_)
     | ((with_reducible apply rfs.r4 hs); (· (with_reducible (repeat (first | exact .blk | exact .rng | apply Rng.tl)))))
     | (with_reducible refine rfs.c4 ?_)
     | ((with_reducible apply rfs.e4); (· first | exact hS | exact hid); (· (with_reducible (repeat (first | exact .blk | exact .rng | apply Rng.tl)))))
     | (with_reducible (first | refine st_lens ?_ | refine st_eqls ?_ | refine st_nels ?_ | refine tk_eqls ?_ | refine tk_nels ?_ | refine mv.mk ?_ | refine nk_p ?_ | refine gdT_i ?_ | refine gdT_ft ?_ | refine gdT_tf ?_ | refine gdT_u ?_ | refine gd_u ?_ | refine gd_ft ?_ | refine gd_tf ?_ | refine gd_i ?_ | refine pk_t ?_ | refine pk_f ?_ | refine br_t ?_ | refine br_f ?_ | refine sp_boxa hs fun g w hs => ?_))
     | (with_reducible ((first | apply st_bin | apply st_ext | apply st_len | apply st_un | apply st_conv | apply st_mki | apply st_fld | apply st_cap | apply st_max | apply st_min | apply st_ixv | apply st_mkf); intro k' hk; simp [go_sem, thenR_ok, bin]; refine hk _ _ ?_; clear hk k'))
     | ((with_reducible (first | apply tk_bin | apply tk_ext | apply tk_len | apply tk_un)); (· intro w; simp [go_sem, bin]; rfl))
     | ((with_reducible apply sp_newr hs); (· kernel_rfl); intro g w hs))
    obtain ⟨v3, hsl, hs⟩ := slfr_el (P := Tryd.prog) hs (.tl (.tl (.tl .hd))) rfT q hq .i64
    refine st_of (hsl w) ?_
    refine sp_appR hs (.tl .hd) .hd (by simp only [List.length_append, List.length_take, List.length_drop, List.length_cons, List.length_nil]; omega) fun v4 w hs => ?_
    rw [← he] at hs
    replace hs := hs.sbl (L' := rowI v4 T.isthmusref04_File 3 (setR y r.l).length (cellsR (setR y r.l)) :: blkI g2 T.isthmusref04_FS (rfsV r (.slice A r.l.length c)) :: resI Tryd.prog g4 T.isthmusref04_FS :: L) (.cons .hd (.drop (.cons .hd (.cons .hd (.drop .all)))))
    repeat (first
     | (with_reducible refine rfs.a0 ?_)
     | ((with_reducible apply rfs.r0 hs); (· (with_reducible (repeat (first | exact .blk | exact .rng | apply Rng.tl)))))
     | (with_reducible refine rfs.c0 ?_)
     | ((with_reducible apply rfs.e0); (· first | exact hS | exact hid); (· (with_reducible (repeat (first | exact .blk | exact .rng | apply Rng.tl)))))
     | (with_reducible refine rfs.a1 ?_)
     | ((with_reducible apply rfs.r1 hs); (· (with_reducible (repeat (first | exact .blk | exact .rng | apply Rng.tl)))))
     | (with_reducible refine rfs.c1 ?_)
     | ((with_reducible apply rfs.e1); (· first | exact hS | exact hid); (· (with_reducible (repeat (first | exact .blk | exact .rng | apply Rng.tl)))))
     | (with_reducible refine rfs.a2 ?_)
     | ((with_reducible apply rfs.r2 hs); (· (with_reducible (repeat (first | exact .blk | exact .rng | apply Rng.tl)))))
     | (with_reducible refine rfs.c2 ?_)
     | ((with_reducible apply rfs.e2); (· first | exact hS | exact hid); (· (with_reducible (repeat (first | exact .blk | exact .rng | apply Rng.tl)))))
     | (with_reducible refine rfs.a3 ?_)
     | ((with_reducible apply rfs.r3 hs); (· (with_reducible (repeat (first | exact .blk | exact .rng | apply Rng.tl)))))
     | (with_reducible refine rfs.c3 ?_)
     | ((with_reducible apply rfs.e3); (· first | exact hS | exact hid); (· (with_reducible (repeat (first | exact .blk | exact .rng | apply Rng.tl)))))
     | (with_reducible refine rfs.a4 ?_)
     | ((with_reducible apply rfs.r4 hs); (· (with_reducible (repeat (first | exact .blk | exact .rng | apply Rng.tl)))))
     | (with_reducible refine rfs.c4 ?_)
     | ((with_reducible apply rfs.e4); (· first | exact hS | exact hid); (· (with_reducible (repeat (first | exact .blk | exact .rng | apply Rng.tl)))))
     | (with_reducible (first | refine st_lens ?_ | refine st_eqls ?_ | refine st_nels ?_ | refine tk_eqls ?_ | refine tk_nels ?_ | refine mv.mk ?_ | refine nk_p ?_ | refine gdT_i ?_ | refine gdT_ft ?_ | refine gdT_tf ?_ | refine gdT_u ?_ | refine gd_u ?_ | refine gd_ft ?_ | refine gd_tf ?_ | refine gd_i ?_ | refine pk_t ?_ | refine pk_f ?_ | refine br_t ?_ | refine br_f ?_ | refine sp_boxa hs fun g w hs => ?_))
     | (with_reducible ((first | apply st_bin | apply st_ext | apply st_len | apply st_un | apply st_conv | apply st_mki | apply st_fld | apply st_cap | apply st_max | apply st_min | apply st_ixv | apply st_mkf); intro k' hk; simp [go_sem, thenR_ok, bin]; refine hk _ _ ?_; clear hk k'))
     | ((with_reducible (first | apply tk_bin | apply tk_ext | apply tk_len | apply tk_un)); (· intro w; simp [go_sem, bin]; rfl))
     | ((with_reducible apply sp_newr hs); (· kernel_rfl); intro g w hs))
    exact rfs_ret hs rfl fun ds w' hs => ⟨ds, rfl, hs⟩
theorem isthmusref04_set (hs : Isk.Sep b w L) (hm : Ins L (rfsF cs r).it) (hl : r.l.length ≤ 100000) :
    C Tryd.prog N.isthmusref04_set #[.agg cs.toArray, .agg (rfV y).toArray] w fun v w' => ∃ ds, v = .agg ds.toArray ∧ Isk.Sep b w' ((rfsF ds (setF r y)).it :: L) := by
  obtain ⟨A, c, rfl, hs⟩ := rfs_open hs hm
  refine C.isthmusref04_set ?_
  unfold F.isthmusref04_set
  refine sp_boxa hs fun g2 w hs => ?_
  refine sp_boxa hs fun g3 w hs => ?_
  refine sp_newr hs (by kernel_rfl) fun g4 w hs => ?_
  refine sp_loadall hs (.tl (.tl .hd)) (by kernel_rfl) rfl ?_
  repeat (first
   | (with_reducible refine rfile.a0 ?_)
   | ((with_reducible apply rfile.r0 hs); (· (with_reducible (repeat (first | exact .blk | exact .rng | apply Rng.tl)))))
   | (with_reducible refine rfile.c0 ?_)
   | ((with_reducible apply rfile.e0); (· first | exact hS | exact hid); (· (with_reducible (repeat (first | exact .blk | exact .rng | apply Rng.tl)))))
   | (with_reducible refine rfile.a1 ?_)
   | ((with_reducible apply rfile.r1 hs); (· (with_reducible (repeat (first | exact .blk | exact .rng | apply Rng.tl)))))
   | (with_reducible refine rfile.c1 ?_)
   | ((with_reducible apply rfile.e1); (· first | exact hS | exact hid); (· (with_reducible (repeat (first | exact .blk | exact .rng | apply Rng.tl)))))
   | (with_reducible refine rfile.a2 ?_)
   | ((with_reducible apply rfile.r2 hs); (· (with_reducible (repeat (first | exact .blk | exact .rng | apply Rng.tl)))))
   | (with_reducible refine rfile.c2 ?_)
   | ((with_reducible apply rfile.e2); (· first | exact hS | exact hid); (· (with_reducible (repeat (first | exact .blk | exact .rng | apply Rng.tl)))))
   | (with_reducible (first | refine st_lens ?_ | refine st_eqls ?_ | refine st_nels ?_ | refine tk_eqls ?_ | refine tk_nels ?_ | refine mv.mk ?_ | refine nk_p ?_ | refine gdT_i ?_ | refine gdT_ft ?_ | refine gdT_tf ?_ | refine gdT_u ?_ | refine gd_u ?_ | refine gd_ft ?_ | refine gd_tf ?_ | refine gd_i ?_ | refine pk_t ?_ | refine pk_f ?_ | refine br_t ?_ | refine br_f ?_ | refine sp_boxa hs fun g w hs => ?_))
   | (with_reducible ((first | apply st_bin | apply st_ext | apply st_len | apply st_un | apply st_conv | apply st_mki | apply st_fld | apply st_cap | apply st_max | apply st_min | apply st_ixv | apply st_mkf); intro k' hk; simp [go_sem, thenR_ok, bin]; refine hk _ _ ?_; clear hk k'))
   | ((with_reducible (first | apply tk_bin | apply tk_ext | apply tk_len | apply tk_un)); (· intro w; simp [go_sem, bin]; rfl))
   | ((with_reducible apply sp_newr hs); (· kernel_rfl); intro g w hs))
  refine cl (isthmusref04_find (n := y.name) hs (.tl (.tl (.tl (.tl hm)))) (by omega)) ?_
  rintro _ w ⟨rfl, hs⟩
  repeat (first
   | (with_reducible (first | refine st_lens ?_ | refine st_eqls ?_ | refine st_nels ?_ | refine tk_eqls ?_ | refine tk_nels ?_ | refine mv.mk ?_ | refine nk_p ?_ | refine gdT_i ?_ | refine gdT_ft ?_ | refine gdT_tf ?_ | refine gdT_u ?_ | refine gd_u ?_ | refine gd_ft ?_ | refine gd_tf ?_ | refine gd_i ?_ | refine pk_t ?_ | refine pk_f ?_ | refine br_t ?_ | refine br_f ?_ | refine sp_boxa hs fun g w hs => ?_))
   | (with_reducible ((first | apply st_bin | apply st_ext | apply st_len | apply st_un | apply st_conv | apply st_mki | apply st_fld | apply st_cap | apply st_max | apply st_min | apply st_ixv | apply st_mkf); intro k' hk; simp [go_sem, thenR_ok, bin]; refine hk _ _ ?_; clear hk k'))
   | ((with_reducible (first | apply tk_bin | apply tk_ext | apply tk_len | apply tk_un)); (· intro w; simp [go_sem, bin]; rfl))
   | ((with_reducible apply sp_newr hs); (· kernel_rfl); intro g w hs))
  have hp := posR_le y.name r.l
  have htl : (r.l.take (posR y.name r.l)).length ≤ r.l.length := by rw [List.length_take]; omega
  obtain ⟨v3, hsl, hs⟩ := slto_el (P := Tryd.prog) hs (.tl (.tl (.tl .hd))) rfT (posR y.name r.l) hp .i64
  replace hs := (hs.row0 T.isthmusref04_File 3).drew
  refine dr_can (R := [blkI g3 T.isthmusref04_File (rfV y), blkI g2 T.isthmusref04_FS (rfsV r (.slice A r.l.length c))]) hs (.drop (.drop (.drop (.cons .hd (.cons .hd .nil))))) ?_
  repeat (first
   | (with_reducible refine rfs.a0 ?_)
   | ((with_reducible apply rfs.r0 hs); (· (with_reducible (repeat (first | exact .blk | exact .rng | apply Rng.tl)))))
   | (with_reducible refine rfs.c0 ?_)
   | ((with_reducible apply rfs.e0); (· first | exact hS | exact hid); (· (with_reducible (repeat (first | exact .blk | exact .rng | apply Rng.tl)))))
   | (with_reducible refine rfs.a1 ?_)
   | ((with_reducible apply rfs.r1 hs); (· (with_reducible (repeat (first | exact .blk | exact .rng | apply Rng.tl)))))
   | (with_reducible refine rfs.c1 ?_)
   | ((with_reducible apply rfs.e1); (· first | exact hS | exact hid); (· (with_reducible (repeat (first | exact .blk | exact .rng | apply Rng.tl)))))
   | (with_reducible refine rfs.a2 ?_)
   | ((with_reducible apply rfs.r2 hs); (· (with_reducible (repeat (first | exact .blk | exact .rng | apply Rng.tl)))))
   | (with_reducible refine rfs.c2 ?_)
   | ((with_reducible apply rfs.e2); (· first | exact hS | exact hid); (· (with_reducible (repeat (first | exact .blk | exact .rng | apply Rng.tl)))))
   | (with_reducible refine rfs.a3 ?_)
   | ((with_reducible apply rfs.r3 hs); (· (with_reducible (repeat (first | exact .blk | exact .rng | apply Rng.tl)))))
   | (with_reducible refine rfs.c3 ?_)
   | ((with_reducible apply rfs.e3); (· first | exact hS | exact hid); (· (with_reducible (repeat (first | exact .blk | exact .rng | apply Rng.tl)))))
   | (with_reducible refine rfs.a4 ?_)
   | ((with_reducible apply rfs.r4 hs); (· (with_reducible (repeat (first | exact .blk | exact .rng | apply Rng.tl)))))
   | (with_reducible refine rfs.c4 ?_)
   | ((with_reducible apply rfs.e4); (· first | exact hS | exact hid); (· (with_reducible (repeat (first | exact .blk | exact .rng | apply Rng.tl)))))
   | (with_reducible (first | refine st_lens ?_ | refine st_eqls ?_ | refine st_nels ?_ | refine tk_eqls ?_ | refine tk_nels ?_ | refine mv.mk ?_ | refine nk_p ?_ | refine gdT_i ?_ | refine gdT_ft ?_ | refine gdT_tf ?_ | refine gdT_u ?_ | refine gd_u ?_ | refine gd_ft ?_ | refine gd_tf ?_ | refine gd_i ?_ | refine pk_t ?_ | refine pk_f ?_ | refine br_t ?_ | refine br_f ?_ | refine sp_boxa hs fun g w hs => ?_))
   | (with_reducible ((first | apply st_bin | apply st_ext | apply st_len | apply st_un | apply st_conv | apply st_mki | apply st_fld | apply st_cap | apply st_max | apply st_min | apply st_ixv | apply st_mkf); intro k' hk; simp [go_sem, thenR_ok, bin]; refine hk _ _ ?_; clear hk k'))
   | ((with_reducible (first | apply tk_bin | apply tk_ext | apply tk_len | apply tk_un)); (· intro w; simp [go_sem, bin]; rfl))
   | ((with_reducible apply sp_newr hs); (· kernel_rfl); intro g w hs))
  refine tk_run hsl ?_
  refine tk_ldn hid .blk (by kernel_rfl) rfl ?_
  refine ⟨?_, ?_⟩
  · refine sp_appR (l := []) hs .hd .hd (by simp; omega) fun v4 w hs => ?_
    refine ⟨hs.mayr (.drop (.drop (.drop (.cons .hd (.cons .hd .nil))))), ?_⟩
    refine sp_lita hs rfT rfl (by decide) fun v5 w hs => ?_
    refine ⟨hs.mayr (.drop (.drop (.drop (.drop (.cons .hd (.cons .hd .nil)))))), ?_⟩
    replace hs := rl_of (l := [y]) hs (hs.get .hd)
    rw [List.nil_append] at hs
    refine sp_appR hs (.tl (.tl .hd)) .hd (by simp; omega) fun v6 w hs => ?_
    refine ⟨hs.mayr (.drop (.drop (.drop (.drop (.drop (.cons .hd (.cons .hd .nil))))))), ?_⟩
    refine mv.mk ?_
    exact set_r (hs.sbl (.cons .hd (.cons (.tl (.tl (.tl (.tl (.tl .hd))))) (.cons (.tl (.tl (.tl .hd))) (.drop (.drop (.drop (.drop .all)))))))) hl
  · refine sp_lita hs rfT rfl (by decide) fun v5 w hs => ?_
    refine ⟨hs.mayr (.drop (.drop (.drop (.drop (.cons .hd (.cons .hd .nil)))))), ?_⟩
    replace hs := rl_of (l := [y]) hs (hs.get .hd)
    refine sp_appR (l := []) hs (.tl (.tl .hd)) (.tl (.tl .hd)) (by simp; omega) fun v4 w hs => ?_
    refine ⟨hs.mayr (.drop (.drop (.drop (.drop (.drop (.cons .hd (.cons .hd .nil))))))), ?_⟩
    rw [List.nil_append] at hs
    refine sp_appR hs .hd .hd (by simp; omega) fun v6 w hs => ?_
    refine ⟨hs.mayr (.drop (.drop (.drop (.drop (.drop (.cons .hd (.cons .hd .nil))))))), ?_⟩
    refine mv.mk ?_
    exact set_r (hs.sbl (.cons .hd (.cons (.tl (.tl (.tl (.tl (.tl .hd))))) (.cons (.tl (.tl (.tl .hd))) (.drop (.drop (.drop (.drop .all)))))))) hl
theorem isthmusref04_drop (hs : Isk.Sep b w L) (hm : Ins L (rfsF cs r).it) (hl : r.l.length ≤ 100000) :
    C Tryd.prog N.isthmusref04_drop #[.agg cs.toArray, str n] w fun v w' => ∃ ds, v = .agg ds.toArray ∧ Isk.Sep b w' ((rfsF ds (dropF r n)).it :: L) := by
  obtain ⟨A, c, rfl, hs⟩ := rfs_open hs hm
  refine C.isthmusref04_drop ?_
  unfold F.isthmusref04_drop
  refine sp_boxa hs fun g2 w hs => ?_
  refine sp_newr hs (by kernel_rfl) fun g4 w hs => ?_
  refine sp_loadall hs (.tl .hd) (by kernel_rfl) rfl ?_
  repeat with_reducible refine mv.mk ?_
  refine cl (isthmusref04_find (n := n) hs (.tl (.tl (.tl hm))) (by omega)) ?_
  rintro _ w ⟨rfl, hs⟩
  repeat (first
   | (with_reducible (first | refine st_lens ?_ | refine st_eqls ?_ | refine st_nels ?_ | refine tk_eqls ?_ | refine tk_nels ?_ | refine mv.mk ?_ | refine nk_p ?_ | refine gdT_i ?_ | refine gdT_ft ?_ | refine gdT_tf ?_ | refine gdT_u ?_ | refine gd_u ?_ | refine gd_ft ?_ | refine gd_tf ?_ | refine gd_i ?_ | refine pk_t ?_ | refine pk_f ?_ | refine br_t ?_ | refine br_f ?_ | refine sp_boxa hs fun g w hs => ?_))
   | (with_reducible ((first | apply st_bin | apply st_ext | apply st_len | apply st_un | apply st_conv | apply st_mki | apply st_fld | apply st_cap | apply st_max | apply st_min | apply st_ixv | apply st_mkf); intro k' hk; simp [go_sem, thenR_ok, bin]; refine hk _ _ ?_; clear hk k'))
   | ((with_reducible (first | apply tk_bin | apply tk_ext | apply tk_len | apply tk_un)); (· intro w; simp [go_sem, bin]; rfl))
   | ((with_reducible apply sp_newr hs); (· kernel_rfl); intro g w hs))
  have he := dropR_eq n r.l
  cases hi : isR n r.l with
  | false =>
    rw [Bool.not_false]
    rw [hi, if_neg (by decide)] at he
    repeat (first
     | (with_reducible (first | refine st_lens ?_ | refine st_eqls ?_ | refine st_nels ?_ | refine tk_eqls ?_ | refine tk_nels ?_ | refine mv.mk ?_ | refine nk_p ?_ | refine gdT_i ?_ | refine gdT_ft ?_ | refine gdT_tf ?_ | refine gdT_u ?_ | refine gd_u ?_ | refine gd_ft ?_ | refine gd_tf ?_ | refine gd_i ?_ | refine pk_t ?_ | refine pk_f ?_ | refine br_t ?_ | refine br_f ?_ | refine sp_boxa hs fun g w hs => ?_))
     | (with_reducible ((first | apply st_bin | apply st_ext | apply st_len | apply st_un | apply st_conv | apply st_mki | apply st_fld | apply st_cap | apply st_max | apply st_min | apply st_ixv | apply st_mkf); intro k' hk; simp [go_sem, thenR_ok, bin]; refine hk _ _ ?_; clear hk k'))
     | ((with_reducible (first | apply tk_bin | apply tk_ext | apply tk_len | apply tk_un)); (· intro w; simp [go_sem, bin]; rfl))
     | ((with_reducible apply sp_newr hs); (· kernel_rfl); intro g w hs))
    refine sp_loadall hs (.tl .hd) (by kernel_rfl) rfl ?_
    refine sp_setr (ds := rfsV r (.slice A r.l.length c)) hs .hd (by kernel_rfl) rfl (rfsV_one r) fun w hs => sp_rc hs .hd (by kernel_rfl) rfl ?_
    refine ⟨_, rfl, ?_⟩
    have e : dropF r n = r := by unfold dropF; rw [he]
    rw [e]
    exact (hs.fact (f := rfsF (rfsV r (.slice A r.l.length c)) r) ⟨_, rfl, hs.get (.tl (.tl .hd))⟩).sbl (.cons .hd (.drop (.drop (.drop .all))))
  | true =>
  rw [Bool.not_true]
  rw [hi, if_pos rfl] at he
  have hlt := isR_lt hi
  repeat (first
   | (with_reducible (first | refine st_lens ?_ | refine st_eqls ?_ | refine st_nels ?_ | refine tk_eqls ?_ | refine tk_nels ?_ | refine mv.mk ?_ | refine nk_p ?_ | refine gdT_i ?_ | refine gdT_ft ?_ | refine gdT_tf ?_ | refine gdT_u ?_ | refine gd_u ?_ | refine gd_ft ?_ | refine gd_tf ?_ | refine gd_i ?_ | refine pk_t ?_ | refine pk_f ?_ | refine br_t ?_ | refine br_f ?_ | refine sp_boxa hs fun g w hs => ?_))
   | (with_reducible ((first | apply st_bin | apply st_ext | apply st_len | apply st_un | apply st_conv | apply st_mki | apply st_fld | apply st_cap | apply st_max | apply st_min | apply st_ixv | apply st_mkf); intro k' hk; simp [go_sem, thenR_ok, bin]; refine hk _ _ ?_; clear hk k'))
   | ((with_reducible (first | apply tk_bin | apply tk_ext | apply tk_len | apply tk_un)); (· intro w; simp [go_sem, bin]; rfl))
   | ((with_reducible apply sp_newr hs); (· kernel_rfl); intro g w hs))
  obtain ⟨v3, hsl, hs⟩ := slto_el (P := Tryd.prog) hs (.tl (.tl .hd)) rfT (posR n r.l) (by omega) .i64
  obtain ⟨v4, hsl4, hs⟩ := slfr_el (P := Tryd.prog) hs (.tl (.tl (.tl .hd))) rfT (posR n r.l + 1) (by omega) .i64
  replace hs := (hs.row0 T.isthmusref04_File 3).drew
  refine dr_can (R := [blkI g2 T.isthmusref04_FS (rfsV r (.slice A r.l.length c))]) hs (.drop (.drop (.drop (.drop (.cons .hd .nil))))) ?_
  repeat (first
   | (with_reducible refine rfs.a0 ?_)
   | ((with_reducible apply rfs.r0 hs); (· (with_reducible (repeat (first | exact .blk | exact .rng | apply Rng.tl)))))
   | (with_reducible refine rfs.c0 ?_)
   | ((with_reducible apply rfs.e0); (· first | exact hS | exact hid); (· (with_reducible (repeat (first | exact .blk | exact .rng | apply Rng.tl)))))
   | (with_reducible refine rfs.a1 ?_)
   | ((with_reducible apply rfs.r1 hs); (· (with_reducible (repeat (first | exact .blk | exact .rng | apply Rng.tl)))))
   | (with_reducible refine rfs.c1 ?_)
   | ((with_reducible apply rfs.e1); (· first | exact hS | exact hid); (· (with_reducible (repeat (first | exact .blk | exact .rng | apply Rng.tl)))))
   | (with_reducible refine rfs.a2 ?_)
   | ((with_reducible apply rfs.r2 hs); (· (with_reducible (repeat (first | exact .blk | exact .rng | apply Rng.tl)))))
   | (with_reducible refine rfs.c2 ?_)
   | ((with_reducible apply rfs.e2); (· first | exact hS | exact hid); (· (with_reducible (repeat (first | exact .blk | exact .rng | apply Rng.tl)))))
   | (with_reducible refine rfs.a3 ?_)
   | ((with_reducible apply rfs.r3 hs); (· (with_reducible (repeat (first | exact .blk | exact .rng | apply Rng.tl)))))
   | (with_reducible refine rfs.c3 ?_)
   | ((with_reducible apply rfs.e3); (· first | exact hS | exact hid); (· (with_reducible (repeat (first | exact .blk | exact .rng | apply Rng.tl)))))
   | (with_reducible refine rfs.a4 ?_)
   | ((with_reducible apply rfs.r4 hs); (· (with_reducible (repeat (first | exact .blk | exact .rng | apply Rng.tl)))))
   | (with_reducible refine rfs.c4 ?_)
   | ((with_reducible apply rfs.e4); (· first | exact hS | exact hid); (· (with_reducible (repeat (first | exact .blk | exact .rng | apply Rng.tl)))))
   | (with_reducible (first | refine st_lens ?_ | refine st_eqls ?_ | refine st_nels ?_ | refine tk_eqls ?_ | refine tk_nels ?_ | refine mv.mk ?_ | refine nk_p ?_ | refine gdT_i ?_ | refine gdT_ft ?_ | refine gdT_tf ?_ | refine gdT_u ?_ | refine gd_u ?_ | refine gd_ft ?_ | refine gd_tf ?_ | refine gd_i ?_ | refine pk_t ?_ | refine pk_f ?_ | refine br_t ?_ | refine br_f ?_ | refine sp_boxa hs fun g w hs => ?_))
   | (with_reducible ((first | apply st_bin | apply st_ext | apply st_len | apply st_un | apply st_conv | apply st_mki | apply st_fld | apply st_cap | apply st_max | apply st_min | apply st_ixv | apply st_mkf); intro k' hk; simp [go_sem, thenR_ok, bin]; refine hk _ _ ?_; clear hk k'))
   | ((with_reducible (first | apply tk_bin | apply tk_ext | apply tk_len | apply tk_un)); (· intro w; simp [go_sem, bin]; rfl))
   | ((with_reducible apply sp_newr hs); (· kernel_rfl); intro g w hs))
  refine tk_run hsl ?_
  repeat (first
   | (with_reducible refine rfs.a0 ?_)
   | ((with_reducible apply rfs.r0 hs); (· (with_reducible (repeat (first | exact .blk | exact .rng | apply Rng.tl)))))
   | (with_reducible refine rfs.c0 ?_)
   | ((with_reducible apply rfs.e0); (· first | exact hS | exact hid); (· (with_reducible (repeat (first | exact .blk | exact .rng | apply Rng.tl)))))
   | (with_reducible refine rfs.a1 ?_)
   | ((with_reducible apply rfs.r1 hs); (· (with_reducible (repeat (first | exact .blk | exact .rng | apply Rng.tl)))))
   | (with_reducible refine rfs.c1 ?_)
   | ((with_reducible apply rfs.e1); (· first | exact hS | exact hid); (· (with_reducible (repeat (first | exact .blk | exact .rng | apply Rng.tl)))))
   | (with_reducible refine rfs.a2 ?_)
   | ((with_reducible apply rfs.r2 hs); (· (with_reducible (repeat (first | exact .blk | exact .rng | apply Rng.tl)))))
   | (with_reducible refine rfs.c2 ?_)
   | ((with_reducible apply rfs.e2); (· first | exact hS | exact hid); (· (with_reducible (repeat (first | exact .blk | exact .rng | apply Rng.tl)))))
   | (with_reducible refine rfs.a3 ?_)
   | ((with_reducible apply rfs.r3 hs); (· (with_reducible (repeat (first | exact .blk | exact .rng | apply Rng.tl)))))
   | (with_reducible refine rfs.c3 ?_)
   | ((with_reducible apply rfs.e3); (· first | exact hS | exact hid); (· (with_reducible (repeat (first | exact .blk | exact .rng | apply Rng.tl)))))
   | (with_reducible refine rfs.a4 ?_)
   | ((with_reducible apply rfs.r4 hs); (· (with_reducible (repeat (first | exact .blk | exact .rng | apply Rng.tl)))))
   | (with_reducible refine rfs.c4 ?_)
   | ((with_reducible apply rfs.e4); (· first | exact hS | exact hid); (· (with_reducible (repeat (first | exact .blk | exact .rng | apply Rng.tl)))))
   | (with_reducible (first | refine st_lens ?_ | refine st_eqls ?_ | refine st_nels ?_ | refine tk_eqls ?_ | refine tk_nels ?_ | refine mv.mk ?_ | refine nk_p ?_ | refine gdT_i ?_ | refine gdT_ft ?_ | refine gdT_tf ?_ | refine gdT_u ?_ | refine gd_u ?_ | refine gd_ft ?_ | refine gd_tf ?_ | refine gd_i ?_ | refine pk_t ?_ | refine pk_f ?_ | refine br_t ?_ | refine br_f ?_ | refine sp_boxa hs fun g w hs => ?_))
   | (with_reducible ((first | apply st_bin | apply st_ext | apply st_len | apply st_un | apply st_conv | apply st_mki | apply st_fld | apply st_cap | apply st_max | apply st_min | apply st_ixv | apply st_mkf); intro k' hk; simp [go_sem, thenR_ok, bin]; refine hk _ _ ?_; clear hk k'))
   | ((with_reducible (first | apply tk_bin | apply tk_ext | apply tk_len | apply tk_un)); (· intro w; simp [go_sem, bin]; rfl))
   | ((with_reducible apply sp_newr hs); (· kernel_rfl); intro g w hs))
  rw [i64_succ (by omega)]
  refine tk_run hsl4 ?_
  refine sp_appR (l := []) hs .hd (.tl .hd) (by simp; omega) fun v5 w hs => ?_
  refine ⟨hs.mayr (.drop (.drop (.drop (.drop (.cons .hd .nil))))), ?_⟩
  rw [List.nil_append] at hs
  refine sp_appR hs .hd .hd (by simp; omega) fun v6 w hs => ?_
  refine ⟨hs.mayr (.drop (.drop (.drop (.drop (.cons .hd .nil))))), ?_⟩
  rw [← he] at hs
  replace hs := hs.sbl (L' := rowI v6 T.isthmusref04_File 3 (dropR n r.l).length (cellsR (dropR n r.l)) :: blkI g2 T.isthmusref04_FS (rfsV r (.slice A r.l.length c)) :: resI Tryd.prog g4 T.isthmusref04_FS :: L) (.cons .hd (.cons (.tl (.tl (.tl .hd))) (.cons (.tl (.tl .hd)) (.drop (.drop (.drop .all))))))
  refine rfs.c0 ?_
  exact rfs_ret hs rfl fun ds w' hs => ⟨ds, rfl, hs⟩
end
end Go.Proofs.YtiaiglgfangedaaDoor
