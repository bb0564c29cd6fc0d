/- The document's pool: Hash, forget, remember. -/
import Derived.Test.YtgagekffmamldaaGreatDoorH2
import Derived.Test.YtgagekffmamldaaGreatDoorKD
import Derived.Test.YtgagekffmamldaaGreatDoorPT
import Derived.Test.YtgagekffmamldaaGreatDoorSR
import Derived.Test.YtgagekffmamldaaGreatDoorPN
set_option linter.unusedVariables false
set_option linter.unusedSimpArgs false
set_option linter.unusedSectionVars false
namespace Go.Proofs.YtgagekffmamldaaGreatDoor
open Go Go.Isk Go.RowKit
set_option maxRecDepth 20000
def ritemF : Fam (Bytes × Int) := fun cs x => pureF (cs = ritemC (str x.1) (.int .i64 x.2))
theorem ritemF_ok : FamOk ritemF 2 := ⟨fun {cs x S w} h => by
  have h : cs = ritemC (str x.1) (.int .i64 x.2) := h
  rw [h]
  exact ⟨rfl, ritemC_one rfl rfl⟩⟩
theorem riT : slT Tryz.prog T.sl_isthmusref18_Item T.isthmusref18_Item 2 24 = true := by kernel_rfl
abbrev rpV (t y c : Int) (lv kv : Value) : List Value := rpoolC (.int .i64 t) (.int .i64 y) (.int .i64 c) lv kv
section
variable {b : Base} {w : World} {L R : List It} {g g3 g8 : Nat} {v sv lv kv bv cv e av fv : Value} {l h : Bytes} {ks : List Bytes} {rl : List (Bytes × Int)} {t y c : Int}
theorem isthmusref15_Hash (hs : Isk.Sep b w L) (hv : Ins L (byF v l).it) (hl : l.length < 140737488354000) : C Tryz.prog N.isthmusref15_Hash #[v] w fun r w' => r = .agg (u8s (hB l)).toArray ∧ Isk.Sep b w' L := by
  refine C.isthmusref15_Hash ?_
  unfold F.isthmusref15_Hash
  refine sp_newr hs (by kernel_rfl) fun g2 w hs => ?_
  replace hs := hs.fact (f := byF v l) (hs.get (.tl hv))
  refine sp_row1 (c := 9) hs fun u w hs => ?_
  repeat with_reducible refine mv.mk ?_
  refine sp_appY (m := l) hs .hd .byt (by simp only [List.length_cons, List.length_nil]; omega) fun u w hs => ?_
  replace hs := hs.rowB .hd
  refine cl (isthmusref01_Sum hs .hd (by simp only [List.length_append, List.length_cons, List.length_nil]; omega)) ?_
  rintro _ w ⟨rfl, hs⟩
  refine sp_ret hs (.tl (.tl .hd)) (by kernel_rfl) (by rw [u8s_length, shaB_len]) (u8s_one _) fun w hs => ?_
  exact ⟨rfl, (hs.drop .hd).drop .hd⟩
theorem isthmusref18_forget (hlv : lv.oneCell' = true) (hm : Ins L (listF hashF 32 kv ks).it) (hn : ks.length ≤ 1000000000) (hh : h.length = 32) (hs : Isk.Sep b w L) :
    C Tryz.prog N.isthmusref18_forget #[.agg (rpV t y c lv kv).toArray, .agg (u8s h).toArray] w fun r w' => ∃ kv', r = .agg (rpV t y c lv kv').toArray ∧ Isk.Sep b w' (growI hashF T.api_Hash 32 kv' (forgetK h ks) :: L) := by
  obtain ⟨A, cc, rfl⟩ := hs.lst_len hm.lst
  refine C.isthmusref18_forget ?_
  unfold F.isthmusref18_forget
  refine sp_boxa hs fun g2 w hs => ?_
  refine sp_boxa hs fun g3 w hs => ?_
  refine sp_newr hs (by kernel_rfl) fun g4 w hs => ?_
  replace hs := hs.grow0 hashF T.api_Hash 32
  repeat with_reducible refine mv.mk ?_
  refine lp_by (fun us w' => ∃ (i : Nat) (v : Value), us = [v, .int .i64 (i : Int)] ∧ i ≤ ks.length ∧ Isk.Sep b w' (growI hashF T.api_Hash 32 v (forgetK h (ks.take i)) :: resI Tryz.prog g4 T.isthmusref18_Pool :: blkI g3 T.api_Hash (u8s h) :: blkI g2 T.isthmusref18_Pool (rpV t y c lv (.slice A ks.length cc)) :: L)) (fun us _ => match us with | [_, .int _ m] => ks.length - m.toNat | _ => 0) ⟨0, _, rfl, Nat.zero_le _, hs⟩ ?_
  clear hs
  rintro x1 w ⟨i, v, hx1, hi, hs⟩
  simp only [List.cons.injEq, and_true] at hx1
  simp only [hx1.1, hx1.2]
  repeat (first
   | (with_reducible refine rpool.a4 ?_)
   | ((with_reducible apply rpool.r4 hs); (· (with_reducible (repeat (first | exact .blk | exact .rng | apply Rng.tl)))))
   | (with_reducible refine rpool.c4 ?_)
   | ((with_reducible apply rpool.e4); (· first | exact hS | exact hid); (· (with_reducible (repeat (first | exact .blk | exact .rng | apply Rng.tl)))))
   | (with_reducible (first | refine st_lens ?_ | refine st_nels ?_ | refine tk_nels ?_ | refine mv.mk ?_ | refine br_t ?_ | refine br_f ?_ | refine sp_boxa hs fun g w hs => ?_))
   | (with_reducible ((first | apply st_bin | apply st_len); intro k' hk; simp [go_sem, thenR_ok, bin]; refine hk _ _ ?_; clear hk k'))
   | ((with_reducible (first | apply tk_bin)); (· intro w; simp [go_sem, bin]; rfl))
   | ((with_reducible apply sp_newr hs); (· kernel_rfl); intro g w hs))
  refine br_split (fun hq => ?_) (fun hq => ?_)
  · have hi' : i < ks.length := by have := of_decide_eq_true hq; omega
    obtain ⟨g1, o1, ys, hix, hyl, hs⟩ := hs.el (P := Tryz.prog) (T := T.sl_api_Hash) (.tl (.tl (.tl (.tl hm)))) hsT i hi'
    obtain ⟨hy, hkl⟩ : ys = u8s ks[i] ∧ ks[i].length = 32 := hs.get (.tl .hd)
    subst hy
    have hmm := hs.drew.mayr .all
    have hS : ∀ w', w' = w.drew → Mayr _ w' := fun w' e => e.symm ▸ hmm
    repeat (first
     | (with_reducible refine rpool.a4 ?_)
     | ((with_reducible apply rpool.r4 hs); (· (with_reducible (repeat (first | exact .blk | exact .rng | apply Rng.tl)))))
     | (with_reducible refine rpool.c4 ?_)
     | ((with_reducible apply rpool.e4); (· first | exact hS | exact hid); (· (with_reducible (repeat (first | exact .blk | exact .rng | apply Rng.tl)))))
     | (with_reducible (first | refine st_lens ?_ | refine st_nels ?_ | refine tk_nels ?_ | refine mv.mk ?_ | refine br_t ?_ | refine br_f ?_ | refine sp_boxa hs fun g w hs => ?_))
     | (with_reducible ((first | apply st_bin | apply st_len); intro k' hk; simp [go_sem, thenR_ok, bin]; refine hk _ _ ?_; clear hk k'))
     | ((with_reducible (first | apply tk_bin)); (· intro w; simp [go_sem, bin]; rfl))
     | ((with_reducible apply sp_newr hs); (· kernel_rfl); intro g w hs))
    refine tk_run (hix .i64) ?_
    refine tk_ldn hS .rng (by kernel_rfl) hyl ?_
    refine tk_ldn hS (.tl (.tl (.tl (.tl .blk)))) (by kernel_rfl) (by rw [u8s_length, hh]) ?_
    refine tk_run (hash_ne hkl hh _ _) ?_
    replace hs := hs.drew
    have hfl : (forgetK h (ks.take i)).length ≤ 1000000000 := by
      have := forgetK_len h (ks.take i)
      have h2 : (ks.take i).length ≤ ks.length := by rw [List.length_take]; omega
      omega
    have hst : forgetK h (ks.take (i + 1)) = forgetK h (ks.take i) ++ forgetK h [ks[i]] := by
      rw [List.take_succ_eq_append_getElem hi']
      unfold forgetK
      rw [List.filter_append]
    refine jn_by (fun us w' => ∃ v, us = [v] ∧ Isk.Sep b w' (growI hashF T.api_Hash 32 v (forgetK h (ks.take (i + 1))) :: resI Tryz.prog g4 T.isthmusref18_Pool :: blkI g3 T.api_Hash (u8s h) :: blkI g2 T.isthmusref18_Pool (rpV t y c lv (.slice A ks.length cc)) :: L)) ?_ ?_
    · by_cases hk : ks[i] = h
      · have h1 : forgetK h [ks[i]] = [] := by unfold forgetK; simp [hk]
        rw [h1, List.append_nil] at hst
        rw [decide_eq_true hk, Bool.not_true]
        repeat (first
         | (with_reducible (first | refine st_lens ?_ | refine st_nels ?_ | refine tk_nels ?_ | refine mv.mk ?_ | refine br_t ?_ | refine br_f ?_ | refine sp_boxa hs fun g w hs => ?_))
         | (with_reducible ((first | apply st_bin | apply st_len); intro k' hk; simp [go_sem, thenR_ok, bin]; refine hk _ _ ?_; clear hk k'))
         | ((with_reducible (first | apply tk_bin)); (· intro w; simp [go_sem, bin]; rfl))
         | ((with_reducible apply sp_newr hs); (· kernel_rfl); intro g w hs))
        rw [hst]
        exact ⟨v, rfl, hs.sbl (.drop (.drop .all))⟩
      · have h1 : forgetK h [ks[i]] = [ks[i]] := by unfold forgetK; simp [hk]
        rw [h1] at hst
        rw [decide_eq_false hk, Bool.not_false]
        repeat (first
         | (with_reducible refine rpool.a4 ?_)
         | ((with_reducible apply rpool.r4 hs); (· (with_reducible (repeat (first | exact .blk | exact .rng | apply Rng.tl)))))
         | (with_reducible refine rpool.c4 ?_)
         | ((with_reducible apply rpool.e4); (· first | exact hS | exact hid); (· (with_reducible (repeat (first | exact .blk | exact .rng | apply Rng.tl)))))
         | (with_reducible (first | refine st_lens ?_ | refine st_nels ?_ | refine tk_nels ?_ | refine mv.mk ?_ | refine br_t ?_ | refine br_f ?_ | refine sp_boxa hs fun g w hs => ?_))
         | (with_reducible ((first | apply st_bin | apply st_len); intro k' hk; simp [go_sem, thenR_ok, bin]; refine hk _ _ ?_; clear hk k'))
         | ((with_reducible (first | apply tk_bin)); (· intro w; simp [go_sem, bin]; rfl))
         | ((with_reducible apply sp_newr hs); (· kernel_rfl); intro g w hs))
        refine st_of (hix .i64 w.drew) ?_
        refine sp_ldn hs .rng (by kernel_rfl) hyl ?_
        refine sp_lita hs hsT hyl (by decide) fun v5 w hs => ?_
        refine sp_push (ys := u8s ks[i]) (a := ks[i]) hs (.tl (.tl (.tl .hd))) hsT (by exact .sl) (by exact (.tl (.tl .hd))) (u8s_one _) (by omega) (by omega) fun v6 w hs => ?_
        repeat with_reducible refine mv.mk ?_
        rw [hst]
        exact ⟨v6, rfl, hs.sbl (.cons .hd (.drop (.drop (.drop .all))))⟩
    · rintro x2 w ⟨v, hx2, hs⟩
      simp only [List.cons.injEq, and_true] at hx2
      simp only [hx2]
      repeat (first
       | (with_reducible (first | refine st_lens ?_ | refine st_nels ?_ | refine tk_nels ?_ | refine mv.mk ?_ | refine br_t ?_ | refine br_f ?_ | refine sp_boxa hs fun g w hs => ?_))
       | (with_reducible ((first | apply st_bin | apply st_len); intro k' hk; simp [go_sem, thenR_ok, bin]; refine hk _ _ ?_; clear hk k'))
       | ((with_reducible (first | apply tk_bin)); (· intro w; simp [go_sem, bin]; rfl))
       | ((with_reducible apply sp_newr hs); (· kernel_rfl); intro g w hs))
      rw [i64_succ (by omega)]
      exact ⟨⟨i + 1, v, rfl, hi', hs⟩, by simp; omega⟩
  · obtain rfl : i = ks.length := by have := of_decide_eq_false hq; omega
    rw [List.take_length] at hs
    have hv := hs.gcells .hd
    repeat with_reducible refine mv.mk ?_
    refine rpool.s4 hs (.tl (.tl (.tl .hd))) hv fun w hs => ?_
    refine sp_loadall hs .hd (by kernel_rfl) rfl ?_
    refine sp_setr (ds := rpV t y c lv v) hs (.tl (.tl .hd)) (by kernel_rfl) rfl (rpoolC_one rfl rfl rfl hlv hv.2) fun w hs => sp_rc hs .hd (by kernel_rfl) rfl ?_
    exact ⟨v, rfl, hs.sbl (.cons (.tl (.tl .hd)) (.drop (.drop (.drop .all))))⟩
theorem sp_stb {P : Program} {t T n : Nat} {cs ds : List Value} {k : Value → World → Prop} (hs : Isk.Sep b w L) (hm : Has L (blkI g t cs) R) (hi : (P.info? T).map (·.size) = some n) (hd : ds.length = n) (hl : cs.length = n) (h1 : ∀ u ∈ ds, u.oneCell' = true) (hk : ∀ w', Isk.Sep b w' (blkI g t ds :: R) → k undef w') :
    o0 P (Instr.storeAt T (.pointer (some ⟨g, 0, none⟩)) (.agg ds.toArray)) w k :=
  sp_storen (p := 0) hs hm hi hd (by omega) h1 fun w' h => hk w' (by simpa [hd, List.drop_of_length_le (Nat.le_of_eq hl)] using h)
theorem isthmusref18_remember (hlv : lv.oneCell' = true) (hm : Ins L (listF hashF 32 kv ks).it) (hn : ks.length ≤ 1000000000) (hc : 0 ≤ c) (hh : h.length = 32) (hs : Isk.Sep b w L) :
    C Tryz.prog N.isthmusref18_remember #[.agg (rpV t y c lv kv).toArray, .agg (u8s h).toArray] w fun r w' => ∃ kv', r = .agg (rpV t y c lv kv').toArray ∧ Isk.Sep b w' ((listF hashF 32 kv' (rememberK c h ks)).it :: L) := by
  obtain ⟨A, cc, rfl⟩ := hs.lst_len hm.lst
  have hfl := forgetK_len h ks
  refine C.isthmusref18_remember ?_
  unfold F.isthmusref18_remember
  refine sp_boxa hs fun g2 w hs => ?_
  refine sp_boxa hs fun g3 w hs => ?_
  refine sp_newr hs (by kernel_rfl) fun g4 w hs => ?_
  refine sp_loadall hs (.tl (.tl .hd)) (by kernel_rfl) rfl ?_
  refine sp_ldn hs (.tl .blk) (by kernel_rfl) (by rw [u8s_length, hh]) ?_
  refine cl (isthmusref18_forget hlv (.tl (.tl (.tl hm))) hn hh hs) ?_
  rintro _ w ⟨v, rfl, hs⟩
  have hv := hs.gcells .hd
  refine sp_stb hs (.tl (.tl (.tl .hd))) (by kernel_rfl) rfl rfl (rpoolC_one rfl rfl rfl hlv hv.2) fun w hs => ?_
  repeat (first
   | (with_reducible refine rpool.a2 ?_)
   | ((with_reducible apply rpool.r2 hs); (· (with_reducible (repeat (first | exact .blk | exact .rng | apply Rng.tl)))))
   | (with_reducible refine rpool.a4 ?_)
   | ((with_reducible apply rpool.r4 hs); (· (with_reducible (repeat (first | exact .blk | exact .rng | apply Rng.tl)))))
   | (with_reducible (first | refine st_lens ?_ | refine br_t ?_ | refine br_f ?_ | refine sp_boxa hs fun g w hs => ?_))
   | (with_reducible ((first | apply st_bin | apply st_len); intro k' hk; simp [go_sem, thenR_ok, bin]; refine hk _ _ ?_; clear hk k'))
   | ((with_reducible apply sp_newr hs); (· kernel_rfl); intro g w hs))
  refine sp_ldn hs (.tl (.tl (.tl .blk))) (by kernel_rfl) (by rw [u8s_length, hh]) ?_
  refine sp_lita hs hsT (by rw [u8s_length, hh]) (by decide) fun v5 w hs => ?_
  replace hs := hs.fact (f := hashF (u8s h) h) ⟨rfl, hh⟩
  refine sp_push (ys := u8s h) (a := h) hs (.tl (.tl (.tl .hd))) hsT (by exact .tl .sl) (by exact .hd) (u8s_one _) (by omega) (by omega) fun v6 w hs => ?_
  have hr : rememberK c h ks = (forgetK h ks ++ [h]).drop ((forgetK h ks ++ [h]).length - c.toNat) := rfl
  have htl : (forgetK h ks ++ [h]).length = (forgetK h ks).length + 1 := by simp
  rw [hr]
  generalize forgetK h ks ++ [h] = q at *
  obtain ⟨A6, c6, rfl⟩ := hs.lst_len .gr
  repeat (first
   | (with_reducible refine rpool.a2 ?_)
   | ((with_reducible apply rpool.r2 hs); (· (with_reducible (repeat (first | exact .blk | exact .rng | apply Rng.tl)))))
   | (with_reducible refine rpool.a4 ?_)
   | ((with_reducible apply rpool.r4 hs); (· (with_reducible (repeat (first | exact .blk | exact .rng | apply Rng.tl)))))
   | (with_reducible (first | refine st_lens ?_ | refine br_t ?_ | refine br_f ?_ | refine sp_boxa hs fun g w hs => ?_))
   | (with_reducible ((first | apply st_bin | apply st_len); intro k' hk; simp [go_sem, thenR_ok, bin]; refine hk _ _ ?_; clear hk k'))
   | ((with_reducible apply sp_newr hs); (· kernel_rfl); intro g w hs))
  refine sx_st (p := 4) hs (.tl (.tl (.tl .hd))) (by kernel_rfl) ⟨rfl, rfl⟩ (by simp [rpoolC]) fun w hs => ?_
  replace hs : Isk.Sep b w (blkI g2 T.isthmusref18_Pool (rpV t y c lv (.slice A6 q.length c6)) :: growI hashF T.api_Hash 32 (.slice A6 q.length c6) q :: resI Tryz.prog g4 T.isthmusref18_Pool :: L) := hs.sbl (.cons .hd (.cons .hd (.drop (.drop (.cons .hd (.drop .all))))))
  replace hs := (hs.growF (.tl .hd)).sbl (L' := blkI g2 T.isthmusref18_Pool (rpV t y c lv (.slice A6 q.length c6)) :: (listF hashF 32 (.slice A6 q.length c6) q).it :: resI Tryz.prog g4 T.isthmusref18_Pool :: L) (.cons (.tl .hd) .all)
  repeat (first
   | (with_reducible refine rpool.a2 ?_)
   | ((with_reducible apply rpool.r2 hs); (· (with_reducible (repeat (first | exact .blk | exact .rng | apply Rng.tl)))))
   | (with_reducible refine rpool.a4 ?_)
   | ((with_reducible apply rpool.r4 hs); (· (with_reducible (repeat (first | exact .blk | exact .rng | apply Rng.tl)))))
   | (with_reducible (first | refine st_lens ?_ | refine br_t ?_ | refine br_f ?_ | refine sp_boxa hs fun g w hs => ?_))
   | (with_reducible ((first | apply st_bin | apply st_len); intro k' hk; simp [go_sem, thenR_ok, bin]; refine hk _ _ ?_; clear hk k'))
   | ((with_reducible apply sp_newr hs); (· kernel_rfl); intro g w hs))
  refine jn_by (fun us w' => us = [] ∧ ∃ kv', kv'.oneCell' = true ∧ Isk.Sep b w' (blkI g2 T.isthmusref18_Pool (rpV t y c lv kv') :: (listF hashF 32 kv' (q.drop (q.length - c.toNat))).it :: resI Tryz.prog g4 T.isthmusref18_Pool :: L)) ?_ ?_
  · refine br_split (fun hq => ?_) (fun hq => ?_)
    · have hlt : c < q.length := of_decide_eq_true hq
      obtain ⟨v7, hsl, hs⟩ := lst_fr (P := Tryz.prog) hs (.tl .hd) hsT (q.length - c.toNat) (by omega) .i64
      have hv7 := hs.lst_len .lst
      obtain ⟨A7, c7, rfl⟩ := hv7
      repeat (first
       | (with_reducible refine rpool.a2 ?_)
       | ((with_reducible apply rpool.r2 hs); (· (with_reducible (repeat (first | exact .blk | exact .rng | apply Rng.tl)))))
       | (with_reducible refine rpool.a4 ?_)
       | ((with_reducible apply rpool.r4 hs); (· (with_reducible (repeat (first | exact .blk | exact .rng | apply Rng.tl)))))
       | (with_reducible (first | refine st_lens ?_ | refine br_t ?_ | refine br_f ?_ | refine sp_boxa hs fun g w hs => ?_))
       | (with_reducible ((first | apply st_bin | apply st_len); intro k' hk; simp [go_sem, thenR_ok, bin]; refine hk _ _ ?_; clear hk k'))
       | ((with_reducible apply sp_newr hs); (· kernel_rfl); intro g w hs))
      rw [show IntKind.i64.wrap ((q.length : Int) - c) = ((q.length - c.toNat : Nat) : Int) by simp [IntKind.wrap, IntKind.signed, IntKind.bits]; omega]
      refine st_of (hsl w) ?_
      repeat (first
       | (with_reducible refine rpool.a2 ?_)
       | ((with_reducible apply rpool.r2 hs); (· (with_reducible (repeat (first | exact .blk | exact .rng | apply Rng.tl)))))
       | (with_reducible refine rpool.a4 ?_)
       | ((with_reducible apply rpool.r4 hs); (· (with_reducible (repeat (first | exact .blk | exact .rng | apply Rng.tl)))))
       | (with_reducible (first | refine st_lens ?_ | refine br_t ?_ | refine br_f ?_ | refine sp_boxa hs fun g w hs => ?_))
       | (with_reducible ((first | apply st_bin | apply st_len); intro k' hk; simp [go_sem, thenR_ok, bin]; refine hk _ _ ?_; clear hk k'))
       | ((with_reducible apply sp_newr hs); (· kernel_rfl); intro g w hs))
      refine sx_st (p := 4) hs (.tl .hd) (by kernel_rfl) ⟨rfl, rfl⟩ (by simp [rpoolC]) fun w hs => ?_
      exact ⟨rfl, .slice A7 (q.drop (q.length - c.toNat)).length c7, rfl, hs.sbl (.cons .hd (.cons .hd (.drop .all)))⟩
    · have hlt : ¬ c < q.length := of_decide_eq_false hq
      repeat with_reducible refine mv.mk ?_
      refine ⟨rfl, .slice A6 q.length c6, rfl, ?_⟩
      rw [show q.length - c.toNat = 0 by omega, List.drop_zero]
      exact hs
  · rintro x1 w ⟨_, kv', hone, hs⟩
    repeat (first
     | (with_reducible (first | refine st_lens ?_ | refine br_t ?_ | refine br_f ?_ | refine sp_boxa hs fun g w hs => ?_))
     | (with_reducible ((first | apply st_bin | apply st_len); intro k' hk; simp [go_sem, thenR_ok, bin]; refine hk _ _ ?_; clear hk k'))
     | ((with_reducible apply sp_newr hs); (· kernel_rfl); intro g w hs))
    refine sp_loadall hs .hd (by kernel_rfl) rfl ?_
    refine sp_setr (ds := rpV t y c lv kv') hs (.tl (.tl .hd)) (by kernel_rfl) rfl (rpoolC_one rfl rfl rfl hlv hone) fun w hs => sp_rc hs .hd (by kernel_rfl) rfl ?_
    exact ⟨kv', rfl, hs.sbl (.cons (.tl (.tl .hd)) (.drop (.drop .all)))⟩
end
end Go.Proofs.YtgagekffmamldaaGreatDoor
set_option linter.unusedVariables false
set_option linter.unusedSimpArgs false
set_option linter.unusedSectionVars false
namespace Go.Proofs.YtgagekffmamldaaGreatDoor
open Go Go.Isk Go.RowKit
set_option maxRecDepth 20000
def sizeR (l : List (Bytes × Int)) : Nat := (l.map fun x => x.1.length).sum
def hasR (l : List (Bytes × Int)) (h : Bytes) : Bool := l.any fun x => decide (hB x.1 = h)
def knowsR (l : List (Bytes × Int)) (ks : List Bytes) (h : Bytes) : Bool := (ks.any fun k => decide (k = h)) || hasR l h
def dropR18 (h : Bytes) (l : List (Bytes × Int)) : List (Bytes × Int) := l.filter fun x => !decide (hB x.1 = h)
section
variable {b : Base} {w : World} {L R : List It} {g g3 g8 : Nat} {v sv lv kv bv cv e av fv : Value} {h : Bytes} {ks : List Bytes} {rl : List (Bytes × Int)} {t y c : Int}
theorem sp_tob8 {l : Bytes} {k : Value → World → Prop} (hs : Isk.Sep b w L) (hk : ∀ v w', Isk.Sep b w' ((byF v l).it :: L) → k v w') : o1 Tryz.prog (convert T.string T.sl_uint8 (str l)) w k :=
  sp_tob (E := T.uint8) (by_ := 1) (u := .string) hs (by kernel_rfl) (by kernel_rfl) (by kernel_rfl) hk
theorem sizeR_take {i : Nat} (hi : i < rl.length) : sizeR (rl.take (i + 1)) = sizeR (rl.take i) + rl[i].1.length := by
  unfold sizeR
  rw [List.take_succ_eq_append_getElem hi, List.map_append, List.sum_append]
  simp
theorem sizeR_le {i : Nat} : sizeR (rl.take i) ≤ sizeR rl := by
  unfold sizeR
  have h := congrArg (fun l => (List.map (fun x : Bytes × Int => x.1.length) l).sum) (List.take_append_drop i rl)
  simp only [List.map_append, List.sum_append] at h
  omega
theorem isthmusref18_Size (hs : Isk.Sep b w L) (hl : Ins L (listF ritemF 2 lv rl).it) (hn : rl.length ≤ 1000000000) (hb : sizeR rl ≤ 4611686018427387904) : C Tryz.prog N.isthmusref18_Size #[lv] w fun r w' => r = .int .i64 (sizeR rl) ∧ Isk.Sep b w' L := by
  obtain ⟨A, cc, rfl⟩ := hs.lst_len hl.lst
  refine C.isthmusref18_Size ?_
  unfold F.isthmusref18_Size
  repeat (first
   | (with_reducible (first | refine st_lens ?_ | refine mv.mk ?_ | refine br_t ?_ | refine br_f ?_))
   | (with_reducible ((first | apply st_bin | apply st_len); intro k' hk; simp [go_sem, thenR_ok, bin]; refine hk _ _ ?_; clear hk k')))
  refine lp_by (fun us w' => ∃ i : Nat, us = [.int .i64 (sizeR (rl.take i) : Int), .int .i64 (i : Int)] ∧ i ≤ rl.length ∧ Isk.Sep b w' L) (fun us _ => match us with | [_, .int _ m] => rl.length - m.toNat | _ => 0) ⟨0, rfl, Nat.zero_le _, hs⟩ ?_
  clear hs
  rintro x1 w ⟨i, hx1, hi, hs⟩
  simp only [List.cons.injEq, and_true] at hx1
  simp only [hx1.1, hx1.2]
  repeat (first
   | (with_reducible (first | refine st_lens ?_ | refine mv.mk ?_ | refine br_t ?_ | refine br_f ?_))
   | (with_reducible ((first | apply st_bin | apply st_len); intro k' hk; simp [go_sem, thenR_ok, bin]; refine hk _ _ ?_; clear hk k')))
  refine br_split (fun hq => ?_) (fun hq => ?_)
  · have hi' : i < rl.length := by have := of_decide_eq_true hq; omega
    have hst := sizeR_take hi'
    have hle := sizeR_le (rl := rl) (i := i + 1)
    obtain ⟨g1, o1, ys, hix, hyl, hs⟩ := hs.el (P := Tryz.prog) (T := T.sl_isthmusref18_Item) hl riT i hi'
    have hy : ys = ritemC (str rl[i].1) (.int .i64 rl[i].2) := hs.get (.tl .hd)
    subst hy
    repeat with_reducible refine mv.mk ?_
    refine st_of (hix .i64 w) ?_
    repeat (first
     | (with_reducible refine ritem.a0 ?_)
     | ((with_reducible apply ritem.r0 hs); (· (with_reducible (repeat (first | exact .blk | exact .rng | apply Rng.tl)))))
     | ((with_reducible apply tn_add); (· omega))
     | ((with_reducible apply tn_sub); (· omega))
     | ((with_reducible apply tn_mul); (· omega))
     | ((with_reducible apply sn_add); (· omega))
     | ((with_reducible apply sn_sub); (· omega))
     | ((with_reducible apply sn_mul); (· omega))
     | (with_reducible (first | refine st_lens ?_ | refine mv.mk ?_ | refine br_t ?_ | refine br_f ?_))
     | (with_reducible ((first | apply st_bin | apply st_len); intro k' hk; simp [go_sem, thenR_ok, bin]; refine hk _ _ ?_; clear hk k')))
    refine ⟨⟨i + 1, ?_, hi', hs.sbl (.drop (.drop .all))⟩, by simp; omega⟩
    rw [hst]
    push_cast
    rfl
  · obtain rfl : i = rl.length := by have := of_decide_eq_false hq; omega
    repeat with_reducible refine mv.mk ?_
    rw [List.take_length]
    exact ⟨rfl, hs⟩
theorem isthmusref18_Has (hl : Ins L (listF ritemF 2 lv rl).it) (hn : rl.length ≤ 1000000000) (hbx : ∀ x ∈ rl, x.1.length ≤ 1000000000) (hh : h.length = 32) (hs : Isk.Sep b w L) :
    C Tryz.prog N.isthmusref18_Has #[.agg (rpV t y c lv kv).toArray, .agg (u8s h).toArray] w fun r w' => r = .bool (hasR rl h) ∧ Isk.Sep b w' L := by
  obtain ⟨A, cc, rfl⟩ := hs.lst_len hl.lst
  refine C.isthmusref18_Has ?_
  unfold F.isthmusref18_Has
  refine sp_boxa hs fun g2 w hs => ?_
  refine sp_boxa hs fun g3 w hs => ?_
  repeat with_reducible refine mv.mk ?_
  refine lp_by (fun us w' => ∃ (i : Nat), us = [.bool false, .int .i64 (i : Int)] ∧ i ≤ rl.length ∧ (∀ x ∈ rl.take i, hB x.1 ≠ h) ∧ Isk.Sep b w' (blkI g3 T.api_Hash (u8s h) :: blkI g2 T.isthmusref18_Pool (rpV t y c (.slice A rl.length cc) kv) :: L)) (fun us _ => match us with | [_, .int _ m] => rl.length - m.toNat | _ => 0) ⟨0, rfl, Nat.zero_le _, fun x hx => (by cases hx), hs⟩ ?_
  clear hs
  rintro x1 w ⟨i, hx1, hi, hno, hs⟩
  simp only [List.cons.injEq, and_true] at hx1
  simp only [hx1.1, hx1.2]
  repeat (first
   | (with_reducible refine rpool.a0 ?_)
   | ((with_reducible apply rpool.r0 hs); (· (with_reducible (repeat (first | exact .blk | exact .rng | apply Rng.tl)))))
   | (with_reducible refine rpool.c0 ?_)
   | ((with_reducible apply rpool.e0); (· first | exact hS | exact hid); (· (with_reducible (repeat (first | exact .blk | exact .rng | apply Rng.tl)))))
   | (with_reducible refine rpool.a3 ?_)
   | ((with_reducible apply rpool.r3 hs); (· (with_reducible (repeat (first | exact .blk | exact .rng | apply Rng.tl)))))
   | (with_reducible refine rpool.c3 ?_)
   | ((with_reducible apply rpool.e3); (· first | exact hS | exact hid); (· (with_reducible (repeat (first | exact .blk | exact .rng | apply Rng.tl)))))
   | (with_reducible (first | refine st_lens ?_ | refine st_eqls ?_ | refine tk_eqls ?_ | refine mv.mk ?_ | refine br_t ?_ | refine br_f ?_ | refine sp_boxa hs fun g w hs => ?_))
   | (with_reducible ((first | apply st_bin | apply st_len | apply st_conv); intro k' hk; simp [go_sem, thenR_ok, bin]; refine hk _ _ ?_; clear hk k'))
   | ((with_reducible (first | apply tk_bin)); (· intro w; simp [go_sem, bin]; rfl)))
  refine br_split (fun hq => ?_) (fun hq => ?_)
  · have hi' : i < rl.length := by have := of_decide_eq_true hq; omega
    have hxb := hbx _ (List.getElem_mem hi')
    obtain ⟨g1, o1, ys, hix, hyl, hs⟩ := hs.el (P := Tryz.prog) (T := T.sl_isthmusref18_Item) (.tl (.tl hl)) riT i hi'
    have hy : ys = ritemC (str rl[i].1) (.int .i64 rl[i].2) := hs.get (.tl .hd)
    subst hy
    replace hs := hs.drew
    refine dr_can (R := [(rngF g1 o1 (ritemC (str rl[i].1) (.int .i64 rl[i].2))).it, blkI g3 T.api_Hash (u8s h), blkI g2 T.isthmusref18_Pool (rpV t y c (.slice A rl.length cc) kv)]) hs (.cons .hd (.drop (.cons .hd (.cons .hd .nil)))) ?_
    have hS : ∀ w, Mayr [(rngF g1 o1 (ritemC (str rl[i].1) (.int .i64 rl[i].2))).it, blkI g3 T.api_Hash (u8s h), blkI g2 T.isthmusref18_Pool (rpV t y c (.slice A rl.length cc) kv)] w → Mayr [(rngF g1 o1 (ritemC (str rl[i].1) (.int .i64 rl[i].2))).it, blkI g3 T.api_Hash (u8s h), blkI g2 T.isthmusref18_Pool (rpV t y c (.slice A rl.length cc) kv)] w := fun _ h => h
    repeat (first
     | (with_reducible refine rpool.a0 ?_)
     | ((with_reducible apply rpool.r0 hs); (· (with_reducible (repeat (first | exact .blk | exact .rng | apply Rng.tl)))))
     | (with_reducible refine rpool.c0 ?_)
     | ((with_reducible apply rpool.e0); (· first | exact hS | exact hid); (· (with_reducible (repeat (first | exact .blk | exact .rng | apply Rng.tl)))))
     | (with_reducible refine rpool.a3 ?_)
     | ((with_reducible apply rpool.r3 hs); (· (with_reducible (repeat (first | exact .blk | exact .rng | apply Rng.tl)))))
     | (with_reducible refine rpool.c3 ?_)
     | ((with_reducible apply rpool.e3); (· first | exact hS | exact hid); (· (with_reducible (repeat (first | exact .blk | exact .rng | apply Rng.tl)))))
     | (with_reducible (first | refine st_lens ?_ | refine st_eqls ?_ | refine tk_eqls ?_ | refine mv.mk ?_ | refine br_t ?_ | refine br_f ?_ | refine sp_boxa hs fun g w hs => ?_))
     | (with_reducible ((first | apply st_bin | apply st_len | apply st_conv); intro k' hk; simp [go_sem, thenR_ok, bin]; refine hk _ _ ?_; clear hk k'))
     | ((with_reducible (first | apply tk_bin)); (· intro w; simp [go_sem, bin]; rfl)))
    refine tk_run (hix .i64) ?_
    repeat (first
     | (with_reducible refine ritem.a0 ?_)
     | ((with_reducible apply ritem.r0 hs); (· (with_reducible (repeat (first | exact .blk | exact .rng | apply Rng.tl)))))
     | (with_reducible refine ritem.c0 ?_)
     | ((with_reducible apply ritem.e0); (· first | exact hS | exact hid); (· (with_reducible (repeat (first | exact .blk | exact .rng | apply Rng.tl)))))
     | (with_reducible (first | refine st_lens ?_ | refine st_eqls ?_ | refine tk_eqls ?_ | refine mv.mk ?_ | refine br_t ?_ | refine br_f ?_ | refine sp_boxa hs fun g w hs => ?_))
     | (with_reducible ((first | apply st_bin | apply st_len | apply st_conv); intro k' hk; simp [go_sem, thenR_ok, bin]; refine hk _ _ ?_; clear hk k'))
     | ((with_reducible (first | apply tk_bin)); (· intro w; simp [go_sem, bin]; rfl)))
    refine tk_ldn hS (.tl .blk) (by kernel_rfl) (by rw [u8s_length, hh]) ?_
    refine sp_tob8 hs fun v w hs => ?_
    refine ⟨hs.mayr (.drop (.cons .hd (.drop (.cons .hd (.cons .hd .nil))))), ?_⟩
    refine cl (isthmusref15_Hash hs .hd (by omega)) ?_
    rintro _ w ⟨rfl, hs⟩
    refine ⟨hs.mayr (.drop (.cons .hd (.drop (.cons .hd (.cons .hd .nil))))), ?_⟩
    refine tk_run (hash_eq (hB_len _) hh _ _) ?_
    by_cases hk : hB rl[i].1 = h
    · rw [decide_eq_true hk]
      repeat (first
       | (with_reducible (first | refine st_lens ?_ | refine st_eqls ?_ | refine tk_eqls ?_ | refine mv.mk ?_ | refine br_t ?_ | refine br_f ?_ | refine sp_boxa hs fun g w hs => ?_))
       | (with_reducible ((first | apply st_bin | apply st_len | apply st_conv); intro k' hk; simp [go_sem, thenR_ok, bin]; refine hk _ _ ?_; clear hk k'))
       | ((with_reducible (first | apply tk_bin)); (· intro w; simp [go_sem, bin]; rfl)))
      refine ⟨?_, hs.sbl (.drop (.drop (.drop (.drop (.drop .all)))))⟩
      have : hasR rl h = true := List.any_eq_true.2 ⟨_, List.getElem_mem hi', by simpa using hk⟩
      rw [this]
    · rw [decide_eq_false hk]
      repeat (first
       | (with_reducible (first | refine st_lens ?_ | refine st_eqls ?_ | refine tk_eqls ?_ | refine mv.mk ?_ | refine br_t ?_ | refine br_f ?_ | refine sp_boxa hs fun g w hs => ?_))
       | (with_reducible ((first | apply st_bin | apply st_len | apply st_conv); intro k' hk; simp [go_sem, thenR_ok, bin]; refine hk _ _ ?_; clear hk k'))
       | ((with_reducible (first | apply tk_bin)); (· intro w; simp [go_sem, bin]; rfl)))
      rw [i64_succ (by omega)]
      refine ⟨⟨i + 1, rfl, hi', fun x hx => ?_, hs.sbl (.drop (.drop (.drop .all)))⟩, by simp; omega⟩
      rw [List.take_succ_eq_append_getElem hi'] at hx
      rcases List.mem_append.1 hx with hx | hx
      · exact hno x hx
      · rw [List.mem_singleton.1 hx]; exact hk
  · obtain rfl : i = rl.length := by have := of_decide_eq_false hq; omega
    repeat with_reducible refine mv.mk ?_
    refine ⟨?_, hs.sbl (.drop (.drop .all))⟩
    have : hasR rl h = false := by
      unfold hasR
      rw [List.any_eq_false]
      intro x hx
      have := hno x (by rw [List.take_length]; exact hx)
      simpa using this
    rw [this]
theorem isthmusref18_Knows (hl : Ins L (listF ritemF 2 lv rl).it) (hm : Ins L (listF hashF 32 kv ks).it) (hn : rl.length ≤ 1000000000) (hkn : ks.length ≤ 1000000000) (hbx : ∀ x ∈ rl, x.1.length ≤ 1000000000) (hh : h.length = 32) (hs : Isk.Sep b w L) :
    C Tryz.prog N.isthmusref18_Knows #[.agg (rpV t y c lv kv).toArray, .agg (u8s h).toArray] w fun r w' => r = .bool (knowsR rl ks h) ∧ Isk.Sep b w' L := by
  obtain ⟨A, cc, rfl⟩ := hs.lst_len hm.lst
  refine C.isthmusref18_Knows ?_
  unfold F.isthmusref18_Knows
  refine sp_boxa hs fun g2 w hs => ?_
  refine sp_boxa hs fun g3 w hs => ?_
  repeat with_reducible refine mv.mk ?_
  refine lp_by (fun us w' => ∃ (i : Nat), us = [.bool false, .int .i64 (i : Int)] ∧ i ≤ ks.length ∧ (∀ x ∈ ks.take i, x ≠ h) ∧ Isk.Sep b w' (blkI g3 T.api_Hash (u8s h) :: blkI g2 T.isthmusref18_Pool (rpV t y c lv (.slice A ks.length cc)) :: L)) (fun us _ => match us with | [_, .int _ m] => ks.length - m.toNat | _ => 0) ⟨0, rfl, Nat.zero_le _, fun x hx => (by cases hx), hs⟩ ?_
  clear hs
  rintro x1 w ⟨i, hx1, hi, hno, hs⟩
  simp only [List.cons.injEq, and_true] at hx1
  simp only [hx1.1, hx1.2]
  repeat (first
   | (with_reducible refine rpool.a4 ?_)
   | ((with_reducible apply rpool.r4 hs); (· (with_reducible (repeat (first | exact .blk | exact .rng | apply Rng.tl)))))
   | (with_reducible refine rpool.c4 ?_)
   | ((with_reducible apply rpool.e4); (· first | exact hS | exact hid); (· (with_reducible (repeat (first | exact .blk | exact .rng | apply Rng.tl)))))
   | (with_reducible (first | refine st_lens ?_ | refine st_eqls ?_ | refine tk_eqls ?_ | refine mv.mk ?_ | refine br_t ?_ | refine br_f ?_ | refine sp_boxa hs fun g w hs => ?_))
   | (with_reducible ((first | apply st_bin | apply st_len); intro k' hk; simp [go_sem, thenR_ok, bin]; refine hk _ _ ?_; clear hk k'))
   | ((with_reducible (first | apply tk_bin)); (· intro w; simp [go_sem, bin]; rfl)))
  refine br_split (fun hq => ?_) (fun hq => ?_)
  · have hi' : i < ks.length := by have := of_decide_eq_true hq; omega
    obtain ⟨g1, o1, ys, hix, hyl, hs⟩ := hs.el (P := Tryz.prog) (T := T.sl_api_Hash) (.tl (.tl hm)) hsT i hi'
    obtain ⟨hy, hkl⟩ : ys = u8s ks[i] ∧ ks[i].length = 32 := hs.get (.tl .hd)
    subst hy
    have hmm := hs.drew.mayr .all
    have hS : ∀ w', w' = w.drew → Mayr _ w' := fun w' e => e.symm ▸ hmm
    repeat (first
     | (with_reducible refine rpool.a4 ?_)
     | ((with_reducible apply rpool.r4 hs); (· (with_reducible (repeat (first | exact .blk | exact .rng | apply Rng.tl)))))
     | (with_reducible refine rpool.c4 ?_)
     | ((with_reducible apply rpool.e4); (· first | exact hS | exact hid); (· (with_reducible (repeat (first | exact .blk | exact .rng | apply Rng.tl)))))
     | (with_reducible (first | refine st_lens ?_ | refine st_eqls ?_ | refine tk_eqls ?_ | refine mv.mk ?_ | refine br_t ?_ | refine br_f ?_ | refine sp_boxa hs fun g w hs => ?_))
     | (with_reducible ((first | apply st_bin | apply st_len); intro k' hk; simp [go_sem, thenR_ok, bin]; refine hk _ _ ?_; clear hk k'))
     | ((with_reducible (first | apply tk_bin)); (· intro w; simp [go_sem, bin]; rfl)))
    refine tk_run (hix .i64) ?_
    refine tk_ldn hS .rng (by kernel_rfl) hyl ?_
    refine tk_ldn hS (.tl (.tl .blk)) (by kernel_rfl) (by rw [u8s_length, hh]) ?_
    refine tk_run (hash_eq hkl hh _ _) ?_
    replace hs := hs.drew
    by_cases hk : ks[i] = h
    · rw [decide_eq_true hk]
      repeat (first
       | (with_reducible (first | refine st_lens ?_ | refine st_eqls ?_ | refine tk_eqls ?_ | refine mv.mk ?_ | refine br_t ?_ | refine br_f ?_ | refine sp_boxa hs fun g w hs => ?_))
       | (with_reducible ((first | apply st_bin | apply st_len); intro k' hk; simp [go_sem, thenR_ok, bin]; refine hk _ _ ?_; clear hk k'))
       | ((with_reducible (first | apply tk_bin)); (· intro w; simp [go_sem, bin]; rfl)))
      refine ⟨?_, hs.sbl (.drop (.drop (.drop (.drop .all))))⟩
      have : (ks.any fun k => decide (k = h)) = true := List.any_eq_true.2 ⟨_, List.getElem_mem hi', by simpa using hk⟩
      unfold knowsR
      rw [this, Bool.true_or]
    · rw [decide_eq_false hk]
      repeat (first
       | (with_reducible (first | refine st_lens ?_ | refine st_eqls ?_ | refine tk_eqls ?_ | refine mv.mk ?_ | refine br_t ?_ | refine br_f ?_ | refine sp_boxa hs fun g w hs => ?_))
       | (with_reducible ((first | apply st_bin | apply st_len); intro k' hk; simp [go_sem, thenR_ok, bin]; refine hk _ _ ?_; clear hk k'))
       | ((with_reducible (first | apply tk_bin)); (· intro w; simp [go_sem, bin]; rfl)))
      rw [i64_succ (by omega)]
      refine ⟨⟨i + 1, rfl, hi', fun x hx => ?_, hs.sbl (.drop (.drop .all))⟩, by simp; omega⟩
      rw [List.take_succ_eq_append_getElem hi'] at hx
      rcases List.mem_append.1 hx with hx | hx
      · exact hno x hx
      · rw [List.mem_singleton.1 hx]; exact hk
  · obtain rfl : i = ks.length := by have := of_decide_eq_false hq; omega
    refine sp_loadall hs (.tl .hd) (by kernel_rfl) rfl ?_
    refine sp_ldn hs .blk (by kernel_rfl) (by rw [u8s_length, hh]) ?_
    refine cl (isthmusref18_Has (.tl (.tl hl)) hn hbx hh hs) ?_
    rintro _ w ⟨rfl, hs⟩
    repeat with_reducible refine mv.mk ?_
    refine ⟨?_, hs.sbl (.drop (.drop .all))⟩
    have : (ks.any fun k => decide (k = h)) = false := by
      rw [List.any_eq_false]
      intro x hx
      have := hno x (by rw [List.take_length]; exact hx)
      simpa using this
    unfold knowsR
    rw [this, Bool.false_or]
theorem isthmusref18_drop (hkv : kv.oneCell' = true) (hl : Ins L (listF ritemF 2 lv rl).it) (hn : rl.length ≤ 1000000000) (hbx : ∀ x ∈ rl, x.1.length ≤ 1000000000) (hh : h.length = 32) (hs : Isk.Sep b w L) :
    C Tryz.prog N.isthmusref18_drop #[.agg (rpV t y c lv kv).toArray, .agg (u8s h).toArray] w fun r w' => ∃ lv', lv'.oneCell' = true ∧ r = .agg (rpV t y c lv' kv).toArray ∧ Isk.Sep b w' ((listF ritemF 2 lv' (dropR18 h rl)).it :: L) := by
  obtain ⟨A, cc, rfl⟩ := hs.lst_len hl.lst
  refine C.isthmusref18_drop ?_
  unfold F.isthmusref18_drop
  refine sp_boxa hs fun g2 w hs => ?_
  refine sp_boxa hs fun g3 w hs => ?_
  refine sp_newr hs (by kernel_rfl) fun g4 w hs => ?_
  replace hs := hs.grow0 ritemF T.isthmusref18_Item 2
  repeat with_reducible refine mv.mk ?_
  refine lp_by (fun us w' => ∃ (i : Nat) (v : Value), us = [v, .int .i64 (i : Int)] ∧ i ≤ rl.length ∧ Isk.Sep b w' (growI ritemF T.isthmusref18_Item 2 v (dropR18 h (rl.take i)) :: resI Tryz.prog g4 T.isthmusref18_Pool :: blkI g3 T.api_Hash (u8s h) :: blkI g2 T.isthmusref18_Pool (rpV t y c (.slice A rl.length cc) kv) :: L)) (fun us _ => match us with | [_, .int _ m] => rl.length - m.toNat | _ => 0) ⟨0, _, rfl, Nat.zero_le _, hs⟩ ?_
  clear hs
  rintro x1 w ⟨i, v, hx1, hi, hs⟩
  simp only [List.cons.injEq, and_true] at hx1
  simp only [hx1.1, hx1.2]
  repeat (first
   | (with_reducible refine rpool.a0 ?_)
   | ((with_reducible apply rpool.r0 hs); (· (with_reducible (repeat (first | exact .blk | exact .rng | apply Rng.tl)))))
   | (with_reducible refine rpool.c0 ?_)
   | ((with_reducible apply rpool.e0); (· first | exact hS | exact hid); (· (with_reducible (repeat (first | exact .blk | exact .rng | apply Rng.tl)))))
   | (with_reducible refine rpool.a3 ?_)
   | ((with_reducible apply rpool.r3 hs); (· (with_reducible (repeat (first | exact .blk | exact .rng | apply Rng.tl)))))
   | (with_reducible refine rpool.c3 ?_)
   | ((with_reducible apply rpool.e3); (· first | exact hS | exact hid); (· (with_reducible (repeat (first | exact .blk | exact .rng | apply Rng.tl)))))
   | (with_reducible (first | refine st_lens ?_ | refine st_nels ?_ | refine tk_nels ?_ | refine mv.mk ?_ | refine br_t ?_ | refine br_f ?_ | refine sp_boxa hs fun g w hs => ?_))
   | (with_reducible ((first | apply st_bin | apply st_len | apply st_conv); intro k' hk; simp [go_sem, thenR_ok, bin]; refine hk _ _ ?_; clear hk k'))
   | ((with_reducible (first | apply tk_bin)); (· intro w; simp [go_sem, bin]; rfl))
   | ((with_reducible apply sp_newr hs); (· kernel_rfl); intro g w hs))
  refine br_split (fun hq => ?_) (fun hq => ?_)
  · have hi' : i < rl.length := by have := of_decide_eq_true hq; omega
    have hxb := hbx _ (List.getElem_mem hi')
    obtain ⟨g1, o1, ys, hix, hyl, hs⟩ := hs.el (P := Tryz.prog) (T := T.sl_isthmusref18_Item) (.tl (.tl (.tl (.tl hl)))) riT i hi'
    have hy : ys = ritemC (str rl[i].1) (.int .i64 rl[i].2) := hs.get (.tl .hd)
    subst hy
    replace hs := hs.drew
    refine dr_can (R := [(rngF g1 o1 (ritemC (str rl[i].1) (.int .i64 rl[i].2))).it, blkI g3 T.api_Hash (u8s h), blkI g2 T.isthmusref18_Pool (rpV t y c (.slice A rl.length cc) kv)]) hs (.cons .hd (.drop (.drop (.drop (.cons .hd (.cons .hd .nil)))))) ?_
    have hS : ∀ w, Mayr [(rngF g1 o1 (ritemC (str rl[i].1) (.int .i64 rl[i].2))).it, blkI g3 T.api_Hash (u8s h), blkI g2 T.isthmusref18_Pool (rpV t y c (.slice A rl.length cc) kv)] w → Mayr [(rngF g1 o1 (ritemC (str rl[i].1) (.int .i64 rl[i].2))).it, blkI g3 T.api_Hash (u8s h), blkI g2 T.isthmusref18_Pool (rpV t y c (.slice A rl.length cc) kv)] w := fun _ h => h
    repeat (first
     | (with_reducible refine rpool.a0 ?_)
     | ((with_reducible apply rpool.r0 hs); (· (with_reducible (repeat (first | exact .blk | exact .rng | apply Rng.tl)))))
     | (with_reducible refine rpool.c0 ?_)
     | ((with_reducible apply rpool.e0); (· first | exact hS | exact hid); (· (with_reducible (repeat (first | exact .blk | exact .rng | apply Rng.tl)))))
     | (with_reducible refine rpool.a3 ?_)
     | ((with_reducible apply rpool.r3 hs); (· (with_reducible (repeat (first | exact .blk | exact .rng | apply Rng.tl)))))
     | (with_reducible refine rpool.c3 ?_)
     | ((with_reducible apply rpool.e3); (· first | exact hS | exact hid); (· (with_reducible (repeat (first | exact .blk | exact .rng | apply Rng.tl)))))
     | (with_reducible (first | refine st_lens ?_ | refine st_nels ?_ | refine tk_nels ?_ | refine mv.mk ?_ | refine br_t ?_ | refine br_f ?_ | refine sp_boxa hs fun g w hs => ?_))
     | (with_reducible ((first | apply st_bin | apply st_len | apply st_conv); intro k' hk; simp [go_sem, thenR_ok, bin]; refine hk _ _ ?_; clear hk k'))
     | ((with_reducible (first | apply tk_bin)); (· intro w; simp [go_sem, bin]; rfl))
     | ((with_reducible apply sp_newr hs); (· kernel_rfl); intro g w hs))
    refine tk_run (hix .i64) ?_
    repeat (first
     | (with_reducible refine ritem.a0 ?_)
     | ((with_reducible apply ritem.r0 hs); (· (with_reducible (repeat (first | exact .blk | exact .rng | apply Rng.tl)))))
     | (with_reducible refine ritem.c0 ?_)
     | ((with_reducible apply ritem.e0); (· first | exact hS | exact hid); (· (with_reducible (repeat (first | exact .blk | exact .rng | apply Rng.tl)))))
     | (with_reducible (first | refine st_lens ?_ | refine st_nels ?_ | refine tk_nels ?_ | refine mv.mk ?_ | refine br_t ?_ | refine br_f ?_ | refine sp_boxa hs fun g w hs => ?_))
     | (with_reducible ((first | apply st_bin | apply st_len | apply st_conv); intro k' hk; simp [go_sem, thenR_ok, bin]; refine hk _ _ ?_; clear hk k'))
     | ((with_reducible (first | apply tk_bin)); (· intro w; simp [go_sem, bin]; rfl))
     | ((with_reducible apply sp_newr hs); (· kernel_rfl); intro g w hs))
    refine tk_ldn hS (.tl .blk) (by kernel_rfl) (by rw [u8s_length, hh]) ?_
    refine sp_tob8 hs fun v8 w hs => ?_
    refine ⟨hs.mayr (.drop (.cons .hd (.drop (.drop (.drop (.cons .hd (.cons .hd .nil))))))), ?_⟩
    refine cl (isthmusref15_Hash hs .hd (by omega)) ?_
    rintro _ w ⟨rfl, hs⟩
    refine ⟨hs.mayr (.drop (.cons .hd (.drop (.drop (.drop (.cons .hd (.cons .hd .nil))))))), ?_⟩
    refine tk_run (hash_ne (hB_len _) hh _ _) ?_
    have hfl : (dropR18 h (rl.take i)).length ≤ 1000000000 := by
      have h1 : (dropR18 h (rl.take i)).length ≤ (rl.take i).length := List.length_filter_le _ _
      have h2 : (rl.take i).length ≤ rl.length := by rw [List.length_take]; omega
      omega
    have hst : dropR18 h (rl.take (i + 1)) = dropR18 h (rl.take i) ++ dropR18 h [rl[i]] := by
      rw [List.take_succ_eq_append_getElem hi']
      unfold dropR18
      rw [List.filter_append]
    refine jn_by (fun us w' => ∃ v, us = [v] ∧ Isk.Sep b w' (growI ritemF T.isthmusref18_Item 2 v (dropR18 h (rl.take (i + 1))) :: resI Tryz.prog g4 T.isthmusref18_Pool :: blkI g3 T.api_Hash (u8s h) :: blkI g2 T.isthmusref18_Pool (rpV t y c (.slice A rl.length cc) kv) :: L)) ?_ ?_
    · by_cases hk : hB rl[i].1 = h
      · have h1 : dropR18 h [rl[i]] = [] := by unfold dropR18; simp [hk]
        rw [h1, List.append_nil] at hst
        rw [decide_eq_true hk, Bool.not_true]
        repeat (first
         | (with_reducible (first | refine st_lens ?_ | refine st_nels ?_ | refine tk_nels ?_ | refine mv.mk ?_ | refine br_t ?_ | refine br_f ?_ | refine sp_boxa hs fun g w hs => ?_))
         | (with_reducible ((first | apply st_bin | apply st_len | apply st_conv); intro k' hk; simp [go_sem, thenR_ok, bin]; refine hk _ _ ?_; clear hk k'))
         | ((with_reducible (first | apply tk_bin)); (· intro w; simp [go_sem, bin]; rfl))
         | ((with_reducible apply sp_newr hs); (· kernel_rfl); intro g w hs))
        rw [hst]
        exact ⟨v, rfl, hs.sbl (.drop (.drop (.drop .all)))⟩
      · have h1 : dropR18 h [rl[i]] = [rl[i]] := by unfold dropR18; simp [hk]
        rw [h1] at hst
        rw [decide_eq_false hk, Bool.not_false]
        repeat (first
         | (with_reducible refine rpool.a0 ?_)
         | ((with_reducible apply rpool.r0 hs); (· (with_reducible (repeat (first | exact .blk | exact .rng | apply Rng.tl)))))
         | (with_reducible refine rpool.c0 ?_)
         | ((with_reducible apply rpool.e0); (· first | exact hS | exact hid); (· (with_reducible (repeat (first | exact .blk | exact .rng | apply Rng.tl)))))
         | (with_reducible refine rpool.a3 ?_)
         | ((with_reducible apply rpool.r3 hs); (· (with_reducible (repeat (first | exact .blk | exact .rng | apply Rng.tl)))))
         | (with_reducible refine rpool.c3 ?_)
         | ((with_reducible apply rpool.e3); (· first | exact hS | exact hid); (· (with_reducible (repeat (first | exact .blk | exact .rng | apply Rng.tl)))))
         | (with_reducible (first | refine st_lens ?_ | refine st_nels ?_ | refine tk_nels ?_ | refine mv.mk ?_ | refine br_t ?_ | refine br_f ?_ | refine sp_boxa hs fun g w hs => ?_))
         | (with_reducible ((first | apply st_bin | apply st_len | apply st_conv); intro k' hk; simp [go_sem, thenR_ok, bin]; refine hk _ _ ?_; clear hk k'))
         | ((with_reducible (first | apply tk_bin)); (· intro w; simp [go_sem, bin]; rfl))
         | ((with_reducible apply sp_newr hs); (· kernel_rfl); intro g w hs))
        refine st_of (hix .i64 w) ?_
        refine sp_ldn hs (.tl .rng) (by kernel_rfl) rfl ?_
        refine sp_lita hs riT rfl (by decide) fun v5 w hs => ?_
        refine sp_push (ys := ritemC (str rl[i].1) (.int .i64 rl[i].2)) (a := rl[i]) hs (.tl (.tl (.tl (.tl .hd)))) riT (by exact .sl) (by exact (.tl (.tl (.tl .hd)))) (ritemC_one rfl rfl) (by omega) (by omega) fun v6 w hs => ?_
        repeat with_reducible refine mv.mk ?_
        rw [hst]
        exact ⟨v6, rfl, hs.sbl (.cons .hd (.drop (.drop (.drop (.drop .all)))))⟩
    · rintro x2 w ⟨v, hx2, hs⟩
      simp only [List.cons.injEq, and_true] at hx2
      simp only [hx2]
      repeat (first
       | (with_reducible (first | refine st_lens ?_ | refine st_nels ?_ | refine tk_nels ?_ | refine mv.mk ?_ | refine br_t ?_ | refine br_f ?_ | refine sp_boxa hs fun g w hs => ?_))
       | (with_reducible ((first | apply st_bin | apply st_len | apply st_conv); intro k' hk; simp [go_sem, thenR_ok, bin]; refine hk _ _ ?_; clear hk k'))
       | ((with_reducible (first | apply tk_bin)); (· intro w; simp [go_sem, bin]; rfl))
       | ((with_reducible apply sp_newr hs); (· kernel_rfl); intro g w hs))
      rw [i64_succ (by omega)]
      exact ⟨⟨i + 1, v, rfl, hi', hs⟩, by simp; omega⟩
  · obtain rfl : i = rl.length := by have := of_decide_eq_false hq; omega
    rw [List.take_length] at hs
    have hv := hs.gcells .hd
    repeat with_reducible refine mv.mk ?_
    refine rpool.s3 hs (.tl (.tl (.tl .hd))) hv fun w hs => ?_
    refine sp_loadall hs .hd (by kernel_rfl) rfl ?_
    refine sp_setr (ds := rpV t y c v kv) hs (.tl (.tl .hd)) (by kernel_rfl) rfl (rpoolC_one rfl rfl rfl hv.2 hkv) fun w hs => sp_rc hs .hd (by kernel_rfl) rfl ?_
    replace hs := hs.growF (.tl (.tl .hd))
    exact ⟨v, hv.2, rfl, hs.sbl (.cons .hd (.drop (.drop (.drop .all))))⟩
end
end Go.Proofs.YtgagekffmamldaaGreatDoor
set_option linter.unusedVariables false
set_option linter.unusedSimpArgs false
set_option linter.unusedSectionVars false
namespace Go.Proofs.YtgagekffmamldaaGreatDoor
open Go Go.Isk Go.RowKit
set_option maxRecDepth 20000
def takeR (txs : Int) : Int → Int → List (Bytes × Int) → List Bytes
  | _, _, [] => []
  | cnt, by_, x :: l => if txs ≤ cnt ∨ by_ < x.1.length then [] else x.1 :: takeR txs (cnt + 1) (by_ - x.1.length) l
def doneR (c : Int) (q : List (Bytes × Int) × List Bytes) (t : Bytes) : List (Bytes × Int) × List Bytes := (dropR18 (hB t) q.1, rememberK c (hB t) q.2)
section
variable {b : Base} {w : World} {L R : List It} {g g3 g8 : Nat} {v sv lv kv bv cv e av fv tv : Value} {h : Bytes} {ks ts : List Bytes} {rl : List (Bytes × Int)} {t y c m1 m2 : Int}
theorem isthmusref18_Take (hl : Ins L (listF ritemF 2 lv rl).it) (hn : rl.length ≤ 1000000000) (hb : sizeR rl ≤ 1000000000000) (hM : I64 m2) (hs : Isk.Sep b w L) :
    C Tryz.prog N.isthmusref18_Take #[.agg (rpV t y c lv kv).toArray, .int .i64 m1, .int .i64 m2] w fun r w' => Isk.Sep b w' ((listF textF 1 r (takeR m1 0 m2 rl)).it :: L) := by
  obtain ⟨A, cc, rfl⟩ := hs.lst_len hl.lst
  obtain ⟨hM1, hM2⟩ := hM
  refine C.isthmusref18_Take ?_
  unfold F.isthmusref18_Take
  refine sp_boxa hs fun g2 w hs => ?_
  replace hs := hs.grow0 textF T.string 1
  repeat with_reducible refine mv.mk ?_
  refine jn_by (fun us w' => ∃ (y1 y2 v : Value), us = [v, y1, y2] ∧ Isk.Sep b w' ((listF textF 1 v (takeR m1 0 m2 rl)).it :: L)) ?_ ?_
  · refine lp_by (fun us w' => ∃ (i : Nat) (out : List Bytes) (v : Value), us = [v, .int .i64 (sizeR (rl.take i) : Int), .int .i64 (i : Int)] ∧ i ≤ rl.length ∧ out.length = i ∧ takeR m1 0 m2 rl = out ++ takeR m1 i (m2 - sizeR (rl.take i)) (rl.drop i) ∧ Isk.Sep b w' (growI textF T.string 1 v out :: blkI g2 T.isthmusref18_Pool (rpV t y c (.slice A rl.length cc) kv) :: L)) (fun us _ => match us with | [_, _, .int _ m] => rl.length - m.toNat | _ => 0) ⟨0, [], _, rfl, Nat.zero_le _, rfl, (by simp [sizeR]), hs⟩ ?_
    clear hs
    rintro x1 w ⟨i, out, v, hx1, hi, ho, htk, hs⟩
    simp only [List.cons.injEq, and_true] at hx1
    simp only [hx1.1, hx1.2.1, hx1.2.2]
    obtain ⟨A3, c3, rfl⟩ := hs.lst_len .gr
    have hout : takeR m1 i (m2 - sizeR (rl.take i)) (rl.drop i) = [] → ∀ {w : World} {L' : List It}, Isk.Sep b w (growI textF T.string 1 (.slice A3 out.length c3) out :: blkI g2 T.isthmusref18_Pool (rpV t y c (.slice A rl.length cc) kv) :: L) → Isk.Sep b w ((listF textF 1 (.slice A3 out.length c3) (takeR m1 0 m2 rl)).it :: L) := fun h0 w L' hs => by
      rw [htk, h0, List.append_nil]
      exact (hs.growF .hd).sbl (.cons .hd (.drop .all))
    repeat (first
     | (with_reducible refine rpool.a0 ?_)
     | ((with_reducible apply rpool.r0 hs); (· (with_reducible (repeat (first | exact .blk | exact .rng | apply Rng.tl)))))
     | (with_reducible refine rpool.a3 ?_)
     | ((with_reducible apply rpool.r3 hs); (· (with_reducible (repeat (first | exact .blk | exact .rng | apply Rng.tl)))))
     | (with_reducible (first | refine st_lens ?_ | refine mv.mk ?_ | refine gd_u ?_ | refine gd_ft ?_ | refine gd_tf ?_ | refine gd_i ?_ | refine pk_t ?_ | refine pk_f ?_ | refine br_t ?_ | refine br_f ?_ | refine sp_boxa hs fun g w hs => ?_))
     | (with_reducible ((first | apply st_bin | apply st_len); intro k' hk; simp [go_sem, thenR_ok, bin]; refine hk _ _ ?_; clear hk k')))
    by_cases hi' : i < rl.length
    · have hdr : rl.drop i = rl[i] :: rl.drop (i + 1) := by rw [List.drop_eq_getElem_cons hi']
      have hst := sizeR_take hi'
      have hle := sizeR_le (rl := rl) (i := i + 1)
      obtain ⟨g1, o1, ys, hix, hyl, hs⟩ := hs.el (P := Tryz.prog) (T := T.sl_isthmusref18_Item) (.tl (.tl hl)) riT i hi'
      have hy : ys = ritemC (str rl[i].1) (.int .i64 rl[i].2) := hs.get (.tl .hd)
      subst hy
      generalize rl[i] = x at *
      rw [decide_eq_true hi']
      repeat (first
       | (with_reducible (first | refine st_lens ?_ | refine mv.mk ?_ | refine gd_u ?_ | refine gd_ft ?_ | refine gd_tf ?_ | refine gd_i ?_ | refine pk_t ?_ | refine pk_f ?_ | refine br_t ?_ | refine br_f ?_ | refine sp_boxa hs fun g w hs => ?_))
       | (with_reducible ((first | apply st_bin | apply st_len); intro k' hk; simp [go_sem, thenR_ok, bin]; refine hk _ _ ?_; clear hk k')))
      by_cases c1 : (out.length : Int) < m1
      · rw [decide_eq_true c1]
        repeat (first
         | (with_reducible (first | refine st_lens ?_ | refine mv.mk ?_ | refine gd_u ?_ | refine gd_ft ?_ | refine gd_tf ?_ | refine gd_i ?_ | refine pk_t ?_ | refine pk_f ?_ | refine br_t ?_ | refine br_f ?_ | refine sp_boxa hs fun g w hs => ?_))
         | (with_reducible ((first | apply st_bin | apply st_len); intro k' hk; simp [go_sem, thenR_ok, bin]; refine hk _ _ ?_; clear hk k')))
        by_cases c2 : 0 ≤ m2
        · rw [decide_eq_true c2]
          repeat (first
           | (with_reducible refine rpool.a0 ?_)
           | ((with_reducible apply rpool.r0 hs); (· (with_reducible (repeat (first | exact .blk | exact .rng | apply Rng.tl)))))
           | (with_reducible refine rpool.a3 ?_)
           | ((with_reducible apply rpool.r3 hs); (· (with_reducible (repeat (first | exact .blk | exact .rng | apply Rng.tl)))))
           | (with_reducible (first | refine st_lens ?_ | refine mv.mk ?_ | refine gd_u ?_ | refine gd_ft ?_ | refine gd_tf ?_ | refine gd_i ?_ | refine pk_t ?_ | refine pk_f ?_ | refine br_t ?_ | refine br_f ?_ | refine sp_boxa hs fun g w hs => ?_))
           | (with_reducible ((first | apply st_bin | apply st_len); intro k' hk; simp [go_sem, thenR_ok, bin]; refine hk _ _ ?_; clear hk k')))
          refine st_of (hix .i64 w) ?_
          repeat (first
           | (with_reducible refine ritem.a0 ?_)
           | ((with_reducible apply ritem.r0 hs); (· (with_reducible (repeat (first | exact .blk | exact .rng | apply Rng.tl)))))
           | ((with_reducible apply tn_add); (· omega))
           | ((with_reducible apply tn_sub); (· omega))
           | ((with_reducible apply tn_mul); (· omega))
           | ((with_reducible apply sn_add); (· omega))
           | ((with_reducible apply sn_sub); (· omega))
           | ((with_reducible apply sn_mul); (· omega))
           | (with_reducible (first | refine st_lens ?_ | refine mv.mk ?_ | refine gd_u ?_ | refine gd_ft ?_ | refine gd_tf ?_ | refine gd_i ?_ | refine pk_t ?_ | refine pk_f ?_ | refine br_t ?_ | refine br_f ?_ | refine sp_boxa hs fun g w hs => ?_))
           | (with_reducible ((first | apply st_bin | apply st_len); intro k' hk; simp [go_sem, thenR_ok, bin]; refine hk _ _ ?_; clear hk k')))
          by_cases c3' : m2 - sizeR (rl.take i) < (x.1.length : Int)
          · rw [decide_eq_true c3']
            repeat (first
             | (with_reducible (first | refine st_lens ?_ | refine mv.mk ?_ | refine gd_u ?_ | refine gd_ft ?_ | refine gd_tf ?_ | refine gd_i ?_ | refine pk_t ?_ | refine pk_f ?_ | refine br_t ?_ | refine br_f ?_ | refine sp_boxa hs fun g w hs => ?_))
             | (with_reducible ((first | apply st_bin | apply st_len); intro k' hk; simp [go_sem, thenR_ok, bin]; refine hk _ _ ?_; clear hk k')))
            refine ⟨_, _, _, rfl, hout ?_ (L' := []) (hs.sbl (.drop (.drop .all)))⟩
            rw [hdr, takeR, if_pos (.inr c3')]
          · rw [decide_eq_false c3']
            repeat (first
             | (with_reducible refine rpool.a0 ?_)
             | ((with_reducible apply rpool.r0 hs); (· (with_reducible (repeat (first | exact .blk | exact .rng | apply Rng.tl)))))
             | (with_reducible refine rpool.a3 ?_)
             | ((with_reducible apply rpool.r3 hs); (· (with_reducible (repeat (first | exact .blk | exact .rng | apply Rng.tl)))))
             | (with_reducible (first | refine st_lens ?_ | refine mv.mk ?_ | refine gd_u ?_ | refine gd_ft ?_ | refine gd_tf ?_ | refine gd_i ?_ | refine pk_t ?_ | refine pk_f ?_ | refine br_t ?_ | refine br_f ?_ | refine sp_boxa hs fun g w hs => ?_))
             | (with_reducible ((first | apply st_bin | apply st_len); intro k' hk; simp [go_sem, thenR_ok, bin]; refine hk _ _ ?_; clear hk k')))
            refine st_of (hix .i64 w) ?_
            repeat (first
             | (with_reducible refine rpool.a0 ?_)
             | ((with_reducible apply rpool.r0 hs); (· (with_reducible (repeat (first | exact .blk | exact .rng | apply Rng.tl)))))
             | (with_reducible refine rpool.a3 ?_)
             | ((with_reducible apply rpool.r3 hs); (· (with_reducible (repeat (first | exact .blk | exact .rng | apply Rng.tl)))))
             | (with_reducible refine ritem.a0 ?_)
             | ((with_reducible apply ritem.r0 hs); (· (with_reducible (repeat (first | exact .blk | exact .rng | apply Rng.tl)))))
             | ((with_reducible apply tn_add); (· omega))
             | ((with_reducible apply tn_sub); (· omega))
             | ((with_reducible apply tn_mul); (· omega))
             | ((with_reducible apply sn_add); (· omega))
             | ((with_reducible apply sn_sub); (· omega))
             | ((with_reducible apply sn_mul); (· omega))
             | (with_reducible (first | refine st_lens ?_ | refine mv.mk ?_ | refine gd_u ?_ | refine gd_ft ?_ | refine gd_tf ?_ | refine gd_i ?_ | refine pk_t ?_ | refine pk_f ?_ | refine br_t ?_ | refine br_f ?_ | refine sp_boxa hs fun g w hs => ?_))
             | (with_reducible ((first | apply st_bin | apply st_len); intro k' hk; simp [go_sem, thenR_ok, bin]; refine hk _ _ ?_; clear hk k')))
            refine st_of (hix .i64 w) ?_
            repeat (first
             | (with_reducible refine ritem.a0 ?_)
             | ((with_reducible apply ritem.r0 hs); (· (with_reducible (repeat (first | exact .blk | exact .rng | apply Rng.tl)))))
             | (with_reducible (first | refine st_lens ?_ | refine mv.mk ?_ | refine gd_u ?_ | refine gd_ft ?_ | refine gd_tf ?_ | refine gd_i ?_ | refine pk_t ?_ | refine pk_f ?_ | refine br_t ?_ | refine br_f ?_ | refine sp_boxa hs fun g w hs => ?_))
             | (with_reducible ((first | apply st_bin | apply st_len); intro k' hk; simp [go_sem, thenR_ok, bin]; refine hk _ _ ?_; clear hk k')))
            refine sp_litv hs strT8 rfl fun v5 w hs => ?_
            replace hs := hs.fact (f := textF [str x.1] x.1) rfl
            refine sp_push (ys := [str x.1]) (a := x.1) hs (.tl (.tl (.tl (.tl .hd)))) strT8 (by exact .tl .sl) (by exact .hd) (fun u hu => by simp at hu; subst hu; rfl) (by omega) (by omega) fun v6 w hs => ?_
            repeat (first
             | (with_reducible (first | refine st_lens ?_ | refine mv.mk ?_ | refine gd_u ?_ | refine gd_ft ?_ | refine gd_tf ?_ | refine gd_i ?_ | refine pk_t ?_ | refine pk_f ?_ | refine br_t ?_ | refine br_f ?_ | refine sp_boxa hs fun g w hs => ?_))
             | (with_reducible ((first | apply st_bin | apply st_len); intro k' hk; simp [go_sem, thenR_ok, bin]; refine hk _ _ ?_; clear hk k')))
            rw [i64_succ (by omega)]
            refine ⟨⟨i + 1, out ++ [x.1], v6, ?_, hi', by simp [ho], ?_, hs.sbl (.cons .hd (.drop (.drop (.drop (.drop .all)))))⟩, by simp; omega⟩
            · rw [hst]
              push_cast
              rfl
            · rw [htk, hdr, takeR, if_neg (by omega), hst]
              have e1 : m2 - ((sizeR (rl.take i) + x.1.length : Nat) : Int) = m2 - (sizeR (rl.take i) : Int) - (x.1.length : Int) := by push_cast; omega
              rw [e1]
              simp
        · rw [decide_eq_false c2]
          repeat (first
           | (with_reducible (first | refine st_lens ?_ | refine mv.mk ?_ | refine gd_u ?_ | refine gd_ft ?_ | refine gd_tf ?_ | refine gd_i ?_ | refine pk_t ?_ | refine pk_f ?_ | refine br_t ?_ | refine br_f ?_ | refine sp_boxa hs fun g w hs => ?_))
           | (with_reducible ((first | apply st_bin | apply st_len); intro k' hk; simp [go_sem, thenR_ok, bin]; refine hk _ _ ?_; clear hk k')))
          refine ⟨_, _, _, rfl, hout ?_ (L' := []) (hs.sbl (.drop (.drop .all)))⟩
          rw [hdr, takeR, if_pos (.inr (by omega))]
      · rw [decide_eq_false c1]
        repeat (first
         | (with_reducible (first | refine st_lens ?_ | refine mv.mk ?_ | refine gd_u ?_ | refine gd_ft ?_ | refine gd_tf ?_ | refine gd_i ?_ | refine pk_t ?_ | refine pk_f ?_ | refine br_t ?_ | refine br_f ?_ | refine sp_boxa hs fun g w hs => ?_))
         | (with_reducible ((first | apply st_bin | apply st_len); intro k' hk; simp [go_sem, thenR_ok, bin]; refine hk _ _ ?_; clear hk k')))
        refine ⟨_, _, _, rfl, hout ?_ (L' := []) (hs.sbl (.drop (.drop .all)))⟩
        rw [hdr, takeR, if_pos (.inl (by omega))]
    · rw [decide_eq_false hi']
      repeat (first
       | (with_reducible (first | refine st_lens ?_ | refine mv.mk ?_ | refine gd_u ?_ | refine gd_ft ?_ | refine gd_tf ?_ | refine gd_i ?_ | refine pk_t ?_ | refine pk_f ?_ | refine br_t ?_ | refine br_f ?_ | refine sp_boxa hs fun g w hs => ?_))
       | (with_reducible ((first | apply st_bin | apply st_len); intro k' hk; simp [go_sem, thenR_ok, bin]; refine hk _ _ ?_; clear hk k')))
      refine ⟨_, _, _, rfl, hout ?_ (L' := []) hs⟩
      rw [List.drop_of_length_le (by omega)]
      rfl
  · rintro x2 w ⟨y1, y2, v, hx2, hs⟩
    simp only [List.cons.injEq, and_true] at hx2
    simp only [hx2.1]
    repeat with_reducible refine mv.mk ?_
    exact hs
theorem dropR18_mem {x : Bytes × Int} (hx : x ∈ dropR18 h rl) : x ∈ rl := (List.mem_filter.1 hx).1
theorem dropR18_len : (dropR18 h rl).length ≤ rl.length := List.length_filter_le _ _
theorem isthmusref18_Done (hlv : lv.oneCell' = true) (hkv : kv.oneCell' = true) (hl : Ins L (listF ritemF 2 lv rl).it) (hm : Ins L (listF hashF 32 kv ks).it) (ht : Ins L (listF bytesF 1 tv ts).it) (hn : rl.length ≤ 1000000000) (hkn : ks.length ≤ 1000000000) (hbx : ∀ x ∈ rl, x.1.length ≤ 1000000000) (hc : 0 ≤ c) (hc2 : c ≤ 1000000000) (hts : ts.length ≤ 1000000000) (htb : ∀ t ∈ ts, t.length ≤ 1000000000) (hs : Isk.Sep b w L) :
    C Tryz.prog N.isthmusref18_Done #[.agg (rpV t y c lv kv).toArray, tv] w fun r w' => ∃ lv' kv', lv'.oneCell' = true ∧ kv'.oneCell' = true ∧ r = .agg (rpV t y c lv' kv').toArray ∧ Isk.Sep b w' ((listF ritemF 2 lv' (ts.foldl (doneR c) (rl, ks)).1).it :: (listF hashF 32 kv' (ts.foldl (doneR c) (rl, ks)).2).it :: L) := by
  obtain ⟨At, ct, rfl⟩ := hs.lst_len ht.lst
  refine C.isthmusref18_Done ?_
  unfold F.isthmusref18_Done
  replace hs := hs.fact (f := listF hashF 32 kv ks) (hs.get hm)
  replace hs := hs.fact (f := listF ritemF 2 lv rl) (hs.get (.tl hl))
  refine sp_boxa hs fun g2 w hs => ?_
  refine sp_newr hs (by kernel_rfl) fun g4 w hs => ?_
  repeat with_reducible refine mv.mk ?_
  refine lp_by (fun us w' => ∃ (i : Nat) (q : List (Bytes × Int) × List Bytes) (lv kv : Value), us = [.int .i64 (i : Int)] ∧ i ≤ ts.length ∧ q = (ts.take i).foldl (doneR c) (rl, ks) ∧ q.1.length ≤ 1000000000 ∧ q.2.length ≤ 1000000000 ∧ (∀ x ∈ q.1, x.1.length ≤ 1000000000) ∧ lv.oneCell' = true ∧ kv.oneCell' = true ∧ Isk.Sep b w' (resI Tryz.prog g4 T.isthmusref18_Pool :: blkI g2 T.isthmusref18_Pool (rpV t y c lv kv) :: (listF ritemF 2 lv q.1).it :: (listF hashF 32 kv q.2).it :: L)) (fun us _ => match us with | [.int _ m] => ts.length - m.toNat | _ => 0) ⟨0, (rl, ks), lv, kv, rfl, Nat.zero_le _, rfl, hn, hkn, hbx, hlv, hkv, hs⟩ ?_
  clear hs
  rintro x1 w ⟨i, q, lv, kv, hx1, hi, hq0, hq1, hq2, hq3, hlv, hkv, hs⟩
  simp only [List.cons.injEq, and_true] at hx1
  simp only [hx1]
  repeat (first
   | (with_reducible (first | refine st_lens ?_ | refine mv.mk ?_ | refine br_t ?_ | refine br_f ?_ | refine sp_boxa hs fun g w hs => ?_))
   | (with_reducible ((first | apply st_bin | apply st_len); intro k' hk; simp [go_sem, thenR_ok, bin]; refine hk _ _ ?_; clear hk k'))
   | ((with_reducible apply sp_newr hs); (· kernel_rfl); intro g w hs))
  refine br_split (fun hq => ?_) (fun hq => ?_)
  · have hi' : i < ts.length := by have := of_decide_eq_true hq; omega
    have htl := htb _ (List.getElem_mem hi')
    have hH := hB_len ts[i]
    repeat with_reducible refine mv.mk ?_
    refine sp_el1 hs (Ins.lst (.tl (.tl (.tl (.tl ht))))) tsT8 (by kernel_rfl) i rfl hi' fun v hs => ?_
    replace hs := hs.ofBytes (v := v) (t := ts[i]) .hd
    repeat with_reducible refine mv.mk ?_
    refine cl (isthmusref15_Hash (l := ts[i]) hs .hd (by omega)) ?_
    rintro _ w ⟨rfl, hs⟩
    refine sp_newr hs (by kernel_rfl) fun g6 w hs => ?_
    refine sp_setr (ds := u8s (hB ts[i])) hs .hd (by kernel_rfl) (by rw [u8s_length, hH]) (u8s_one _) fun w hs => ?_
    replace hs := hs.drew
    refine dr_can (R := [blkI g6 T.api_Hash (u8s (hB ts[i])), blkI g2 T.isthmusref18_Pool (rpV t y c lv kv)]) hs (.cons .hd (.drop (.drop (.drop (.cons .hd .nil))))) ?_
    have hS : ∀ w, Mayr [blkI g6 T.api_Hash (u8s (hB ts[i])), blkI g2 T.isthmusref18_Pool (rpV t y c lv kv)] w → Mayr [blkI g6 T.api_Hash (u8s (hB ts[i])), blkI g2 T.isthmusref18_Pool (rpV t y c lv kv)] w := fun _ h => h
    refine tk_ldn hS (.tl .blk) (by kernel_rfl) rfl ?_
    refine tk_ldn hS .blk (by kernel_rfl) (by rw [u8s_length, hH]) ?_
    refine tk_ldn hS .blk (by kernel_rfl) (by rw [u8s_length, hH]) ?_
    refine cl (isthmusref18_drop hkv (.tl (.tl (.tl (.tl (.tl .hd))))) hq1 hq3 hH hs) ?_
    rintro _ w ⟨lv2, hlv2, rfl, hs⟩
    refine ⟨hs.mayr (.drop (.cons .hd (.drop (.drop (.drop (.cons .hd .nil)))))), ?_⟩
    refine cl (isthmusref18_remember hlv2 (.tl (.tl (.tl (.tl (.tl (.tl (.tl .hd))))))) hq2 hc hH hs) ?_
    rintro _ w ⟨kv2, rfl, hs⟩
    refine ⟨hs.mayr (.drop (.drop (.cons .hd (.drop (.drop (.drop (.cons .hd .nil))))))), ?_⟩
    obtain ⟨A5, c5, rfl⟩ := hs.lst_len .lst
    refine sp_stb hs (.tl (.tl (.tl (.tl (.tl (.tl .hd)))))) (by kernel_rfl) rfl rfl (rpoolC_one rfl rfl rfl hlv2 rfl) fun w hs => ?_
    repeat (first
     | (with_reducible (first | refine st_lens ?_ | refine mv.mk ?_ | refine br_t ?_ | refine br_f ?_ | refine sp_boxa hs fun g w hs => ?_))
     | (with_reducible ((first | apply st_bin | apply st_len); intro k' hk; simp [go_sem, thenR_ok, bin]; refine hk _ _ ?_; clear hk k'))
     | ((with_reducible apply sp_newr hs); (· kernel_rfl); intro g w hs))
    rw [i64_succ (by omega)]
    have hrl := rememberK_len (c := c) (h := hB ts[i]) (l := q.2) hc
    have hdl := dropR18_len (h := hB ts[i]) (rl := q.1)
    refine ⟨⟨i + 1, doneR c q ts[i], lv2, _, rfl, hi', ?_, by show (dropR18 (hB ts[i]) q.1).length ≤ _; omega, by show (rememberK c (hB ts[i]) q.2).length ≤ _; omega, fun x hx => hq3 x (dropR18_mem hx), hlv2, rfl, hs.sbl (.cons (.tl (.tl (.tl (.tl (.tl (.tl .hd)))))) (.cons .hd (.cons (.tl .hd) (.cons .hd (.drop (.drop (.drop (.drop (.drop .all)))))))))⟩, by simp; omega⟩
    rw [List.take_succ_eq_append_getElem hi', List.foldl_append, ← hq0]
    rfl
  · obtain rfl : i = ts.length := by have := of_decide_eq_false hq; omega
    rw [List.take_length] at hq0
    refine sp_loadall hs (.tl .hd) (by kernel_rfl) rfl ?_
    refine sp_setr (ds := rpV t y c lv kv) hs .hd (by kernel_rfl) rfl (rpoolC_one rfl rfl rfl hlv hkv) fun w hs => sp_rc hs .hd (by kernel_rfl) rfl ?_
    rw [← hq0]
    exact ⟨lv, kv, hlv, hkv, rfl, hs.sbl (.drop (.drop .all))⟩
def dropRR (q : List (Bytes × Int) × List Bytes) (h : Bytes) : (List (Bytes × Int) × List Bytes) × Int := if hasR q.1 h = true then ((dropR18 h q.1, forgetK h q.2), 0) else (q, 8)
theorem isthmusref18_Drop (hlv : lv.oneCell' = true) (hkv : kv.oneCell' = true) (hl : Ins L (listF ritemF 2 lv rl).it) (hm : Ins L (listF hashF 32 kv ks).it) (hn : rl.length ≤ 1000000000) (hkn : ks.length ≤ 1000000000) (hbx : ∀ x ∈ rl, x.1.length ≤ 1000000000) (hh : h.length = 32) (hs : Isk.Sep b w L) :
    C Tryz.prog N.isthmusref18_Drop #[.agg (rpV t y c lv kv).toArray, .agg (u8s h).toArray] w fun r w' => ∃ lv' kv', lv'.oneCell' = true ∧ kv'.oneCell' = true ∧ r = .tuple #[.agg (rpV t y c lv' kv').toArray, .int .i64 (dropRR (rl, ks) h).2] ∧ Isk.Sep b w' ((listF ritemF 2 lv' (dropRR (rl, ks) h).1.1).it :: (listF hashF 32 kv' (dropRR (rl, ks) h).1.2).it :: L) := by
  refine C.isthmusref18_Drop ?_
  unfold F.isthmusref18_Drop
  refine sp_boxa hs fun g2 w hs => ?_
  refine sp_boxa hs fun g3 w hs => ?_
  refine sp_newr hs (by kernel_rfl) fun g4 w hs => ?_
  repeat with_reducible refine mv.mk ?_
  refine sp_loadall hs (.tl (.tl .hd)) (by kernel_rfl) rfl ?_
  refine sp_ldn hs (.tl .blk) (by kernel_rfl) (by rw [u8s_length, hh]) ?_
  refine cl (isthmusref18_Has (.tl (.tl (.tl hl))) hn hbx hh hs) ?_
  rintro _ w ⟨rfl, hs⟩
  unfold dropRR
  cases hhas : hasR rl h with
  | false =>
    rw [if_neg (by decide)]
    repeat (first
     | (with_reducible (first | refine mv.mk ?_ | refine br_t ?_ | refine br_f ?_ | refine sp_boxa hs fun g w hs => ?_))
     | (with_reducible ((first | apply st_un); intro k' hk; simp [go_sem, thenR_ok, bin]; refine hk _ _ ?_; clear hk k'))
     | ((with_reducible apply sp_newr hs); (· kernel_rfl); intro g w hs))
    refine sp_loadall hs (.tl (.tl .hd)) (by kernel_rfl) rfl ?_
    refine sp_setr (ds := rpV t y c lv kv) hs .hd (by kernel_rfl) rfl (rpoolC_one rfl rfl rfl hlv hkv) fun w hs => mv.mk (sp_rc hs .hd (by kernel_rfl) rfl ?_)
    replace hs := hs.fact (f := listF hashF 32 kv ks) (hs.get (.tl (.tl (.tl hm))))
    replace hs := hs.fact (f := listF ritemF 2 lv rl) (hs.get (.tl (.tl (.tl (.tl hl)))))
    exact ⟨lv, kv, hlv, hkv, rfl, hs.sbl (.cons .hd (.cons .hd (.drop (.drop (.drop .all)))))⟩
  | true =>
    rw [if_pos rfl]
    repeat (first
     | (with_reducible (first | refine mv.mk ?_ | refine br_t ?_ | refine br_f ?_ | refine sp_boxa hs fun g w hs => ?_))
     | (with_reducible ((first | apply st_un); intro k' hk; simp [go_sem, thenR_ok, bin]; refine hk _ _ ?_; clear hk k'))
     | ((with_reducible apply sp_newr hs); (· kernel_rfl); intro g w hs))
    replace hs := hs.drew
    refine dr_can (R := [blkI g3 T.api_Hash (u8s h), blkI g2 T.isthmusref18_Pool (rpV t y c lv kv)]) hs (.drop (.cons .hd (.cons .hd .nil))) ?_
    have hS : ∀ w, Mayr [blkI g3 T.api_Hash (u8s h), blkI g2 T.isthmusref18_Pool (rpV t y c lv kv)] w → Mayr [blkI g3 T.api_Hash (u8s h), blkI g2 T.isthmusref18_Pool (rpV t y c lv kv)] w := fun _ h => h
    refine tk_ldn hS (.tl .blk) (by kernel_rfl) rfl ?_
    refine tk_ldn hS .blk (by kernel_rfl) (by rw [u8s_length, hh]) ?_
    refine tk_ldn hS .blk (by kernel_rfl) (by rw [u8s_length, hh]) ?_
    refine cl (isthmusref18_drop hkv (.tl (.tl (.tl hl))) hn hbx hh hs) ?_
    rintro _ w ⟨lv2, hlv2, rfl, hs⟩
    refine ⟨hs.mayr (.drop (.drop (.cons .hd (.cons .hd .nil)))), ?_⟩
    refine cl (isthmusref18_forget hlv2 (.tl (.tl (.tl (.tl hm)))) hkn hh hs) ?_
    rintro _ w ⟨kv2, rfl, hs⟩
    have hk2 := hs.gcells .hd
    refine ⟨hs.mayr (.drop (.drop (.drop (.cons .hd (.cons .hd .nil))))), ?_⟩
    refine sp_setr (ds := rpV t y c lv2 kv2) hs (.tl (.tl .hd)) (by kernel_rfl) rfl (rpoolC_one rfl rfl rfl hlv2 hk2.2) fun w hs => ⟨hs.mayr (.drop (.drop (.drop (.cons .hd (.cons .hd .nil))))), mv.mk (sp_rc hs .hd (by kernel_rfl) rfl ?_)⟩
    replace hs := hs.growF (.tl .hd)
    exact ⟨lv2, kv2, hlv2, hk2.2, rfl, hs.sbl (.cons (.tl (.tl .hd)) (.cons .hd (.drop (.drop (.drop .all)))))⟩
theorem isthmusref18_New (hs : Isk.Sep b w L) : C Tryz.prog N.isthmusref18_New #[.int .i64 t, .int .i64 y, .int .i64 c] w fun r w' =>
    r = (if t < 1 ∨ 1048576 < t ∨ y < 1 ∨ 1048576 < y ∨ c < 0 ∨ 1048576 < c then .tuple #[.agg (rpV 0 0 0 (.slice none 0 0) (.slice none 0 0)).toArray, .int .i64 1] else .tuple #[.agg (rpV t y c (.slice none 0 0) (.slice none 0 0)).toArray, .int .i64 0]) ∧ Isk.Sep b w' L := by
  refine C.isthmusref18_New ?_
  unfold F.isthmusref18_New
  refine sp_newr hs (by kernel_rfl) fun g4 w hs => ?_
  have zp : ∀ {k : Value → World → Prop} {w : World}, k (.agg (rpV 0 0 0 (.slice none 0 0) (.slice none 0 0)).toArray) w → o1 Tryz.prog (Instr.build T.isthmusref18_Pool #[]) w k := fun hk => st_build (by kernel_rfl) hk
  have bad : ∀ {w : World}, Isk.Sep b w (resI Tryz.prog g4 T.isthmusref18_Pool :: L) → o1 Tryz.prog (Instr.build T.isthmusref18_Pool #[]) w (fun t30 w => o0 Tryz.prog (Instr.storeAt T.isthmusref18_Pool (.pointer (some ⟨g4, 0, none⟩)) t30) w fun _ w => mv (.int .i64 1) fun t7_1 => rc Tryz.prog T.isthmusref18_Pool (.pointer (some ⟨g4, 0, none⟩)) w fun r0 => (.tuple #[r0, t7_1] : Value) = .tuple #[.agg (rpV 0 0 0 (.slice none 0 0) (.slice none 0 0)).toArray, .int .i64 1] ∧ Isk.Sep b w L) := fun hs => by
    refine zp ?_
    refine sp_setr (ds := rpV 0 0 0 (.slice none 0 0) (.slice none 0 0)) hs .hd (by kernel_rfl) rfl (rpoolC_one rfl rfl rfl rfl rfl) fun w hs => mv.mk (sp_rc hs .hd (by kernel_rfl) rfl ?_)
    exact ⟨rfl, hs.drop .hd⟩
  repeat (first
   | (with_reducible (first | refine mv.mk ?_ | refine gd_u ?_ | refine gd_ft ?_ | refine gd_tf ?_ | refine gd_i ?_ | refine pk_t ?_ | refine pk_f ?_ | refine br_t ?_ | refine br_f ?_))
   | (with_reducible ((first | apply st_bin); intro k' hk; simp [go_sem, thenR_ok, bin]; refine hk _ _ ?_; clear hk k'))
   | ((with_reducible apply sp_newr hs); (· kernel_rfl); intro g w hs))
  by_cases d1 : t < 1
  · rw [if_pos (.inl d1), decide_eq_true d1]
    repeat (first
     | (with_reducible (first | refine mv.mk ?_ | refine gd_u ?_ | refine gd_ft ?_ | refine gd_tf ?_ | refine gd_i ?_ | refine pk_t ?_ | refine pk_f ?_ | refine br_t ?_ | refine br_f ?_))
     | (with_reducible ((first | apply st_bin); intro k' hk; simp [go_sem, thenR_ok, bin]; refine hk _ _ ?_; clear hk k'))
     | ((with_reducible apply sp_newr hs); (· kernel_rfl); intro g w hs))
    exact bad hs
  rw [decide_eq_false d1]
  repeat (first
   | (with_reducible (first | refine mv.mk ?_ | refine gd_u ?_ | refine gd_ft ?_ | refine gd_tf ?_ | refine gd_i ?_ | refine pk_t ?_ | refine pk_f ?_ | refine br_t ?_ | refine br_f ?_))
   | (with_reducible ((first | apply st_bin); intro k' hk; simp [go_sem, thenR_ok, bin]; refine hk _ _ ?_; clear hk k'))
   | ((with_reducible apply sp_newr hs); (· kernel_rfl); intro g w hs))
  by_cases d2 : 1048576 < t
  · rw [if_pos (.inr (.inl d2)), decide_eq_true d2]
    repeat (first
     | (with_reducible (first | refine mv.mk ?_ | refine gd_u ?_ | refine gd_ft ?_ | refine gd_tf ?_ | refine gd_i ?_ | refine pk_t ?_ | refine pk_f ?_ | refine br_t ?_ | refine br_f ?_))
     | (with_reducible ((first | apply st_bin); intro k' hk; simp [go_sem, thenR_ok, bin]; refine hk _ _ ?_; clear hk k'))
     | ((with_reducible apply sp_newr hs); (· kernel_rfl); intro g w hs))
    exact bad hs
  rw [decide_eq_false d2]
  repeat (first
   | (with_reducible (first | refine mv.mk ?_ | refine gd_u ?_ | refine gd_ft ?_ | refine gd_tf ?_ | refine gd_i ?_ | refine pk_t ?_ | refine pk_f ?_ | refine br_t ?_ | refine br_f ?_))
   | (with_reducible ((first | apply st_bin); intro k' hk; simp [go_sem, thenR_ok, bin]; refine hk _ _ ?_; clear hk k'))
   | ((with_reducible apply sp_newr hs); (· kernel_rfl); intro g w hs))
  by_cases d3 : y < 1
  · rw [if_pos (.inr (.inr (.inl d3))), decide_eq_true d3]
    repeat (first
     | (with_reducible (first | refine mv.mk ?_ | refine gd_u ?_ | refine gd_ft ?_ | refine gd_tf ?_ | refine gd_i ?_ | refine pk_t ?_ | refine pk_f ?_ | refine br_t ?_ | refine br_f ?_))
     | (with_reducible ((first | apply st_bin); intro k' hk; simp [go_sem, thenR_ok, bin]; refine hk _ _ ?_; clear hk k'))
     | ((with_reducible apply sp_newr hs); (· kernel_rfl); intro g w hs))
    exact bad hs
  rw [decide_eq_false d3]
  repeat (first
   | (with_reducible (first | refine mv.mk ?_ | refine gd_u ?_ | refine gd_ft ?_ | refine gd_tf ?_ | refine gd_i ?_ | refine pk_t ?_ | refine pk_f ?_ | refine br_t ?_ | refine br_f ?_))
   | (with_reducible ((first | apply st_bin); intro k' hk; simp [go_sem, thenR_ok, bin]; refine hk _ _ ?_; clear hk k'))
   | ((with_reducible apply sp_newr hs); (· kernel_rfl); intro g w hs))
  by_cases d4 : 1048576 < y
  · rw [if_pos (.inr (.inr (.inr (.inl d4)))), decide_eq_true d4]
    repeat (first
     | (with_reducible (first | refine mv.mk ?_ | refine gd_u ?_ | refine gd_ft ?_ | refine gd_tf ?_ | refine gd_i ?_ | refine pk_t ?_ | refine pk_f ?_ | refine br_t ?_ | refine br_f ?_))
     | (with_reducible ((first | apply st_bin); intro k' hk; simp [go_sem, thenR_ok, bin]; refine hk _ _ ?_; clear hk k'))
     | ((with_reducible apply sp_newr hs); (· kernel_rfl); intro g w hs))
    exact bad hs
  rw [decide_eq_false d4]
  repeat (first
   | (with_reducible (first | refine mv.mk ?_ | refine gd_u ?_ | refine gd_ft ?_ | refine gd_tf ?_ | refine gd_i ?_ | refine pk_t ?_ | refine pk_f ?_ | refine br_t ?_ | refine br_f ?_))
   | (with_reducible ((first | apply st_bin); intro k' hk; simp [go_sem, thenR_ok, bin]; refine hk _ _ ?_; clear hk k'))
   | ((with_reducible apply sp_newr hs); (· kernel_rfl); intro g w hs))
  by_cases d5 : c < 0
  · rw [if_pos (.inr (.inr (.inr (.inr (.inl d5))))), decide_eq_true d5]
    repeat (first
     | (with_reducible (first | refine mv.mk ?_ | refine gd_u ?_ | refine gd_ft ?_ | refine gd_tf ?_ | refine gd_i ?_ | refine pk_t ?_ | refine pk_f ?_ | refine br_t ?_ | refine br_f ?_))
     | (with_reducible ((first | apply st_bin); intro k' hk; simp [go_sem, thenR_ok, bin]; refine hk _ _ ?_; clear hk k'))
     | ((with_reducible apply sp_newr hs); (· kernel_rfl); intro g w hs))
    exact bad hs
  rw [decide_eq_false d5]
  repeat (first
   | (with_reducible (first | refine mv.mk ?_ | refine gd_u ?_ | refine gd_ft ?_ | refine gd_tf ?_ | refine gd_i ?_ | refine pk_t ?_ | refine pk_f ?_ | refine br_t ?_ | refine br_f ?_))
   | (with_reducible ((first | apply st_bin); intro k' hk; simp [go_sem, thenR_ok, bin]; refine hk _ _ ?_; clear hk k'))
   | ((with_reducible apply sp_newr hs); (· kernel_rfl); intro g w hs))
  by_cases d6 : 1048576 < c
  · rw [if_pos (.inr (.inr (.inr (.inr (.inr d6))))), decide_eq_true d6]
    repeat (first
     | (with_reducible (first | refine mv.mk ?_ | refine gd_u ?_ | refine gd_ft ?_ | refine gd_tf ?_ | refine gd_i ?_ | refine pk_t ?_ | refine pk_f ?_ | refine br_t ?_ | refine br_f ?_))
     | (with_reducible ((first | apply st_bin); intro k' hk; simp [go_sem, thenR_ok, bin]; refine hk _ _ ?_; clear hk k'))
     | ((with_reducible apply sp_newr hs); (· kernel_rfl); intro g w hs))
    exact bad hs
  rw [decide_eq_false d6, if_neg (by omega)]
  repeat (first
   | (with_reducible (first | refine mv.mk ?_ | refine gd_u ?_ | refine gd_ft ?_ | refine gd_tf ?_ | refine gd_i ?_ | refine pk_t ?_ | refine pk_f ?_ | refine br_t ?_ | refine br_f ?_))
   | (with_reducible ((first | apply st_bin); intro k' hk; simp [go_sem, thenR_ok, bin]; refine hk _ _ ?_; clear hk k'))
   | ((with_reducible apply sp_newr hs); (· kernel_rfl); intro g w hs))
  refine st_build (cells := (rpV t y c (.slice none 0 0) (.slice none 0 0)).toArray) (by kernel_rfl) ?_
  refine sp_setr (ds := rpV t y c (.slice none 0 0) (.slice none 0 0)) hs .hd (by kernel_rfl) rfl (rpoolC_one rfl rfl rfl rfl rfl) fun w hs => mv.mk (sp_rc hs .hd (by kernel_rfl) rfl ?_)
  exact ⟨rfl, hs.drop .hd⟩
end
end Go.Proofs.YtgagekffmamldaaGreatDoor
