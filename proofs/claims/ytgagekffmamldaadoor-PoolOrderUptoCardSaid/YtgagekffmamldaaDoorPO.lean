/- pool: Take. -/
import Derived.Test.YtgagekffmamldaaDoorPJ
set_option linter.unusedVariables false
set_option linter.unusedSimpArgs false
set_option linter.unusedSectionVars false
namespace Go.Proofs.YtgagekffmamldaaDoor
open Go Go.Isk Go.RowKit
set_option maxRecDepth 20000
/-- what is taken: as many as txs (cnt are taken), as much as by_ -/
def takeP (txs : Int) : Int → Int → List ItemD → List Bytes
  | _, _, [] => []
  | cnt, by_, x :: l => if txs ≤ cnt ∨ by_ < x.b.length then [] else x.b :: takeP txs (cnt + 1) (by_ - x.b.length) l
section
variable {b : Base} {w : World} {L R : List It} {g g3 : Nat} {v sv lv kv : Value} {cs : List Value} {p : PoolD} {x : ItemD} {l h : Bytes} {ls : List ItemD} {n m : Int} {nn : Nat}
theorem ssT : slT Tryd.prog T.sl_sl_uint8 T.sl_uint8 1 24 = true := by kernel_rfl
theorem pool_Take (ok : OkP p nn) (hm1 : -4611686018427387904 ≤ m) (hm2 : m ≤ 4611686018427387904) (hbx : ∀ x ∈ p.l, x.b.length ≤ 1048576) (hs : Isk.Sep b w (blkI g T.pool_Pool (poolV p lv kv) :: growI itemF T.pool_item 35 lv p.l :: (listF hashF 32 kv p.known).it :: L)) :
    C Tryd.prog N.pool_Pool_Take #[.pointer (some ⟨g, 0, none⟩), .int .i64 n, .int .i64 m] w fun r w' => Isk.Sep b w' (growI bytesF T.sl_uint8 1 r (takeP n 0 m p.l) :: blkI g T.pool_Pool (poolV p lv kv) :: growI itemF T.pool_item 35 lv p.l :: (listF hashF 32 kv p.known).it :: L) := by
  obtain ⟨A, c, rfl⟩ := hs.lst_len (.tl .gr)
  have hl1 := ok.len
  have ht2 := ok.t2
  refine C.pool_Pool_Take ?_
  unfold F.pool_Pool_Take
  repeat (first
   | (with_reducible refine pool.a0 ?_)
   | ((with_reducible apply pool.r0 hs); (· (with_reducible (repeat (first | exact .blk | exact .rng | apply Rng.tl)))))
   | (with_reducible refine pool.c0 ?_)
   | ((with_reducible apply pool.e0); (· first | exact hS | exact hid); (· (with_reducible (repeat (first | exact .blk | exact .rng | apply Rng.tl)))))
   | (with_reducible refine pool.a1 ?_)
   | ((with_reducible apply pool.r1 hs); (· (with_reducible (repeat (first | exact .blk | exact .rng | apply Rng.tl)))))
   | (with_reducible refine pool.c1 ?_)
   | ((with_reducible apply pool.e1); (· first | exact hS | exact hid); (· (with_reducible (repeat (first | exact .blk | exact .rng | apply Rng.tl)))))
   | (with_reducible refine pool.a2 ?_)
   | ((with_reducible apply pool.r2 hs); (· (with_reducible (repeat (first | exact .blk | exact .rng | apply Rng.tl)))))
   | (with_reducible refine pool.c2 ?_)
   | ((with_reducible apply pool.e2); (· first | exact hS | exact hid); (· (with_reducible (repeat (first | exact .blk | exact .rng | apply Rng.tl)))))
   | (with_reducible refine pool.a3 ?_)
   | ((with_reducible apply pool.r3 hs); (· (with_reducible (repeat (first | exact .blk | exact .rng | apply Rng.tl)))))
   | (with_reducible refine pool.c3 ?_)
   | ((with_reducible apply pool.e3); (· first | exact hS | exact hid); (· (with_reducible (repeat (first | exact .blk | exact .rng | apply Rng.tl)))))
   | (with_reducible refine pool.a4 ?_)
   | ((with_reducible apply pool.r4 hs); (· (with_reducible (repeat (first | exact .blk | exact .rng | apply Rng.tl)))))
   | (with_reducible refine pool.c4 ?_)
   | ((with_reducible apply pool.e4); (· first | exact hS | exact hid); (· (with_reducible (repeat (first | exact .blk | exact .rng | apply Rng.tl)))))
   | (with_reducible refine pool.a5 ?_)
   | ((with_reducible apply pool.r5 hs); (· (with_reducible (repeat (first | exact .blk | exact .rng | apply Rng.tl)))))
   | (with_reducible refine pool.c5 ?_)
   | ((with_reducible apply pool.e5); (· first | exact hS | exact hid); (· (with_reducible (repeat (first | exact .blk | exact .rng | apply Rng.tl)))))
   | (with_reducible (first | refine st_lens ?_ | refine st_eqls ?_ | refine st_nels ?_ | refine tk_eqls ?_ | refine tk_nels ?_ | refine mv.mk ?_ | refine nk_p ?_ | refine gdT_i ?_ | refine gdT_ft ?_ | refine gdT_tf ?_ | refine gdT_u ?_ | refine gd_u ?_ | refine gd_ft ?_ | refine gd_tf ?_ | refine gd_i ?_ | refine pk_t ?_ | refine pk_f ?_ | refine br_t ?_ | refine br_f ?_ | refine sp_boxa hs fun g w hs => ?_))
   | (with_reducible ((first | apply st_bin | apply st_ext | apply st_len | apply st_un | apply st_conv | apply st_mki | apply st_fld | apply st_cap | apply st_max | apply st_min | apply st_ixv | apply st_mkf); intro k' hk; simp [go_sem, thenR_ok, bin]; refine hk _ _ ?_; clear hk k'))
   | ((with_reducible (first | apply tk_bin | apply tk_ext | apply tk_len | apply tk_un)); (· intro w; simp [go_sem, bin]; rfl))
   | ((with_reducible apply sp_newr hs); (· kernel_rfl); intro g w hs))
  replace hs := hs.grow0 bytesF T.sl_uint8 1
  refine jn_by (fun us w' => ∃ (y1 y2 v : Value), us = [y1, v, y2] ∧ Isk.Sep b w' (growI bytesF T.sl_uint8 1 v (takeP n 0 m p.l) :: blkI g T.pool_Pool (poolV p (.slice A p.l.length c) kv) :: growI itemF T.pool_item 35 (.slice A p.l.length c) p.l :: (listF hashF 32 kv p.known).it :: L)) ?_ ?_
  · refine lp_by (fun us w' => ∃ (i : Nat) (out : List Bytes) (by_ : Int) (v : Value), us = [.int .i64 by_, v, .int .i64 (i : Int)] ∧ i ≤ p.l.length ∧ out.length = i ∧ by_ ≤ m ∧ m - 1048576 * i ≤ by_ ∧ takeP n 0 m p.l = out ++ takeP n i by_ (p.l.drop i) ∧ Isk.Sep b w' (growI bytesF T.sl_uint8 1 v out :: blkI g T.pool_Pool (poolV p (.slice A p.l.length c) kv) :: growI itemF T.pool_item 35 (.slice A p.l.length c) p.l :: (listF hashF 32 kv p.known).it :: L)) (fun us _ => match us with | [_, _, .int _ m] => p.l.length - m.toNat | _ => 0) ⟨0, [], m, _, rfl, Nat.zero_le _, rfl, Int.le_refl _, by omega, rfl, hs⟩ ?_
    clear hs
    rintro x1 w ⟨i, out, by_, v, hx1, hi, ho, hb1, hb2, htk, hs⟩
    simp only [List.cons.injEq, and_true] at hx1
    simp only [hx1.1, hx1.2.1, hx1.2.2]
    repeat (first
     | (with_reducible (first | refine st_lens ?_ | refine st_eqls ?_ | refine st_nels ?_ | refine tk_eqls ?_ | refine tk_nels ?_ | refine mv.mk ?_ | refine nk_p ?_ | refine gdT_i ?_ | refine gdT_ft ?_ | refine gdT_tf ?_ | refine gdT_u ?_ | refine gd_u ?_ | refine gd_ft ?_ | refine gd_tf ?_ | refine gd_i ?_ | refine pk_t ?_ | refine pk_f ?_ | refine br_t ?_ | refine br_f ?_ | refine sp_boxa hs fun g w hs => ?_))
     | (with_reducible ((first | apply st_bin | apply st_ext | apply st_len | apply st_un | apply st_conv | apply st_mki | apply st_fld | apply st_cap | apply st_max | apply st_min | apply st_ixv | apply st_mkf); intro k' hk; simp [go_sem, thenR_ok, bin]; refine hk _ _ ?_; clear hk k'))
     | ((with_reducible (first | apply tk_bin | apply tk_ext | apply tk_len | apply tk_un)); (· intro w; simp [go_sem, bin]; rfl))
     | ((with_reducible apply sp_newr hs); (· kernel_rfl); intro g w hs))
    refine br_split (fun hq => ?_) (fun hq => ?_)
    · have hi' : i < p.l.length := by have := of_decide_eq_true hq; omega
      have hdr : p.l.drop i = p.l[i] :: p.l.drop (i + 1) := by rw [List.drop_eq_getElem_cons hi']
      have hbl := hbx _ (List.getElem_mem hi')
      refine sp_eln hs (.tl (.tl .gr)) itT (by kernel_rfl) i rfl hi' fun cs hcl hs => ?_
      obtain ⟨bv, rfl, hs⟩ := item_open hs .hd
      obtain ⟨A2, c2, rfl⟩ := by_slice8 hs .hd
      generalize p.l[i] = x at *
      refine sp_newr hs (by kernel_rfl) fun g5 w hs => ?_
      refine sp_setr (ds := itemV x (.slice A2 x.b.length c2)) hs .hd (by kernel_rfl) hcl (pitemC_one rfl (u8s_one _) rfl rfl) fun w hs => ?_
      obtain ⟨A3, c3, rfl⟩ := hs.lst_len (.tl (.tl (.tl .gr)))
      have hH := hB_len x.b
      repeat (first
       | (with_reducible (first | refine st_lens ?_ | refine st_eqls ?_ | refine st_nels ?_ | refine tk_eqls ?_ | refine tk_nels ?_ | refine mv.mk ?_ | refine nk_p ?_ | refine gdT_i ?_ | refine gdT_ft ?_ | refine gdT_tf ?_ | refine gdT_u ?_ | refine gd_u ?_ | refine gd_ft ?_ | refine gd_tf ?_ | refine gd_i ?_ | refine pk_t ?_ | refine pk_f ?_ | refine br_t ?_ | refine br_f ?_ | refine sp_boxa hs fun g w hs => ?_))
       | (with_reducible ((first | apply st_bin | apply st_ext | apply st_len | apply st_un | apply st_conv | apply st_mki | apply st_fld | apply st_cap | apply st_max | apply st_min | apply st_ixv | apply st_mkf); intro k' hk; simp [go_sem, thenR_ok, bin]; refine hk _ _ ?_; clear hk k'))
       | ((with_reducible (first | apply tk_bin | apply tk_ext | apply tk_len | apply tk_un)); (· intro w; simp [go_sem, bin]; rfl))
       | ((with_reducible apply sp_newr hs); (· kernel_rfl); intro g w hs))
      by_cases c1 : n ≤ (out.length : Int)
      · rw [decide_eq_true c1]
        repeat (first
         | (with_reducible (first | refine st_lens ?_ | refine st_eqls ?_ | refine st_nels ?_ | refine tk_eqls ?_ | refine tk_nels ?_ | refine mv.mk ?_ | refine nk_p ?_ | refine gdT_i ?_ | refine gdT_ft ?_ | refine gdT_tf ?_ | refine gdT_u ?_ | refine gd_u ?_ | refine gd_ft ?_ | refine gd_tf ?_ | refine gd_i ?_ | refine pk_t ?_ | refine pk_f ?_ | refine br_t ?_ | refine br_f ?_ | refine sp_boxa hs fun g w hs => ?_))
         | (with_reducible ((first | apply st_bin | apply st_ext | apply st_len | apply st_un | apply st_conv | apply st_mki | apply st_fld | apply st_cap | apply st_max | apply st_min | apply st_ixv | apply st_mkf); intro k' hk; simp [go_sem, thenR_ok, bin]; refine hk _ _ ?_; clear hk k'))
         | ((with_reducible (first | apply tk_bin | apply tk_ext | apply tk_len | apply tk_un)); (· intro w; simp [go_sem, bin]; rfl))
         | ((with_reducible apply sp_newr hs); (· kernel_rfl); intro g w hs))
        have : takeP n 0 m p.l = out := by rw [htk, hdr, takeP, if_pos (.inl (by omega)), List.append_nil]
        rw [this]
        exact ⟨_, _, _, rfl, hs.sbl (.drop (.drop (.drop .all)))⟩
      rw [decide_eq_false c1]
      repeat (first
       | (with_reducible refine pitem.a0 ?_)
       | ((with_reducible apply pitem.r0 hs); (· (with_reducible (repeat (first | exact .blk | exact .rng | apply Rng.tl)))))
       | (with_reducible refine pitem.c0 ?_)
       | ((with_reducible apply pitem.e0); (· first | exact hS | exact hid); (· (with_reducible (repeat (first | exact .blk | exact .rng | apply Rng.tl)))))
       | (with_reducible refine pitem.a1 ?_)
       | ((with_reducible apply pitem.r1 hs); (· (with_reducible (repeat (first | exact .blk | exact .rng | apply Rng.tl)))); (· (with_reducible (first | assumption | exact z32 | exact u8s_len (by assumption)))))
       | (with_reducible refine pitem.c1 ?_)
       | ((with_reducible apply pitem.e1); (· first | exact hS | exact hid); (· (with_reducible (repeat (first | exact .blk | exact .rng | apply Rng.tl)))); (· (with_reducible (first | assumption | exact z32 | exact u8s_len (by assumption)))))
       | (with_reducible refine pitem.a2 ?_)
       | ((with_reducible apply pitem.r2 hs); (· (with_reducible (repeat (first | exact .blk | exact .rng | apply Rng.tl)))); (· (with_reducible (first | assumption | exact z32 | exact u8s_len (by assumption)))))
       | (with_reducible refine pitem.c2 ?_)
       | ((with_reducible apply pitem.e2); (· first | exact hS | exact hid); (· (with_reducible (repeat (first | exact .blk | exact .rng | apply Rng.tl)))); (· (with_reducible (first | assumption | exact z32 | exact u8s_len (by assumption)))))
       | (with_reducible refine pitem.a3 ?_)
       | ((with_reducible apply pitem.r3 hs); (· (with_reducible (repeat (first | exact .blk | exact .rng | apply Rng.tl)))); (· (with_reducible (first | assumption | exact z32 | exact u8s_len (by assumption)))))
       | (with_reducible refine pitem.c3 ?_)
       | ((with_reducible apply pitem.e3); (· first | exact hS | exact hid); (· (with_reducible (repeat (first | exact .blk | exact .rng | apply Rng.tl)))); (· (with_reducible (first | assumption | exact z32 | exact u8s_len (by assumption)))))
       | (with_reducible (first | refine st_lens ?_ | refine st_eqls ?_ | refine st_nels ?_ | refine tk_eqls ?_ | refine tk_nels ?_ | refine mv.mk ?_ | refine nk_p ?_ | refine gdT_i ?_ | refine gdT_ft ?_ | refine gdT_tf ?_ | refine gdT_u ?_ | refine gd_u ?_ | refine gd_ft ?_ | refine gd_tf ?_ | refine gd_i ?_ | refine pk_t ?_ | refine pk_f ?_ | refine br_t ?_ | refine br_f ?_ | refine sp_boxa hs fun g w hs => ?_))
       | (with_reducible ((first | apply st_bin | apply st_ext | apply st_len | apply st_un | apply st_conv | apply st_mki | apply st_fld | apply st_cap | apply st_max | apply st_min | apply st_ixv | apply st_mkf); intro k' hk; simp [go_sem, thenR_ok, bin]; refine hk _ _ ?_; clear hk k'))
       | ((with_reducible (first | apply tk_bin | apply tk_ext | apply tk_len | apply tk_un)); (· intro w; simp [go_sem, bin]; rfl))
       | ((with_reducible apply sp_newr hs); (· kernel_rfl); intro g w hs))
      by_cases c4 : by_ < (x.b.length : Int)
      · rw [decide_eq_true c4]
        repeat (first
         | (with_reducible (first | refine st_lens ?_ | refine st_eqls ?_ | refine st_nels ?_ | refine tk_eqls ?_ | refine tk_nels ?_ | refine mv.mk ?_ | refine nk_p ?_ | refine gdT_i ?_ | refine gdT_ft ?_ | refine gdT_tf ?_ | refine gdT_u ?_ | refine gd_u ?_ | refine gd_ft ?_ | refine gd_tf ?_ | refine gd_i ?_ | refine pk_t ?_ | refine pk_f ?_ | refine br_t ?_ | refine br_f ?_ | refine sp_boxa hs fun g w hs => ?_))
         | (with_reducible ((first | apply st_bin | apply st_ext | apply st_len | apply st_un | apply st_conv | apply st_mki | apply st_fld | apply st_cap | apply st_max | apply st_min | apply st_ixv | apply st_mkf); intro k' hk; simp [go_sem, thenR_ok, bin]; refine hk _ _ ?_; clear hk k'))
         | ((with_reducible (first | apply tk_bin | apply tk_ext | apply tk_len | apply tk_un)); (· intro w; simp [go_sem, bin]; rfl))
         | ((with_reducible apply sp_newr hs); (· kernel_rfl); intro g w hs))
        have : takeP n 0 m p.l = out := by rw [htk, hdr, takeP, if_pos (.inr c4), List.append_nil]
        rw [this]
        exact ⟨_, _, _, rfl, hs.sbl (.drop (.drop (.drop .all)))⟩
      rw [decide_eq_false c4]
      repeat (first
       | (with_reducible refine pitem.a0 ?_)
       | ((with_reducible apply pitem.r0 hs); (· (with_reducible (repeat (first | exact .blk | exact .rng | apply Rng.tl)))))
       | (with_reducible refine pitem.c0 ?_)
       | ((with_reducible apply pitem.e0); (· first | exact hS | exact hid); (· (with_reducible (repeat (first | exact .blk | exact .rng | apply Rng.tl)))))
       | (with_reducible refine pitem.a1 ?_)
       | ((with_reducible apply pitem.r1 hs); (· (with_reducible (repeat (first | exact .blk | exact .rng | apply Rng.tl)))); (· (with_reducible (first | assumption | exact z32 | exact u8s_len (by assumption)))))
       | (with_reducible refine pitem.c1 ?_)
       | ((with_reducible apply pitem.e1); (· first | exact hS | exact hid); (· (with_reducible (repeat (first | exact .blk | exact .rng | apply Rng.tl)))); (· (with_reducible (first | assumption | exact z32 | exact u8s_len (by assumption)))))
       | (with_reducible refine pitem.a2 ?_)
       | ((with_reducible apply pitem.r2 hs); (· (with_reducible (repeat (first | exact .blk | exact .rng | apply Rng.tl)))); (· (with_reducible (first | assumption | exact z32 | exact u8s_len (by assumption)))))
       | (with_reducible refine pitem.c2 ?_)
       | ((with_reducible apply pitem.e2); (· first | exact hS | exact hid); (· (with_reducible (repeat (first | exact .blk | exact .rng | apply Rng.tl)))); (· (with_reducible (first | assumption | exact z32 | exact u8s_len (by assumption)))))
       | (with_reducible refine pitem.a3 ?_)
       | ((with_reducible apply pitem.r3 hs); (· (with_reducible (repeat (first | exact .blk | exact .rng | apply Rng.tl)))); (· (with_reducible (first | assumption | exact z32 | exact u8s_len (by assumption)))))
       | (with_reducible refine pitem.c3 ?_)
       | ((with_reducible apply pitem.e3); (· first | exact hS | exact hid); (· (with_reducible (repeat (first | exact .blk | exact .rng | apply Rng.tl)))); (· (with_reducible (first | assumption | exact z32 | exact u8s_len (by assumption)))))
       | (with_reducible (first | refine st_lens ?_ | refine st_eqls ?_ | refine st_nels ?_ | refine tk_eqls ?_ | refine tk_nels ?_ | refine mv.mk ?_ | refine nk_p ?_ | refine gdT_i ?_ | refine gdT_ft ?_ | refine gdT_tf ?_ | refine gdT_u ?_ | refine gd_u ?_ | refine gd_ft ?_ | refine gd_tf ?_ | refine gd_i ?_ | refine pk_t ?_ | refine pk_f ?_ | refine br_t ?_ | refine br_f ?_ | refine sp_boxa hs fun g w hs => ?_))
       | (with_reducible ((first | apply st_bin | apply st_ext | apply st_len | apply st_un | apply st_conv | apply st_mki | apply st_fld | apply st_cap | apply st_max | apply st_min | apply st_ixv | apply st_mkf); intro k' hk; simp [go_sem, thenR_ok, bin]; refine hk _ _ ?_; clear hk k'))
       | ((with_reducible (first | apply tk_bin | apply tk_ext | apply tk_len | apply tk_un)); (· intro w; simp [go_sem, bin]; rfl))
       | ((with_reducible apply sp_newr hs); (· kernel_rfl); intro g w hs))
      rw [show IntKind.i64.wrap (by_ - (x.b.length : Int)) = by_ - (x.b.length : Int) by simp [IntKind.wrap, IntKind.signed, IntKind.bits]; omega]
      refine cl (slices_Clone_8 (bts := x.b) hs (.tl .hd) (by omega)) ?_
      rintro v7 w hs
      replace hs := hs.rowB .hd
      obtain ⟨A7, c7, rfl⟩ := by_slice8 hs .hd
      replace hs := hs.fact (f := bytesF [.slice A7 x.b.length c7] x.b) ⟨_, rfl, hs.get .hd⟩
      refine sp_litv hs ssT rfl fun v8 w hs => ?_
      refine sp_push (ys := [.slice A7 x.b.length c7]) (a := x.b) hs (.tl (.tl (.tl (.tl (.tl (.tl .hd)))))) ssT (by exact .sl) (by exact (.tl .hd)) (fun u hu => by simp at hu; subst hu; rfl) (by omega) (by omega) fun v9 w hs => ?_
      repeat (first
       | (with_reducible (first | refine st_lens ?_ | refine st_eqls ?_ | refine st_nels ?_ | refine tk_eqls ?_ | refine tk_nels ?_ | refine mv.mk ?_ | refine nk_p ?_ | refine gdT_i ?_ | refine gdT_ft ?_ | refine gdT_tf ?_ | refine gdT_u ?_ | refine gd_u ?_ | refine gd_ft ?_ | refine gd_tf ?_ | refine gd_i ?_ | refine pk_t ?_ | refine pk_f ?_ | refine br_t ?_ | refine br_f ?_ | refine sp_boxa hs fun g w hs => ?_))
       | (with_reducible ((first | apply st_bin | apply st_ext | apply st_len | apply st_un | apply st_conv | apply st_mki | apply st_fld | apply st_cap | apply st_max | apply st_min | apply st_ixv | apply st_mkf); intro k' hk; simp [go_sem, thenR_ok, bin]; refine hk _ _ ?_; clear hk k'))
       | ((with_reducible (first | apply tk_bin | apply tk_ext | apply tk_len | apply tk_un)); (· intro w; simp [go_sem, bin]; rfl))
       | ((with_reducible apply sp_newr hs); (· kernel_rfl); intro g w hs))
      rw [i64_succ (by omega)]
      refine ⟨⟨i + 1, out ++ [x.b], _, v9, rfl, hi', by simp [ho], by omega, by omega, ?_, hs.sbl (.cons .hd (.drop (.drop (.drop (.drop (.drop (.drop .all)))))))⟩, by simp; omega⟩
      rw [htk, hdr, takeP, if_neg (by omega)]
      simp
    · obtain rfl : i = p.l.length := by have := of_decide_eq_false hq; omega
      repeat with_reducible refine mv.mk ?_
      have : takeP n 0 m p.l = out := by rw [htk, List.drop_length, takeP, List.append_nil]
      rw [this]
      exact ⟨_, _, _, rfl, hs⟩
  · rintro x2 w ⟨y1, y2, v, hx2, hs⟩
    simp only [List.cons.injEq, and_true] at hx2
    simp only [hx2.2.1]
    repeat with_reducible refine mv.mk ?_
    exact hs
end
end Go.Proofs.YtgagekffmamldaaDoor
set_option linter.unusedVariables false
set_option linter.unusedSimpArgs false
set_option linter.unusedSectionVars false
namespace Go.Proofs.YtgagekffmamldaaDoor
open Go Go.Isk Go.RowKit
def itemsO (AF : List (Bytes × Int)) : List ItemD := AF.zipIdx.map fun q => ⟨q.1.1, q.1.2, (q.2 : Int)⟩
theorem itemsO_app (AF : List (Bytes × Int)) (q : Bytes × Int) : itemsO (AF ++ [q]) = itemsO AF ++ [⟨q.1, q.2, (AF.length : Int)⟩] := by
  unfold itemsO
  rw [List.zipIdx_append, List.map_append]
  simp
theorem itemsO_len (AF : List (Bytes × Int)) : (itemsO AF).length = AF.length := by simp [itemsO]
theorem itemsO_get (AF : List (Bytes × Int)) (k : Nat) (h : k < AF.length) : (itemsO AF)[k]? = some ⟨AF[k].1, AF[k].2, (k : Int)⟩ := by
  unfold itemsO
  rw [List.getElem?_map, List.getElem?_zipIdx, List.getElem?_eq_getElem h]
  simp
def sumO (AF : List (Bytes × Int)) : Nat := (AF.map fun q => q.1.length).sum
theorem sizeO (AF : List (Bytes × Int)) : sizeP (itemsO AF) = sumO AF := by
  unfold sizeP sumO itemsO
  rw [List.map_map]
  have : ∀ (AF : List (Bytes × Int)) (n : Nat), (AF.zipIdx n).map ((fun x : ItemD => x.b.length) ∘ fun q => ⟨q.1.1, q.1.2, (q.2 : Int)⟩) = AF.map fun q => q.1.length := fun AF => by
    induction AF with
    | nil => intro n; rfl
    | cons q AF ih => intro n; simp only [List.zipIdx_cons, List.map_cons, ih]; rfl
  rw [this]
structure OInv (p : PoolD) (AF : List (Bytes × Int)) : Prop where
  perm : p.l.Perm (itemsO AF)
  came : p.came = AF.length
  txs : p.txs = 100
  by_ : p.bytes = 1048576
  ca : p.cache = 0
  len : ∀ q ∈ AF, q.1.length ≤ 1000
theorem sumO_le {AF : List (Bytes × Int)} (h : ∀ q ∈ AF, q.1.length ≤ 1000) : sumO AF ≤ 1000 * AF.length := by
  unfold sumO
  induction AF with
  | nil => simp
  | cons q AF ih =>
    have h1 := h q (List.mem_cons_self ..)
    have h2 := ih fun z hz => h z (List.mem_cons_of_mem _ hz)
    simp only [List.map_cons, List.sum_cons, List.length_cons]
    omega
theorem OInv.size {p : PoolD} {AF : List (Bytes × Int)} (h : OInv p AF) : sizeP p.l = sumO AF := by rw [sizeP_perm h.perm, sizeO]
theorem OInv.plen {p : PoolD} {AF : List (Bytes × Int)} (h : OInv p AF) : p.l.length = AF.length := by rw [h.perm.length_eq, itemsO_len]
theorem OInv.add {p : PoolD} {AF : List (Bytes × Int)} (h : OInv p AF) (hl : AF.length ≤ 59) {bts : Bytes} {fee : Int} (hb : bts.length ≤ 1000) :
    ((addP p bts fee).1 = p ∧ (addP p bts fee).2.2 ≠ 0) ∨ ((addP p bts fee).2.2 = 0 ∧ OInv (addP p bts fee).1 (AF ++ [(bts, fee)])) := by
  by_cases h1 : bts = [] ∨ fee < 0
  · rw [addP_0 h1]; exact .inl ⟨rfl, fun h => by cases h⟩
  by_cases h2 : knowsP p (hB bts) = true
  · rw [addP_9 h1 h2]; exact .inl ⟨rfl, fun h => by cases h⟩
  by_cases h3 : p.bytes < bts.length
  · rw [addP_2 h1 h2 h3]; exact .inl ⟨rfl, fun h => by cases h⟩
  have hs := h.size
  have hp := h.plen
  have hle := sumO_le h.len
  have hc : ¬ (p.txs < (p.l.length : Int) + 1 ∨ p.bytes < (sizeP p.l : Int) + bts.length) := by
    rw [h.txs, h.by_, hs, hp]
    omega
  rw [addP_r h1 h2 h3, room_stop hc]
  refine .inr ⟨rfl, ⟨?_, ?_, h.txs, h.by_, h.ca, ?_⟩⟩
  · rw [itemsO_app]
    show (insP ⟨bts, fee, p.came⟩ p.l).Perm _
    rw [h.came]
    exact (insP_perm _ _).trans (h.perm.append_right _)
  · show p.came + 1 = _
    rw [h.came, List.length_append]
    simp
  · intro q hq
    rcases List.mem_append.1 hq with hq | hq
    · exact h.len q hq
    · simp only [List.mem_cons, List.not_mem_nil, or_false] at hq
      rw [hq]; exact hb
theorem takeP_all {n : Int} : ∀ {l : List ItemD} {cnt by_ : Int}, cnt + l.length ≤ n → (sizeP l : Int) ≤ by_ → takeP n cnt by_ l = l.map (·.b)
  | [], _, _, _, _ => rfl
  | x :: l, cnt, by_, h1, h2 => by
    have h3 : sizeP (x :: l) = x.b.length + sizeP l := by simp [sizeP]
    rw [h3] at h2
    simp only [List.length_cons] at h1
    rw [takeP, if_neg (by omega), takeP_all (by omega) (by omega)]
    rfl
/-- which text it is -/
theorem OInv.at {p : PoolD} {n : Nat} {AF : List (Bytes × Int)} (h : OInv p AF) (ok : OkP p n) {i : Nat} (hi : i < p.l.length) :
    ∃ (c : Nat) (hc : c < AF.length), p.l[i].came = c ∧ p.l[i].fee = AF[c].2 ∧ p.l[i].b = AF[c].1 ∧ ∀ (k : Nat) (hk : k < AF.length), AF[k].1 = p.l[i].b → k = c := by
  have hm : p.l[i] ∈ itemsO AF := h.perm.mem_iff.1 (List.getElem_mem hi)
  obtain ⟨c, hc, he⟩ := List.mem_iff_getElem.1 hm
  rw [itemsO_len] at hc
  have hg := itemsO_get AF c hc
  rw [List.getElem?_eq_getElem (by rw [itemsO_len]; exact hc)] at hg
  have hg := Option.some.inj hg
  rw [he] at hg
  refine ⟨c, hc, by rw [hg], by rw [hg], by rw [hg], fun k hk hb => ?_⟩
  have hnd : ((itemsO AF).map fun x => hB x.b).Nodup := (h.perm.map _).nodup_iff.1 ok.nd
  have hk2 := itemsO_get AF k hk
  rw [List.getElem?_eq_getElem (by rw [itemsO_len]; exact hk)] at hk2
  have hk2 := Option.some.inj hk2
  have e1 : ((itemsO AF).map fun x => hB x.b)[k]'(by rw [List.length_map, itemsO_len]; exact hk) = hB p.l[i].b := by rw [List.getElem_map, hk2]; show hB AF[k].1 = _; rw [hb]
  have e2 : ((itemsO AF).map fun x => hB x.b)[c]'(by rw [List.length_map, itemsO_len]; exact hc) = hB p.l[i].b := by rw [List.getElem_map, he]
  rcases Nat.lt_trichotomy k c with hlt | heq | hlt
  · exact absurd (e1.trans e2.symm) (List.pairwise_iff_getElem.1 hnd k c (by rw [List.length_map, itemsO_len]; exact hk) (by rw [List.length_map, itemsO_len]; exact hc) hlt)
  · exact heq
  · exact absurd (e2.trans e1.symm) (List.pairwise_iff_getElem.1 hnd c k (by rw [List.length_map, itemsO_len]; exact hc) (by rw [List.length_map, itemsO_len]; exact hk) hlt)
end Go.Proofs.YtgagekffmamldaaDoor
set_option linter.unusedVariables false
set_option linter.unusedSimpArgs false
set_option linter.unusedSectionVars false
namespace Go.Proofs.YtgagekffmamldaaDoor
open Go Go.Isk Go.RowKit
set_option maxRecDepth 20000
def textF : Fam Bytes := fun cs l => pureF (cs = [str l])
section
variable {b : Base} {w : World} {L R : List It} {g g3 g8 : Nat} {v sv lv kv bv cv e av fv : Value} {cs : List Value} {l : List Act8} {p : PoolD} {AF : List (Bytes × Int)} {n : Int}
theorem strT8 : slT Tryd.prog T.sl_string T.string 1 16 = true := by kernel_rfl
theorem sizeP_mem {l : List ItemD} {y : ItemD} (h : y ∈ l) : y.b.length ≤ sizeP l := by
  unfold sizeP
  induction l with
  | nil => cases h
  | cons z l ih =>
    simp only [List.map_cons, List.sum_cons]
    rcases List.mem_cons.1 h with rfl | h
    · omega
    · have := ih h
      omega
theorem err_eql8 {i : Nat} (hs : Isk.Sep b w L) (hm : Ins L (errF e n).it) : (bin .eql T.error (.tmp i) (.const .nilIface) e .nilIface).run Tryd.prog w = .ok (.bool (decide (n = 0))) w := by
  obtain ⟨d, hd⟩ := hs.get hm
  cases d with
  | zero =>
    rcases hd with ⟨rfl, rfl⟩ | ⟨rfl, h0, _⟩
    · simp [go_sem, bin]
    · simp [go_sem, bin, h0]
  | succ d' =>
    obtain ⟨_, _, _, rfl, h0, _⟩ := hd
    simp [go_sem, bin, h0]
def F.isthmuslaw18_PoolOrder_r (k : Value → World → Prop) (t3 t86 : Value) (x1 : Env) (w : World) : Prop :=
  C Tryd.prog N.pool_Pool_Take #[t86, .int .i64 100, .int .i64 1048576] w fun t87 w =>
  mv t87 fun t11 =>
  mv t11 fun t88 =>
  o1 Tryd.prog (Builtin.len_ #[34] 3 #[t88]) w fun t89 w =>
  mv (x1 5) fun t90 =>
  o1 Tryd.prog (Builtin.len_ #[46] 3 #[t90]) w fun t91 w =>
  o1 Tryd.prog (bin .neq 3 (.tmp 89) (.tmp 91) t89 t91) w fun t92 w =>
  mv t92 fun t93 =>
  gd t93 false (fun k6 => mv t3 fun v => k6 v w) w fun t94 w =>
  gd t93 false (fun k7 => C Tryd.prog N.pool_Pool_Len #[t94] w k7) w fun t95 w =>
  gd t93 false (fun k8 => mv (x1 5) fun v => k8 v w) w fun t96 w =>
  gd t93 false (fun k9 => o1 Tryd.prog (Builtin.len_ #[46] 3 #[t96]) w k9) w fun t97 w =>
  gd t93 false (fun k10 => o1 Tryd.prog (bin .neq 3 (.tmp 95) (.tmp 97) t95 t97) w k10) w fun t98 w =>
  pk t93 (.bool true) t98 fun t99 =>
  mv t99 fun t100 =>
  gd t100 false (fun k11 => mv t3 fun v => k11 v w) w fun t101 w =>
  gd t100 false (fun k12 => C Tryd.prog N.pool_Pool_Bytes #[t101] w k12) w fun t102 w =>
  gd t100 false (fun k13 => mv (x1 7) fun v => k13 v w) w fun t103 w =>
  gd t100 false (fun k14 => o1 Tryd.prog (bin .neq 3 (.tmp 102) (.tmp 103) t102 t103) w k14) w fun t104 w =>
  pk t100 (.bool true) t104 fun t105 =>
  br t105 (fun _ =>
  mv (.bool false) fun t2_3 =>
  k t2_3 w) (fun _ =>
  mv (.int .i64 (-1)) fun t12 =>
  mv (.int .i64 0) fun t13 =>
  lp [(x1 2), t12, t13, undef, undef] w fun I3 μ3 => ∀ (x3 : Env) (w2 : World), I3 [x3 2, x3 12, x3 13, x3 14, x3 15] w2 →
  mv (x3 13) fun t106 =>
  mv t11 fun t107 =>
  o1 Tryd.prog (Builtin.len_ #[34] 3 #[t107]) w2 fun t108 w =>
  o1 Tryd.prog (bin .lss 3 (.tmp 106) (.tmp 108) t106 t108) w fun t109 w =>
  br t109 (fun _ =>
  mv (.int .i64 (-1)) fun t14 =>
  mv (.int .i64 0) fun t15 =>
  lp [t14, t15] w fun I4 μ4 => ∀ (x4 : Env) (w3 : World), I4 [x4 14, x4 15] w3 →
  mv (x4 15) fun t112 =>
  mv (x1 5) fun t113 =>
  o1 Tryd.prog (Builtin.len_ #[46] 3 #[t113]) w3 fun t114 w =>
  o1 Tryd.prog (bin .lss 3 (.tmp 112) (.tmp 114) t112 t114) w fun t115 w =>
  br t115 (fun _ =>
  mv (x1 5) fun t118 =>
  mv (x4 15) fun t119 =>
  tk Tryd.prog (fun w' => w' = w.drew) (Instr.indexAt 46 t118 t119) fun t120 =>
  tk Tryd.prog (fun w' => w' = w.drew) (Instr.loadAt 9 t120) fun t121 =>
  mv t11 fun t122 =>
  mv (x3 13) fun t123 =>
  tk Tryd.prog (fun w' => w' = w.drew) (Instr.indexAt 34 t122 t123) fun t124 =>
  tk Tryd.prog (fun w' => w' = w.drew) (Instr.loadAt 33 t124) fun t125 =>
  tk Tryd.prog (fun w' => w' = w.drew) (convert 33 9 t125) fun t126 =>
  tk Tryd.prog (fun w' => w' = w.drew) (bin .eql 9 (.tmp 121) (.tmp 126) t121 t126) fun t127 =>
  jn (fun x5 => [x5 14]) (fun k15 =>
  br t127 (fun _ =>
  mv (x4 15) fun t128 =>
  mv t128 fun t14_1 =>
  k15 [t14_1] w.drew) (fun _ =>
  k15 [(x4 14)] w.drew)) fun x5 w =>
  mv (x4 15) fun t116 =>
  o1 Tryd.prog (bin .add 3 (.tmp 116) (.const (.int .i64 1)) t116 (.int .i64 1)) w fun t117 w =>
  mv t117 fun t15_1 =>
  I4 [(x5 14), t15_1] w ∧ μ4 [(x5 14), t15_1] w < μ4 [x4 14, x4 15] w3) (fun _ =>
  mv (x4 14) fun t129 =>
  tk Tryd.prog (fun w' => w' = w.drew) (bin .lss 3 (.tmp 129) (.const (.int .i64 0)) t129 (.int .i64 0)) fun t130 =>
  mv t130 fun t131 =>
  gdT t131 false (fun k16 => mv (x3 12) k16) fun t132 =>
  gdT t131 false (fun k17 => tk Tryd.prog (fun w' => w' = w.drew) (bin .geq 3 (.tmp 132) (.const (.int .i64 0)) t132 (.int .i64 0)) k17) fun t133 =>
  gdT t131 false (fun k18 => mv t133 k18) fun t134 =>
  gdT t134 true (fun k19 => mv (x1 6) k19) fun t135 =>
  gdT t134 true (fun k20 => mv (x4 14) k20) fun t136 =>
  gdT t134 true (fun k21 => tk Tryd.prog (fun w' => w' = w.drew) (Instr.indexAt 31 t135 t136) k21) fun t137 =>
  gdT t134 true (fun k22 => tk Tryd.prog (fun w' => w' = w.drew) (Instr.loadAt 3 t137) k22) fun t138 =>
  gdT t134 true (fun k23 => mv (x1 6) k23) fun t139 =>
  gdT t134 true (fun k24 => mv (x3 12) k24) fun t140 =>
  gdT t134 true (fun k25 => tk Tryd.prog (fun w' => w' = w.drew) (Instr.indexAt 31 t139 t140) k25) fun t141 =>
  gdT t134 true (fun k26 => tk Tryd.prog (fun w' => w' = w.drew) (Instr.loadAt 3 t141) k26) fun t142 =>
  gdT t134 true (fun k27 => tk Tryd.prog (fun w' => w' = w.drew) (bin .gtr 3 (.tmp 138) (.tmp 142) t138 t142) k27) fun t143 =>
  gdT t134 true (fun k28 => mv t143 k28) fun t144 =>
  gdT t144 false (fun k29 => mv (x1 6) k29) fun t145 =>
  gdT t144 false (fun k30 => mv (x4 14) k30) fun t146 =>
  gdT t144 false (fun k31 => tk Tryd.prog (fun w' => w' = w.drew) (Instr.indexAt 31 t145 t146) k31) fun t147 =>
  gdT t144 false (fun k32 => tk Tryd.prog (fun w' => w' = w.drew) (Instr.loadAt 3 t147) k32) fun t148 =>
  gdT t144 false (fun k33 => mv (x1 6) k33) fun t149 =>
  gdT t144 false (fun k34 => mv (x3 12) k34) fun t150 =>
  gdT t144 false (fun k35 => tk Tryd.prog (fun w' => w' = w.drew) (Instr.indexAt 31 t149 t150) k35) fun t151 =>
  gdT t144 false (fun k36 => tk Tryd.prog (fun w' => w' = w.drew) (Instr.loadAt 3 t151) k36) fun t152 =>
  gdT t144 false (fun k37 => tk Tryd.prog (fun w' => w' = w.drew) (bin .eql 3 (.tmp 148) (.tmp 152) t148 t152) k37) fun t153 =>
  gdT t144 false (fun k38 => mv t153 k38) fun t154 =>
  gdT t154 true (fun k39 => mv (x4 14) k39) fun t155 =>
  gdT t154 true (fun k40 => mv (x3 12) k40) fun t156 =>
  gdT t154 true (fun k41 => tk Tryd.prog (fun w' => w' = w.drew) (bin .lss 3 (.tmp 155) (.tmp 156) t155 t156) k41) fun t157 =>
  gdT t144 false (fun k42 => pk t154 t157 (.bool false) k42) fun t158 =>
  gdT t134 true (fun k43 => pk t144 (.bool true) t158 k43) fun t159 =>
  gdT t131 false (fun k44 => pk t134 t159 (.bool false) k44) fun t160 =>
  pk t131 (.bool true) t160 fun t161 =>
  br t161 (fun _ =>
  mv (.bool false) fun t2_4 =>
  k t2_4 w.drew) (fun _ =>
  mv (x4 14) fun t162 =>
  mv t162 fun t12_1 =>
  mv (x3 13) fun t110 =>
  o1 Tryd.prog (bin .add 3 (.tmp 110) (.const (.int .i64 1)) t110 (.int .i64 1)) w.drew fun t111 w =>
  mv t111 fun t13_1 =>
  I3 [(x3 2), t12_1, t13_1, (x4 14), (x4 15)] w ∧ μ3 [(x3 2), t12_1, t13_1, (x4 14), (x4 15)] w < μ3 [x3 2, x3 12, x3 13, x3 14, x3 15] w2))) (fun _ =>
  C Tryd.prog N.isthmuslaw18_sure #[] w fun t163 w =>
  mv t163 fun t2_5 =>
  k t2_5 w))
def envO (a c d : Value) : Env := fun n => match n with
  | 2 => .bool false
  | 5 => a
  | 6 => c
  | 7 => d
  | _ => undef
theorem order_end {x1 : Env} {nn : Nat} (h2 : x1 2 = .bool false) (h5 : x1 5 = av) (h6 : x1 6 = fv) (h7 : x1 7 = .int .i64 (sumO AF)) (ok : OkP p nn) (inv : OInv p AF) (hAF : AF.length ≤ 60) (hT : Ins L errT.it) (hR : Ins L rndF.it) (hs : Isk.Sep b w (growI textF T.string 1 av (AF.map (·.1)) :: growI nF T.int 1 fv (AF.map (·.2)) :: blkI g T.pool_Pool (poolV p lv kv) :: growI itemF T.pool_item 35 lv p.l :: (listF hashF 32 kv p.known).it :: L)) :
    F.isthmuslaw18_PoolOrder_r (fun r w' => r = .bool true ∧ Isk.Sep b w' L) (.pointer (some ⟨g, 0, none⟩)) (.pointer (some ⟨g, 0, none⟩)) x1 w := by
  have hsum := sumO_le inv.len
  have hsz := inv.size
  have hpl := inv.plen
  unfold F.isthmuslaw18_PoolOrder_r
  simp only [h2, h5, h6, h7]
  refine cl (pool_Take ok (by decide) (by decide) (fun y hy => by have := ok.size; have := ok.b2; have hq := sizeP_mem hy; omega) (hs.sbl (.cons (.tl (.tl .hd)) (.cons (.tl (.tl .hd)) (.cons (.tl (.tl .hd)) .all))))) ?_
  rintro v w hs
  rw [takeP_all (by omega) (by omega)] at hs
  obtain ⟨Av, cv', rfl⟩ := hs.lst_len .gr
  obtain ⟨Aa, ca, rfl⟩ := hs.lst_len (.tl (.tl (.tl (.tl .gr))))
  obtain ⟨Af, cf, rfl⟩ := hs.lst_len (.tl (.tl (.tl (.tl (.tl .gr)))))
  simp only [List.length_map, hpl] at hs ⊢
  repeat (first
   | (with_reducible (first | refine st_lens ?_ | refine st_eqls ?_ | refine st_nels ?_ | refine tk_eqls ?_ | refine tk_nels ?_ | refine mv.mk ?_ | refine nk_p ?_ | refine gdT_i ?_ | refine gdT_ft ?_ | refine gdT_tf ?_ | refine gdT_u ?_ | refine gd_u ?_ | refine gd_ft ?_ | refine gd_tf ?_ | refine gd_i ?_ | refine pk_t ?_ | refine pk_f ?_ | refine br_t ?_ | refine br_f ?_ | refine sp_boxa hs fun g w hs => ?_))
   | (with_reducible ((first | apply st_bin | apply st_ext | apply st_len | apply st_un | apply st_conv | apply st_mki | apply st_fld | apply st_cap | apply st_max | apply st_min | apply st_ixv | apply st_mkf); intro k' hk; simp [go_sem, thenR_ok, bin]; refine hk _ _ ?_; clear hk k'))
   | ((with_reducible (first | apply tk_bin | apply tk_ext | apply tk_len | apply tk_un)); (· intro w; simp [go_sem, bin]; rfl))
   | ((with_reducible apply sp_newr hs); (· kernel_rfl); intro g w hs))
  refine cl (pool_Len (hs.sbl (.cons (.tl .hd) (.cons (.tl .hd) .all)))) ?_
  rintro _ w ⟨rfl, hs⟩
  rw [hpl]
  repeat (first
   | (with_reducible (first | refine st_lens ?_ | refine st_eqls ?_ | refine st_nels ?_ | refine tk_eqls ?_ | refine tk_nels ?_ | refine mv.mk ?_ | refine nk_p ?_ | refine gdT_i ?_ | refine gdT_ft ?_ | refine gdT_tf ?_ | refine gdT_u ?_ | refine gd_u ?_ | refine gd_ft ?_ | refine gd_tf ?_ | refine gd_i ?_ | refine pk_t ?_ | refine pk_f ?_ | refine br_t ?_ | refine br_f ?_ | refine sp_boxa hs fun g w hs => ?_))
   | (with_reducible ((first | apply st_bin | apply st_ext | apply st_len | apply st_un | apply st_conv | apply st_mki | apply st_fld | apply st_cap | apply st_max | apply st_min | apply st_ixv | apply st_mkf); intro k' hk; simp [go_sem, thenR_ok, bin]; refine hk _ _ ?_; clear hk k'))
   | ((with_reducible (first | apply tk_bin | apply tk_ext | apply tk_len | apply tk_un)); (· intro w; simp [go_sem, bin]; rfl))
   | ((with_reducible apply sp_newr hs); (· kernel_rfl); intro g w hs))
  refine cl (pool_Bytes (by omega) (by omega) hs) ?_
  rintro _ w ⟨rfl, hs⟩
  rw [hsz]
  repeat (first
   | (with_reducible (first | refine st_lens ?_ | refine st_eqls ?_ | refine st_nels ?_ | refine tk_eqls ?_ | refine tk_nels ?_ | refine mv.mk ?_ | refine nk_p ?_ | refine gdT_i ?_ | refine gdT_ft ?_ | refine gdT_tf ?_ | refine gdT_u ?_ | refine gd_u ?_ | refine gd_ft ?_ | refine gd_tf ?_ | refine gd_i ?_ | refine pk_t ?_ | refine pk_f ?_ | refine br_t ?_ | refine br_f ?_ | refine sp_boxa hs fun g w hs => ?_))
   | (with_reducible ((first | apply st_bin | apply st_ext | apply st_len | apply st_un | apply st_conv | apply st_mki | apply st_fld | apply st_cap | apply st_max | apply st_min | apply st_ixv | apply st_mkf); intro k' hk; simp [go_sem, thenR_ok, bin]; refine hk _ _ ?_; clear hk k'))
   | ((with_reducible (first | apply tk_bin | apply tk_ext | apply tk_len | apply tk_un)); (· intro w; simp [go_sem, bin]; rfl))
   | ((with_reducible apply sp_newr hs); (· kernel_rfl); intro g w hs))
  replace hs := ((hs.growF (.tl (.tl .hd))).growF (.tl (.tl (.tl (.tl .hd))))).growF (.tl (.tl (.tl (.tl (.tl .hd)))))
  refine lp_by (fun us w' => ∃ (i : Nat) (last : Int) (y1 y2 : Value), us = [.bool false, .int .i64 last, .int .i64 (i : Int), y1, y2] ∧ i ≤ p.l.length ∧ ((i = 0 ∧ last = -1) ∨ ∃ (h0 : 0 < i) (hi : i - 1 < p.l.length), last = p.l[i - 1].came) ∧ Isk.Sep b w' ((listF nF 1 (.slice Af AF.length cf) (AF.map (·.2))).it :: (listF textF 1 (.slice Aa AF.length ca) (AF.map (·.1))).it :: (listF bytesF 1 (.slice Av AF.length cv') (p.l.map (·.b))).it :: blkI g T.pool_Pool (poolV p lv kv) :: growI itemF T.pool_item 35 lv p.l :: (listF hashF 32 kv p.known).it :: L)) (fun us _ => match us with | [_, _, .int _ m, _, _] => AF.length - m.toNat | _ => 0) ⟨0, -1, _, _, rfl, Nat.zero_le _, .inl ⟨rfl, rfl⟩, hs⟩ ?_
  clear hs
  rintro x3 w ⟨i, last, y1, y2, hx3, hi, hlast, hs⟩
  simp only [List.cons.injEq, and_true] at hx3
  simp only [hx3.1, hx3.2.1, hx3.2.2.1, hx3.2.2.2.1, hx3.2.2.2.2]
  repeat (first
   | (with_reducible (first | refine st_lens ?_ | refine st_eqls ?_ | refine st_nels ?_ | refine tk_eqls ?_ | refine tk_nels ?_ | refine mv.mk ?_ | refine nk_p ?_ | refine gdT_i ?_ | refine gdT_ft ?_ | refine gdT_tf ?_ | refine gdT_u ?_ | refine gd_u ?_ | refine gd_ft ?_ | refine gd_tf ?_ | refine gd_i ?_ | refine pk_t ?_ | refine pk_f ?_ | refine br_t ?_ | refine br_f ?_ | refine sp_boxa hs fun g w hs => ?_))
   | (with_reducible ((first | apply st_bin | apply st_ext | apply st_len | apply st_un | apply st_conv | apply st_mki | apply st_fld | apply st_cap | apply st_max | apply st_min | apply st_ixv | apply st_mkf); intro k' hk; simp [go_sem, thenR_ok, bin]; refine hk _ _ ?_; clear hk k'))
   | ((with_reducible (first | apply tk_bin | apply tk_ext | apply tk_len | apply tk_un)); (· intro w; simp [go_sem, bin]; rfl))
   | ((with_reducible apply sp_newr hs); (· kernel_rfl); intro g w hs))
  refine br_split (fun hq => ?_) (fun hq => ?_)
  · have hi' : i < p.l.length := by have := of_decide_eq_true hq; omega
    obtain ⟨c, hc, hc1, hc2, hc3, hc4⟩ := inv.at ok hi'
    obtain ⟨gb, ob, yb, hib, hlb, hs⟩ := hs.el (P := Tryd.prog) (T := T.sl_sl_uint8) (.tl (.tl .hd)) ssT i (by rw [List.length_map]; exact hi')
    simp only [List.getElem_map] at hs
    obtain ⟨bw, hyb, _⟩ := hs.get (Ins.tl Ins.hd)
    subst hyb
    replace hs := (hs.ofBytes (v := bw) (t := p.l[i].b) (.tl .hd)).sbl (L' := (byF bw p.l[i].b).it :: (rngF gb ob [bw]).it :: (listF nF 1 (.slice Af AF.length cf) (AF.map (·.2))).it :: (listF textF 1 (.slice Aa AF.length ca) (AF.map (·.1))).it :: (listF bytesF 1 (.slice Av AF.length cv') (p.l.map (·.b))).it :: blkI g T.pool_Pool (poolV p lv kv) :: growI itemF T.pool_item 35 lv p.l :: (listF hashF 32 kv p.known).it :: L) (.cons .hd (.cons .hd (.drop .all)))
    repeat with_reducible refine mv.mk ?_
    refine lp_by (fun us w' => ∃ (t : Nat), us = [.int .i64 (if c < t then (c : Int) else -1), .int .i64 (t : Int)] ∧ t ≤ AF.length ∧ Isk.Sep b w' ((byF bw p.l[i].b).it :: (rngF gb ob [bw]).it :: (listF nF 1 (.slice Af AF.length cf) (AF.map (·.2))).it :: (listF textF 1 (.slice Aa AF.length ca) (AF.map (·.1))).it :: (listF bytesF 1 (.slice Av AF.length cv') (p.l.map (·.b))).it :: blkI g T.pool_Pool (poolV p lv kv) :: growI itemF T.pool_item 35 lv p.l :: (listF hashF 32 kv p.known).it :: L)) (fun us _ => match us with | [_, .int _ m] => AF.length - m.toNat | _ => 0) ⟨0, rfl, Nat.zero_le _, hs⟩ ?_
    clear hs
    rintro x4 w ⟨t, hx4, ht, hs⟩
    simp only [List.cons.injEq, and_true] at hx4
    simp only [hx4.1, hx4.2]
    repeat (first
     | (with_reducible (first | refine st_lens ?_ | refine st_eqls ?_ | refine st_nels ?_ | refine tk_eqls ?_ | refine tk_nels ?_ | refine mv.mk ?_ | refine nk_p ?_ | refine gdT_i ?_ | refine gdT_ft ?_ | refine gdT_tf ?_ | refine gdT_u ?_ | refine gd_u ?_ | refine gd_ft ?_ | refine gd_tf ?_ | refine gd_i ?_ | refine pk_t ?_ | refine pk_f ?_ | refine br_t ?_ | refine br_f ?_ | refine sp_boxa hs fun g w hs => ?_))
     | (with_reducible ((first | apply st_bin | apply st_ext | apply st_len | apply st_un | apply st_conv | apply st_mki | apply st_fld | apply st_cap | apply st_max | apply st_min | apply st_ixv | apply st_mkf); intro k' hk; simp [go_sem, thenR_ok, bin]; refine hk _ _ ?_; clear hk k'))
     | ((with_reducible (first | apply tk_bin | apply tk_ext | apply tk_len | apply tk_un)); (· intro w; simp [go_sem, bin]; rfl))
     | ((with_reducible apply sp_newr hs); (· kernel_rfl); intro g w hs))
    refine br_split (fun hq => ?_) (fun hq => ?_)
    · have ht' : t < AF.length := by have := of_decide_eq_true hq; omega
      obtain ⟨ga, oa, ya, hia, hla, hs⟩ := hs.el (P := Tryd.prog) (T := T.sl_string) (.tl (.tl (.tl .hd))) strT8 t (by rw [List.length_map]; exact ht')
      have h9 := hs.get (Ins.tl Ins.hd)
      rw [List.getElem_map] at h9
      have hya : ya = [str AF[t].1] := h9
      subst hya
      have hmm := hs.drew.mayr .all
      have hS : ∀ w', w' = w.drew → Mayr _ w' := fun w' e => e.symm ▸ hmm
      repeat with_reducible refine mv.mk ?_
      refine tk_run (hia .i64) ?_
      refine tk_ldx hS .rng (by kernel_rfl) ?_
      repeat with_reducible refine mv.mk ?_
      refine tk_run (hib .i64) ?_
      refine tk_ldx hS (.tl (.tl (.tl .rng))) (by kernel_rfl) ?_
      refine tk_text hS (.tl (.tl .byt)) ?_
      repeat (first
       | (with_reducible (first | refine st_lens ?_ | refine st_eqls ?_ | refine st_nels ?_ | refine tk_eqls ?_ | refine tk_nels ?_ | refine mv.mk ?_ | refine nk_p ?_ | refine gdT_i ?_ | refine gdT_ft ?_ | refine gdT_tf ?_ | refine gdT_u ?_ | refine gd_u ?_ | refine gd_ft ?_ | refine gd_tf ?_ | refine gd_i ?_ | refine pk_t ?_ | refine pk_f ?_ | refine br_t ?_ | refine br_f ?_ | refine sp_boxa hs fun g w hs => ?_))
       | (with_reducible ((first | apply st_bin | apply st_ext | apply st_len | apply st_un | apply st_conv | apply st_mki | apply st_fld | apply st_cap | apply st_max | apply st_min | apply st_ixv | apply st_mkf); intro k' hk; simp [go_sem, thenR_ok, bin]; refine hk _ _ ?_; clear hk k'))
       | ((with_reducible (first | apply tk_bin | apply tk_ext | apply tk_len | apply tk_un)); (· intro w; simp [go_sem, bin]; rfl))
       | ((with_reducible apply sp_newr hs); (· kernel_rfl); intro g w hs))
      replace hs := hs.drew
      refine jn_by (fun us w' => us = [.int .i64 (if c < t + 1 then (c : Int) else -1)] ∧ Isk.Sep b w' ((byF bw p.l[i].b).it :: (rngF gb ob [bw]).it :: (listF nF 1 (.slice Af AF.length cf) (AF.map (·.2))).it :: (listF textF 1 (.slice Aa AF.length ca) (AF.map (·.1))).it :: (listF bytesF 1 (.slice Av AF.length cv') (p.l.map (·.b))).it :: blkI g T.pool_Pool (poolV p lv kv) :: growI itemF T.pool_item 35 lv p.l :: (listF hashF 32 kv p.known).it :: L)) ?_ ?_
      · by_cases heq : AF[t].1 = p.l[i].b
        · rw [decide_eq_true heq]
          repeat (first
           | (with_reducible (first | refine st_lens ?_ | refine st_eqls ?_ | refine st_nels ?_ | refine tk_eqls ?_ | refine tk_nels ?_ | refine mv.mk ?_ | refine nk_p ?_ | refine gdT_i ?_ | refine gdT_ft ?_ | refine gdT_tf ?_ | refine gdT_u ?_ | refine gd_u ?_ | refine gd_ft ?_ | refine gd_tf ?_ | refine gd_i ?_ | refine pk_t ?_ | refine pk_f ?_ | refine br_t ?_ | refine br_f ?_ | refine sp_boxa hs fun g w hs => ?_))
           | (with_reducible ((first | apply st_bin | apply st_ext | apply st_len | apply st_un | apply st_conv | apply st_mki | apply st_fld | apply st_cap | apply st_max | apply st_min | apply st_ixv | apply st_mkf); intro k' hk; simp [go_sem, thenR_ok, bin]; refine hk _ _ ?_; clear hk k'))
           | ((with_reducible (first | apply tk_bin | apply tk_ext | apply tk_len | apply tk_un)); (· intro w; simp [go_sem, bin]; rfl))
           | ((with_reducible apply sp_newr hs); (· kernel_rfl); intro g w hs))
          have := hc4 t ht' heq
          refine ⟨?_, hs.sbl (.drop (.drop .all))⟩
          rw [if_pos (by omega), this]
        · rw [decide_eq_false heq]
          repeat (first
           | (with_reducible (first | refine st_lens ?_ | refine st_eqls ?_ | refine st_nels ?_ | refine tk_eqls ?_ | refine tk_nels ?_ | refine mv.mk ?_ | refine nk_p ?_ | refine gdT_i ?_ | refine gdT_ft ?_ | refine gdT_tf ?_ | refine gdT_u ?_ | refine gd_u ?_ | refine gd_ft ?_ | refine gd_tf ?_ | refine gd_i ?_ | refine pk_t ?_ | refine pk_f ?_ | refine br_t ?_ | refine br_f ?_ | refine sp_boxa hs fun g w hs => ?_))
           | (with_reducible ((first | apply st_bin | apply st_ext | apply st_len | apply st_un | apply st_conv | apply st_mki | apply st_fld | apply st_cap | apply st_max | apply st_min | apply st_ixv | apply st_mkf); intro k' hk; simp [go_sem, thenR_ok, bin]; refine hk _ _ ?_; clear hk k'))
           | ((with_reducible (first | apply tk_bin | apply tk_ext | apply tk_len | apply tk_un)); (· intro w; simp [go_sem, bin]; rfl))
           | ((with_reducible apply sp_newr hs); (· kernel_rfl); intro g w hs))
          refine ⟨?_, hs.sbl (.drop (.drop .all))⟩
          have hne : t ≠ c := fun e => heq (by subst e; exact hc3.symm)
          by_cases h : c < t
          · rw [if_pos h, if_pos (by omega)]
          · rw [if_neg h, if_neg (by omega)]
      · rintro x5 w ⟨hx5, hs⟩
        simp only [List.cons.injEq, and_true] at hx5
        simp only [hx5]
        repeat (first
         | (with_reducible (first | refine st_lens ?_ | refine st_eqls ?_ | refine st_nels ?_ | refine tk_eqls ?_ | refine tk_nels ?_ | refine mv.mk ?_ | refine nk_p ?_ | refine gdT_i ?_ | refine gdT_ft ?_ | refine gdT_tf ?_ | refine gdT_u ?_ | refine gd_u ?_ | refine gd_ft ?_ | refine gd_tf ?_ | refine gd_i ?_ | refine pk_t ?_ | refine pk_f ?_ | refine br_t ?_ | refine br_f ?_ | refine sp_boxa hs fun g w hs => ?_))
         | (with_reducible ((first | apply st_bin | apply st_ext | apply st_len | apply st_un | apply st_conv | apply st_mki | apply st_fld | apply st_cap | apply st_max | apply st_min | apply st_ixv | apply st_mkf); intro k' hk; simp [go_sem, thenR_ok, bin]; refine hk _ _ ?_; clear hk k'))
         | ((with_reducible (first | apply tk_bin | apply tk_ext | apply tk_len | apply tk_un)); (· intro w; simp [go_sem, bin]; rfl))
         | ((with_reducible apply sp_newr hs); (· kernel_rfl); intro g w hs))
        rw [i64_succ (by omega)]
        exact ⟨⟨t + 1, rfl, ht', hs⟩, by simp; omega⟩
    · obtain rfl : t = AF.length := by have := of_decide_eq_false hq; omega
      rw [if_pos hc]
      obtain ⟨gc, oc, yc, hic, hlc, hs⟩ := hs.el (P := Tryd.prog) (T := T.sl_int) (.tl (.tl .hd)) slIT c (by rw [List.length_map]; exact hc)
      have h9 := hs.get (Ins.tl Ins.hd)
      rw [List.getElem_map] at h9
      have hyc : yc = [.int .i64 AF[c].2] := h9
      subst hyc
      have hnext : ((i + 1 = 0 ∧ (c : Int) = -1) ∨ ∃ (h0 : 0 < i + 1) (hi : i + 1 - 1 < p.l.length), (c : Int) = p.l[i + 1 - 1].came) := .inr ⟨by omega, by simpa using hi', by simpa using hc1.symm⟩
      rcases hlast with ⟨hi0, hl0⟩ | ⟨h0, hi1, hl0⟩
      · rw [hl0]
        have hmm := hs.drew.mayr .all
        have hS : ∀ w', w' = w.drew → Mayr _ w' := fun w' e => e.symm ▸ hmm
        repeat (first
         | (with_reducible (first | refine st_lens ?_ | refine st_eqls ?_ | refine st_nels ?_ | refine tk_eqls ?_ | refine tk_nels ?_ | refine mv.mk ?_ | refine nk_p ?_ | refine gdT_i ?_ | refine gdT_ft ?_ | refine gdT_tf ?_ | refine gdT_u ?_ | refine gd_u ?_ | refine gd_ft ?_ | refine gd_tf ?_ | refine gd_i ?_ | refine pk_t ?_ | refine pk_f ?_ | refine br_t ?_ | refine br_f ?_ | refine sp_boxa hs fun g w hs => ?_))
         | (with_reducible ((first | apply st_bin | apply st_ext | apply st_len | apply st_un | apply st_conv | apply st_mki | apply st_fld | apply st_cap | apply st_max | apply st_min | apply st_ixv | apply st_mkf); intro k' hk; simp [go_sem, thenR_ok, bin]; refine hk _ _ ?_; clear hk k'))
         | ((with_reducible (first | apply tk_bin | apply tk_ext | apply tk_len | apply tk_un)); (· intro w; simp [go_sem, bin]; rfl))
         | ((with_reducible apply sp_newr hs); (· kernel_rfl); intro g w hs))
        rw [show decide ((c : Int) < 0) = false by simp]
        repeat (first
         | (with_reducible (first | refine st_lens ?_ | refine st_eqls ?_ | refine st_nels ?_ | refine tk_eqls ?_ | refine tk_nels ?_ | refine mv.mk ?_ | refine nk_p ?_ | refine gdT_i ?_ | refine gdT_ft ?_ | refine gdT_tf ?_ | refine gdT_u ?_ | refine gd_u ?_ | refine gd_ft ?_ | refine gd_tf ?_ | refine gd_i ?_ | refine pk_t ?_ | refine pk_f ?_ | refine br_t ?_ | refine br_f ?_ | refine sp_boxa hs fun g w hs => ?_))
         | (with_reducible ((first | apply st_bin | apply st_ext | apply st_len | apply st_un | apply st_conv | apply st_mki | apply st_fld | apply st_cap | apply st_max | apply st_min | apply st_ixv | apply st_mkf); intro k' hk; simp [go_sem, thenR_ok, bin]; refine hk _ _ ?_; clear hk k'))
         | ((with_reducible (first | apply tk_bin | apply tk_ext | apply tk_len | apply tk_un)); (· intro w; simp [go_sem, bin]; rfl))
         | ((with_reducible apply sp_newr hs); (· kernel_rfl); intro g w hs))
        rw [i64_succ (by omega)]
        exact ⟨⟨i + 1, c, _, _, rfl, hi', hnext, hs.drew.sbl (.drop (.drop (.drop (.drop .all))))⟩, by simp; omega⟩
      · obtain ⟨c2, hcc, d1, d2, d3, _⟩ := inv.at ok hi1
        rw [hl0, d1]
        obtain ⟨gd', od, yd, hid', hld, hs⟩ := hs.el (P := Tryd.prog) (T := T.sl_int) (.tl (.tl (.tl (.tl .hd)))) slIT c2 (by rw [List.length_map]; exact hcc)
        have h9 := hs.get (Ins.tl Ins.hd)
        rw [List.getElem_map] at h9
        have hyd : yd = [.int .i64 AF[c2].2] := h9
        subst hyd
        have hmm := hs.drew.mayr .all
        have hS : ∀ w', w' = w.drew → Mayr _ w' := fun w' e => e.symm ▸ hmm
        have hso := List.pairwise_iff_getElem.1 ok.srt (i - 1) i hi1 hi' (by omega)
        rw [hc1, hc2, d1, d2] at hso
        repeat (first
         | (with_reducible (first | refine st_lens ?_ | refine st_eqls ?_ | refine st_nels ?_ | refine tk_eqls ?_ | refine tk_nels ?_ | refine mv.mk ?_ | refine nk_p ?_ | refine gdT_i ?_ | refine gdT_ft ?_ | refine gdT_tf ?_ | refine gdT_u ?_ | refine gd_u ?_ | refine gd_ft ?_ | refine gd_tf ?_ | refine gd_i ?_ | refine pk_t ?_ | refine pk_f ?_ | refine br_t ?_ | refine br_f ?_ | refine sp_boxa hs fun g w hs => ?_))
         | (with_reducible ((first | apply st_bin | apply st_ext | apply st_len | apply st_un | apply st_conv | apply st_mki | apply st_fld | apply st_cap | apply st_max | apply st_min | apply st_ixv | apply st_mkf); intro k' hk; simp [go_sem, thenR_ok, bin]; refine hk _ _ ?_; clear hk k'))
         | ((with_reducible (first | apply tk_bin | apply tk_ext | apply tk_len | apply tk_un)); (· intro w; simp [go_sem, bin]; rfl))
         | ((with_reducible apply sp_newr hs); (· kernel_rfl); intro g w hs))
        rw [show decide ((c : Int) < 0) = false by simp]
        repeat (first
         | (with_reducible (first | refine st_lens ?_ | refine st_eqls ?_ | refine st_nels ?_ | refine tk_eqls ?_ | refine tk_nels ?_ | refine mv.mk ?_ | refine nk_p ?_ | refine gdT_i ?_ | refine gdT_ft ?_ | refine gdT_tf ?_ | refine gdT_u ?_ | refine gd_u ?_ | refine gd_ft ?_ | refine gd_tf ?_ | refine gd_i ?_ | refine pk_t ?_ | refine pk_f ?_ | refine br_t ?_ | refine br_f ?_ | refine sp_boxa hs fun g w hs => ?_))
         | (with_reducible ((first | apply st_bin | apply st_ext | apply st_len | apply st_un | apply st_conv | apply st_mki | apply st_fld | apply st_cap | apply st_max | apply st_min | apply st_ixv | apply st_mkf); intro k' hk; simp [go_sem, thenR_ok, bin]; refine hk _ _ ?_; clear hk k'))
         | ((with_reducible (first | apply tk_bin | apply tk_ext | apply tk_len | apply tk_un)); (· intro w; simp [go_sem, bin]; rfl))
         | ((with_reducible apply sp_newr hs); (· kernel_rfl); intro g w hs))
        refine tk_run (hic .i64) ?_
        refine gdT_i ?_
        refine tk_ldx hS (.tl (.tl .rng)) (by kernel_rfl) ?_
        repeat (first
         | (with_reducible (first | refine st_lens ?_ | refine st_eqls ?_ | refine st_nels ?_ | refine tk_eqls ?_ | refine tk_nels ?_ | refine mv.mk ?_ | refine nk_p ?_ | refine gdT_i ?_ | refine gdT_ft ?_ | refine gdT_tf ?_ | refine gdT_u ?_ | refine gd_u ?_ | refine gd_ft ?_ | refine gd_tf ?_ | refine gd_i ?_ | refine pk_t ?_ | refine pk_f ?_ | refine br_t ?_ | refine br_f ?_ | refine sp_boxa hs fun g w hs => ?_))
         | (with_reducible ((first | apply st_bin | apply st_ext | apply st_len | apply st_un | apply st_conv | apply st_mki | apply st_fld | apply st_cap | apply st_max | apply st_min | apply st_ixv | apply st_mkf); intro k' hk; simp [go_sem, thenR_ok, bin]; refine hk _ _ ?_; clear hk k'))
         | ((with_reducible (first | apply tk_bin | apply tk_ext | apply tk_len | apply tk_un)); (· intro w; simp [go_sem, bin]; rfl))
         | ((with_reducible apply sp_newr hs); (· kernel_rfl); intro g w hs))
        refine tk_run (hid' .i64) ?_
        refine gdT_i ?_
        refine tk_ldx hS .rng (by kernel_rfl) ?_
        repeat (first
         | (with_reducible (first | refine st_lens ?_ | refine st_eqls ?_ | refine st_nels ?_ | refine tk_eqls ?_ | refine tk_nels ?_ | refine mv.mk ?_ | refine nk_p ?_ | refine gdT_i ?_ | refine gdT_ft ?_ | refine gdT_tf ?_ | refine gdT_u ?_ | refine gd_u ?_ | refine gd_ft ?_ | refine gd_tf ?_ | refine gd_i ?_ | refine pk_t ?_ | refine pk_f ?_ | refine br_t ?_ | refine br_f ?_ | refine sp_boxa hs fun g w hs => ?_))
         | (with_reducible ((first | apply st_bin | apply st_ext | apply st_len | apply st_un | apply st_conv | apply st_mki | apply st_fld | apply st_cap | apply st_max | apply st_min | apply st_ixv | apply st_mkf); intro k' hk; simp [go_sem, thenR_ok, bin]; refine hk _ _ ?_; clear hk k'))
         | ((with_reducible (first | apply tk_bin | apply tk_ext | apply tk_len | apply tk_un)); (· intro w; simp [go_sem, bin]; rfl))
         | ((with_reducible apply sp_newr hs); (· kernel_rfl); intro g w hs))
        rw [show decide (AF[c2].2 < AF[c].2) = false by simp only [decide_eq_false_iff_not]; omega]
        repeat (first
         | (with_reducible (first | refine st_lens ?_ | refine st_eqls ?_ | refine st_nels ?_ | refine tk_eqls ?_ | refine tk_nels ?_ | refine mv.mk ?_ | refine nk_p ?_ | refine gdT_i ?_ | refine gdT_ft ?_ | refine gdT_tf ?_ | refine gdT_u ?_ | refine gd_u ?_ | refine gd_ft ?_ | refine gd_tf ?_ | refine gd_i ?_ | refine pk_t ?_ | refine pk_f ?_ | refine br_t ?_ | refine br_f ?_ | refine sp_boxa hs fun g w hs => ?_))
         | (with_reducible ((first | apply st_bin | apply st_ext | apply st_len | apply st_un | apply st_conv | apply st_mki | apply st_fld | apply st_cap | apply st_max | apply st_min | apply st_ixv | apply st_mkf); intro k' hk; simp [go_sem, thenR_ok, bin]; refine hk _ _ ?_; clear hk k'))
         | ((with_reducible (first | apply tk_bin | apply tk_ext | apply tk_len | apply tk_un)); (· intro w; simp [go_sem, bin]; rfl))
         | ((with_reducible apply sp_newr hs); (· kernel_rfl); intro g w hs))
        refine tk_run (hic .i64) ?_
        refine gdT_i ?_
        refine tk_ldx hS (.tl (.tl .rng)) (by kernel_rfl) ?_
        repeat (first
         | (with_reducible (first | refine st_lens ?_ | refine st_eqls ?_ | refine st_nels ?_ | refine tk_eqls ?_ | refine tk_nels ?_ | refine mv.mk ?_ | refine nk_p ?_ | refine gdT_i ?_ | refine gdT_ft ?_ | refine gdT_tf ?_ | refine gdT_u ?_ | refine gd_u ?_ | refine gd_ft ?_ | refine gd_tf ?_ | refine gd_i ?_ | refine pk_t ?_ | refine pk_f ?_ | refine br_t ?_ | refine br_f ?_ | refine sp_boxa hs fun g w hs => ?_))
         | (with_reducible ((first | apply st_bin | apply st_ext | apply st_len | apply st_un | apply st_conv | apply st_mki | apply st_fld | apply st_cap | apply st_max | apply st_min | apply st_ixv | apply st_mkf); intro k' hk; simp [go_sem, thenR_ok, bin]; refine hk _ _ ?_; clear hk k'))
         | ((with_reducible (first | apply tk_bin | apply tk_ext | apply tk_len | apply tk_un)); (· intro w; simp [go_sem, bin]; rfl))
         | ((with_reducible apply sp_newr hs); (· kernel_rfl); intro g w hs))
        refine tk_run (hid' .i64) ?_
        refine gdT_i ?_
        refine tk_ldx hS .rng (by kernel_rfl) ?_
        repeat (first
         | (with_reducible (first | refine st_lens ?_ | refine st_eqls ?_ | refine st_nels ?_ | refine tk_eqls ?_ | refine tk_nels ?_ | refine mv.mk ?_ | refine nk_p ?_ | refine gdT_i ?_ | refine gdT_ft ?_ | refine gdT_tf ?_ | refine gdT_u ?_ | refine gd_u ?_ | refine gd_ft ?_ | refine gd_tf ?_ | refine gd_i ?_ | refine pk_t ?_ | refine pk_f ?_ | refine br_t ?_ | refine br_f ?_ | refine sp_boxa hs fun g w hs => ?_))
         | (with_reducible ((first | apply st_bin | apply st_ext | apply st_len | apply st_un | apply st_conv | apply st_mki | apply st_fld | apply st_cap | apply st_max | apply st_min | apply st_ixv | apply st_mkf); intro k' hk; simp [go_sem, thenR_ok, bin]; refine hk _ _ ?_; clear hk k'))
         | ((with_reducible (first | apply tk_bin | apply tk_ext | apply tk_len | apply tk_un)); (· intro w; simp [go_sem, bin]; rfl))
         | ((with_reducible apply sp_newr hs); (· kernel_rfl); intro g w hs))
        by_cases hee : AF[c].2 = AF[c2].2
        · rw [show (AF[c].2 == AF[c2].2) = true by simpa using hee]
          repeat (first
           | (with_reducible (first | refine st_lens ?_ | refine st_eqls ?_ | refine st_nels ?_ | refine tk_eqls ?_ | refine tk_nels ?_ | refine mv.mk ?_ | refine nk_p ?_ | refine gdT_i ?_ | refine gdT_ft ?_ | refine gdT_tf ?_ | refine gdT_u ?_ | refine gd_u ?_ | refine gd_ft ?_ | refine gd_tf ?_ | refine gd_i ?_ | refine pk_t ?_ | refine pk_f ?_ | refine br_t ?_ | refine br_f ?_ | refine sp_boxa hs fun g w hs => ?_))
           | (with_reducible ((first | apply st_bin | apply st_ext | apply st_len | apply st_un | apply st_conv | apply st_mki | apply st_fld | apply st_cap | apply st_max | apply st_min | apply st_ixv | apply st_mkf); intro k' hk; simp [go_sem, thenR_ok, bin]; refine hk _ _ ?_; clear hk k'))
           | ((with_reducible (first | apply tk_bin | apply tk_ext | apply tk_len | apply tk_un)); (· intro w; simp [go_sem, bin]; rfl))
           | ((with_reducible apply sp_newr hs); (· kernel_rfl); intro g w hs))
          rw [show decide (c < c2) = false by simp only [decide_eq_false_iff_not]; omega]
          repeat (first
           | (with_reducible (first | refine st_lens ?_ | refine st_eqls ?_ | refine st_nels ?_ | refine tk_eqls ?_ | refine tk_nels ?_ | refine mv.mk ?_ | refine nk_p ?_ | refine gdT_i ?_ | refine gdT_ft ?_ | refine gdT_tf ?_ | refine gdT_u ?_ | refine gd_u ?_ | refine gd_ft ?_ | refine gd_tf ?_ | refine gd_i ?_ | refine pk_t ?_ | refine pk_f ?_ | refine br_t ?_ | refine br_f ?_ | refine sp_boxa hs fun g w hs => ?_))
           | (with_reducible ((first | apply st_bin | apply st_ext | apply st_len | apply st_un | apply st_conv | apply st_mki | apply st_fld | apply st_cap | apply st_max | apply st_min | apply st_ixv | apply st_mkf); intro k' hk; simp [go_sem, thenR_ok, bin]; refine hk _ _ ?_; clear hk k'))
           | ((with_reducible (first | apply tk_bin | apply tk_ext | apply tk_len | apply tk_un)); (· intro w; simp [go_sem, bin]; rfl))
           | ((with_reducible apply sp_newr hs); (· kernel_rfl); intro g w hs))
          rw [i64_succ (by omega)]
          exact ⟨⟨i + 1, c, _, _, rfl, hi', hnext, hs.drew.sbl (.drop (.drop (.drop (.drop (.drop (.drop .all))))))⟩, by simp; omega⟩
        · rw [show (AF[c].2 == AF[c2].2) = false by simpa using hee]
          repeat (first
           | (with_reducible (first | refine st_lens ?_ | refine st_eqls ?_ | refine st_nels ?_ | refine tk_eqls ?_ | refine tk_nels ?_ | refine mv.mk ?_ | refine nk_p ?_ | refine gdT_i ?_ | refine gdT_ft ?_ | refine gdT_tf ?_ | refine gdT_u ?_ | refine gd_u ?_ | refine gd_ft ?_ | refine gd_tf ?_ | refine gd_i ?_ | refine pk_t ?_ | refine pk_f ?_ | refine br_t ?_ | refine br_f ?_ | refine sp_boxa hs fun g w hs => ?_))
           | (with_reducible ((first | apply st_bin | apply st_ext | apply st_len | apply st_un | apply st_conv | apply st_mki | apply st_fld | apply st_cap | apply st_max | apply st_min | apply st_ixv | apply st_mkf); intro k' hk; simp [go_sem, thenR_ok, bin]; refine hk _ _ ?_; clear hk k'))
           | ((with_reducible (first | apply tk_bin | apply tk_ext | apply tk_len | apply tk_un)); (· intro w; simp [go_sem, bin]; rfl))
           | ((with_reducible apply sp_newr hs); (· kernel_rfl); intro g w hs))
          rw [i64_succ (by omega)]
          exact ⟨⟨i + 1, c, _, _, rfl, hi', hnext, hs.drew.sbl (.drop (.drop (.drop (.drop (.drop (.drop .all))))))⟩, by simp; omega⟩
  · repeat with_reducible refine mv.mk ?_
    refine cl (isthmuslaw18_sure hs (.tl (.tl (.tl (.tl (.tl (.tl hT)))))) (.tl (.tl (.tl (.tl (.tl (.tl hR))))))) ?_
    rintro _ w ⟨rfl, hs⟩
    repeat with_reducible refine mv.mk ?_
    exact ⟨rfl, hs.sbl (.drop (.drop (.drop (.drop (.drop (.drop .all))))))⟩
theorem isthmuslaw18_PoolOrder (hs : Isk.Sep b w L) (hT : Ins L errT.it) (hR : Ins L rndF.it) (hl : Ins L (listF act8F 5 av l).it) (hB8 : ∀ x ∈ l, x.tx.length ≤ 1048576) :
    C Tryd.prog N.isthmuslaw18_PoolOrder #[av] w fun r w' => r = .bool true ∧ Isk.Sep b w' L := by
  obtain ⟨Al, cl', rfl⟩ := hs.lst_len hl.lst
  refine C.isthmuslaw18_PoolOrder ?_
  unfold F.isthmuslaw18_PoolOrder
  repeat with_reducible refine mv.mk ?_
  refine cl (pool_New ⟨by decide, by decide⟩ ⟨by decide, by decide⟩ ⟨by decide, by decide⟩ hs) ?_
  rintro _ w ⟨g, rfl, hs⟩
  have ok0 := okP_new (t := 100) (y := 1048576) (c := 0) ⟨by decide, by decide⟩ ⟨by decide, by decide⟩ ⟨by decide, by decide⟩
  replace hs := (hs.grow0 nF T.int 1).grow0 textF T.string 1
  repeat (first
   | (with_reducible (first | refine st_lens ?_ | refine st_eqls ?_ | refine st_nels ?_ | refine tk_eqls ?_ | refine tk_nels ?_ | refine mv.mk ?_ | refine nk_p ?_ | refine gdT_i ?_ | refine gdT_ft ?_ | refine gdT_tf ?_ | refine gdT_u ?_ | refine gd_u ?_ | refine gd_ft ?_ | refine gd_tf ?_ | refine gd_i ?_ | refine pk_t ?_ | refine pk_f ?_ | refine br_t ?_ | refine br_f ?_ | refine sp_boxa hs fun g w hs => ?_))
   | (with_reducible ((first | apply st_bin | apply st_ext | apply st_len | apply st_un | apply st_conv | apply st_mki | apply st_fld | apply st_cap | apply st_max | apply st_min | apply st_ixv | apply st_mkf); intro k' hk; simp [go_sem, thenR_ok, bin]; refine hk _ _ ?_; clear hk k'))
   | ((with_reducible (first | apply tk_bin | apply tk_ext | apply tk_len | apply tk_un)); (· intro w; simp [go_sem, bin]; rfl))
   | ((with_reducible apply sp_newr hs); (· kernel_rfl); intro g w hs))
  refine lp_by (fun us w' => ∃ (i : Nat) (AF : List (Bytes × Int)) (p : PoolD) (lv kv av fv y1 y2 : Value), us = [.bool false, av, fv, .int .i64 (sumO AF), .int .i64 (i : Int), y1, y2] ∧ i ≤ 60 ∧ AF.length ≤ i ∧ OkP p i ∧ OInv p AF ∧ Isk.Sep b w' (growI textF T.string 1 av (AF.map (·.1)) :: growI nF T.int 1 fv (AF.map (·.2)) :: blkI g T.pool_Pool (poolV p lv kv) :: growI itemF T.pool_item 35 lv p.l :: (listF hashF 32 kv p.known).it :: L))
    (fun us _ => match us with | [_, _, _, _, .int _ m, _, _] => 60 - m.toNat | _ => 0) ⟨0, [], newP 100 1048576 0, _, _, _, _, _, _, rfl, by decide, Nat.le_refl _, ok0, ⟨.nil, rfl, rfl, rfl, rfl, fun q hq => (by cases hq)⟩, hs⟩ ?_
  clear hs
  rintro x1 w ⟨i, AF, p, lv, kv, av, fv, y1, y2, hx1, hi, hAF, ok, inv, hs⟩
  simp only [List.cons.injEq, and_true] at hx1
  simp only [hx1.1, hx1.2.1, hx1.2.2.1, hx1.2.2.2.1, hx1.2.2.2.2.1, hx1.2.2.2.2.2.1, hx1.2.2.2.2.2.2]
  have hsum := sumO_le inv.len
  repeat (first
   | (with_reducible (first | refine st_lens ?_ | refine st_eqls ?_ | refine st_nels ?_ | refine tk_eqls ?_ | refine tk_nels ?_ | refine mv.mk ?_ | refine nk_p ?_ | refine gdT_i ?_ | refine gdT_ft ?_ | refine gdT_tf ?_ | refine gdT_u ?_ | refine gd_u ?_ | refine gd_ft ?_ | refine gd_tf ?_ | refine gd_i ?_ | refine pk_t ?_ | refine pk_f ?_ | refine br_t ?_ | refine br_f ?_ | refine sp_boxa hs fun g w hs => ?_))
   | (with_reducible ((first | apply st_bin | apply st_ext | apply st_len | apply st_un | apply st_conv | apply st_mki | apply st_fld | apply st_cap | apply st_max | apply st_min | apply st_ixv | apply st_mkf); intro k' hk; simp [go_sem, thenR_ok, bin]; refine hk _ _ ?_; clear hk k'))
   | ((with_reducible (first | apply tk_bin | apply tk_ext | apply tk_len | apply tk_un)); (· intro w; simp [go_sem, bin]; rfl))
   | ((with_reducible apply sp_newr hs); (· kernel_rfl); intro g w hs))
  by_cases h1 : i < l.length ∧ i < 60
  · obtain ⟨h1, h2⟩ := h1
    rw [decide_eq_true h1]
    repeat (first
     | (with_reducible (first | refine st_lens ?_ | refine st_eqls ?_ | refine st_nels ?_ | refine tk_eqls ?_ | refine tk_nels ?_ | refine mv.mk ?_ | refine nk_p ?_ | refine gdT_i ?_ | refine gdT_ft ?_ | refine gdT_tf ?_ | refine gdT_u ?_ | refine gd_u ?_ | refine gd_ft ?_ | refine gd_tf ?_ | refine gd_i ?_ | refine pk_t ?_ | refine pk_f ?_ | refine br_t ?_ | refine br_f ?_ | refine sp_boxa hs fun g w hs => ?_))
     | (with_reducible ((first | apply st_bin | apply st_ext | apply st_len | apply st_un | apply st_conv | apply st_mki | apply st_fld | apply st_cap | apply st_max | apply st_min | apply st_ixv | apply st_mkf); intro k' hk; simp [go_sem, thenR_ok, bin]; refine hk _ _ ?_; clear hk k'))
     | ((with_reducible (first | apply tk_bin | apply tk_ext | apply tk_len | apply tk_un)); (· intro w; simp [go_sem, bin]; rfl))
     | ((with_reducible apply sp_newr hs); (· kernel_rfl); intro g w hs))
    rw [show decide ((i : Int) < 60) = true by simp; omega]
    repeat (first
     | (with_reducible (first | refine st_lens ?_ | refine st_eqls ?_ | refine st_nels ?_ | refine tk_eqls ?_ | refine tk_nels ?_ | refine mv.mk ?_ | refine nk_p ?_ | refine gdT_i ?_ | refine gdT_ft ?_ | refine gdT_tf ?_ | refine gdT_u ?_ | refine gd_u ?_ | refine gd_ft ?_ | refine gd_tf ?_ | refine gd_i ?_ | refine pk_t ?_ | refine pk_f ?_ | refine br_t ?_ | refine br_f ?_ | refine sp_boxa hs fun g w hs => ?_))
     | (with_reducible ((first | apply st_bin | apply st_ext | apply st_len | apply st_un | apply st_conv | apply st_mki | apply st_fld | apply st_cap | apply st_max | apply st_min | apply st_ixv | apply st_mkf); intro k' hk; simp [go_sem, thenR_ok, bin]; refine hk _ _ ?_; clear hk k'))
     | ((with_reducible (first | apply tk_bin | apply tk_ext | apply tk_len | apply tk_un)); (· intro w; simp [go_sem, bin]; rfl))
     | ((with_reducible apply sp_newr hs); (· kernel_rfl); intro g w hs))
    obtain ⟨g1, o1, cs, hix, hcl, hs⟩ := hs.el (P := Tryd.prog) (T := T.sl_isthmuslaw18_Act) (.tl (.tl (.tl (.tl (.tl hl))))) a8T i h1
    have hxl := hB8 _ (List.getElem_mem h1)
    obtain ⟨Ax, cx, lx, rfl, hs⟩ := act8_open hs (.tl .hd)
    generalize l[i] = x at *
    refine st_of (hix .i64 w) ?_
    repeat (first
     | (with_reducible refine act8.a0 ?_)
     | ((with_reducible apply act8.r0 hs); (· (with_reducible (repeat (first | exact .blk | exact .rng | apply Rng.tl)))))
     | (with_reducible refine act8.c0 ?_)
     | ((with_reducible apply act8.e0); (· first | exact hS | exact hid); (· (with_reducible (repeat (first | exact .blk | exact .rng | apply Rng.tl)))))
     | (with_reducible refine act8.a1 ?_)
     | ((with_reducible apply act8.r1 hs); (· (with_reducible (repeat (first | exact .blk | exact .rng | apply Rng.tl)))))
     | (with_reducible refine act8.c1 ?_)
     | ((with_reducible apply act8.e1); (· first | exact hS | exact hid); (· (with_reducible (repeat (first | exact .blk | exact .rng | apply Rng.tl)))))
     | (with_reducible refine act8.a2 ?_)
     | ((with_reducible apply act8.r2 hs); (· (with_reducible (repeat (first | exact .blk | exact .rng | apply Rng.tl)))))
     | (with_reducible refine act8.c2 ?_)
     | ((with_reducible apply act8.e2); (· first | exact hS | exact hid); (· (with_reducible (repeat (first | exact .blk | exact .rng | apply Rng.tl)))))
     | (with_reducible refine act8.a3 ?_)
     | ((with_reducible apply act8.r3 hs); (· (with_reducible (repeat (first | exact .blk | exact .rng | apply Rng.tl)))))
     | (with_reducible refine act8.c3 ?_)
     | ((with_reducible apply act8.e3); (· first | exact hS | exact hid); (· (with_reducible (repeat (first | exact .blk | exact .rng | apply Rng.tl)))))
     | (with_reducible refine act8.a4 ?_)
     | ((with_reducible apply act8.r4 hs); (· (with_reducible (repeat (first | exact .blk | exact .rng | apply Rng.tl)))))
     | (with_reducible refine act8.c4 ?_)
     | ((with_reducible apply act8.e4); (· first | exact hS | exact hid); (· (with_reducible (repeat (first | exact .blk | exact .rng | apply Rng.tl)))))
     | (with_reducible (first | refine st_lens ?_ | refine st_eqls ?_ | refine st_nels ?_ | refine tk_eqls ?_ | refine tk_nels ?_ | refine mv.mk ?_ | refine nk_p ?_ | refine gdT_i ?_ | refine gdT_ft ?_ | refine gdT_tf ?_ | refine gdT_u ?_ | refine gd_u ?_ | refine gd_ft ?_ | refine gd_tf ?_ | refine gd_i ?_ | refine pk_t ?_ | refine pk_f ?_ | refine br_t ?_ | refine br_f ?_ | refine sp_boxa hs fun g w hs => ?_))
     | (with_reducible ((first | apply st_bin | apply st_ext | apply st_len | apply st_un | apply st_conv | apply st_mki | apply st_fld | apply st_cap | apply st_max | apply st_min | apply st_ixv | apply st_mkf); intro k' hk; simp [go_sem, thenR_ok, bin]; refine hk _ _ ?_; clear hk k'))
     | ((with_reducible (first | apply tk_bin | apply tk_ext | apply tk_len | apply tk_un)); (· intro w; simp [go_sem, bin]; rfl))
     | ((with_reducible apply sp_newr hs); (· kernel_rfl); intro g w hs))
    by_cases hx1000 : 1000 < (x.tx.length : Int)
    · rw [decide_eq_true hx1000]
      repeat (first
       | (with_reducible (first | refine st_lens ?_ | refine st_eqls ?_ | refine st_nels ?_ | refine tk_eqls ?_ | refine tk_nels ?_ | refine mv.mk ?_ | refine nk_p ?_ | refine gdT_i ?_ | refine gdT_ft ?_ | refine gdT_tf ?_ | refine gdT_u ?_ | refine gd_u ?_ | refine gd_ft ?_ | refine gd_tf ?_ | refine gd_i ?_ | refine pk_t ?_ | refine pk_f ?_ | refine br_t ?_ | refine br_f ?_ | refine sp_boxa hs fun g w hs => ?_))
       | (with_reducible ((first | apply st_bin | apply st_ext | apply st_len | apply st_un | apply st_conv | apply st_mki | apply st_fld | apply st_cap | apply st_max | apply st_min | apply st_ixv | apply st_mkf); intro k' hk; simp [go_sem, thenR_ok, bin]; refine hk _ _ ?_; clear hk k'))
       | ((with_reducible (first | apply tk_bin | apply tk_ext | apply tk_len | apply tk_un)); (· intro w; simp [go_sem, bin]; rfl))
       | ((with_reducible apply sp_newr hs); (· kernel_rfl); intro g w hs))
      refine cl (isthmuslaw18_sure hs (.tl (.tl (.tl (.tl (.tl (.tl (.tl (.tl (.tl hT))))))))) (.tl (.tl (.tl (.tl (.tl (.tl (.tl (.tl (.tl hR)))))))))) ?_
      rintro _ w ⟨rfl, hs⟩
      repeat with_reducible refine mv.mk ?_
      exact ⟨rfl, hs.sbl (.drop (.drop (.drop (.drop (.drop (.drop (.drop (.drop (.drop .all)))))))))⟩
    rw [decide_eq_false hx1000]
    refine br_f ?_
    replace hs := hs.drew
    refine dr_can (R := [(rngF g1 o1 (act8V x (.slice Ax x.tx.length cx) lx)).it]) hs (.drop (.drop (.cons .hd .nil))) ?_
    have hS : ∀ w, Mayr [(rngF g1 o1 (act8V x (.slice Ax x.tx.length cx) lx)).it] w → Mayr [(rngF g1 o1 (act8V x (.slice Ax x.tx.length cx) lx)).it] w := fun _ h => h
    repeat with_reducible refine mv.mk ?_
    refine tk_run (hix .i64) ?_
    repeat (first
     | (with_reducible refine act8.a0 ?_)
     | ((with_reducible apply act8.r0 hs); (· (with_reducible (repeat (first | exact .blk | exact .rng | apply Rng.tl)))))
     | (with_reducible refine act8.c0 ?_)
     | ((with_reducible apply act8.e0); (· first | exact hS | exact hid); (· (with_reducible (repeat (first | exact .blk | exact .rng | apply Rng.tl)))))
     | (with_reducible refine act8.a1 ?_)
     | ((with_reducible apply act8.r1 hs); (· (with_reducible (repeat (first | exact .blk | exact .rng | apply Rng.tl)))))
     | (with_reducible refine act8.c1 ?_)
     | ((with_reducible apply act8.e1); (· first | exact hS | exact hid); (· (with_reducible (repeat (first | exact .blk | exact .rng | apply Rng.tl)))))
     | (with_reducible refine act8.a2 ?_)
     | ((with_reducible apply act8.r2 hs); (· (with_reducible (repeat (first | exact .blk | exact .rng | apply Rng.tl)))))
     | (with_reducible refine act8.c2 ?_)
     | ((with_reducible apply act8.e2); (· first | exact hS | exact hid); (· (with_reducible (repeat (first | exact .blk | exact .rng | apply Rng.tl)))))
     | (with_reducible refine act8.a3 ?_)
     | ((with_reducible apply act8.r3 hs); (· (with_reducible (repeat (first | exact .blk | exact .rng | apply Rng.tl)))))
     | (with_reducible refine act8.c3 ?_)
     | ((with_reducible apply act8.e3); (· first | exact hS | exact hid); (· (with_reducible (repeat (first | exact .blk | exact .rng | apply Rng.tl)))))
     | (with_reducible refine act8.a4 ?_)
     | ((with_reducible apply act8.r4 hs); (· (with_reducible (repeat (first | exact .blk | exact .rng | apply Rng.tl)))))
     | (with_reducible refine act8.c4 ?_)
     | ((with_reducible apply act8.e4); (· first | exact hS | exact hid); (· (with_reducible (repeat (first | exact .blk | exact .rng | apply Rng.tl)))))
     | (with_reducible (first | refine st_lens ?_ | refine st_eqls ?_ | refine st_nels ?_ | refine tk_eqls ?_ | refine tk_nels ?_ | refine mv.mk ?_ | refine nk_p ?_ | refine gdT_i ?_ | refine gdT_ft ?_ | refine gdT_tf ?_ | refine gdT_u ?_ | refine gd_u ?_ | refine gd_ft ?_ | refine gd_tf ?_ | refine gd_i ?_ | refine pk_t ?_ | refine pk_f ?_ | refine br_t ?_ | refine br_f ?_ | refine sp_boxa hs fun g w hs => ?_))
     | (with_reducible ((first | apply st_bin | apply st_ext | apply st_len | apply st_un | apply st_conv | apply st_mki | apply st_fld | apply st_cap | apply st_max | apply st_min | apply st_ixv | apply st_mkf); intro k' hk; simp [go_sem, thenR_ok, bin]; refine hk _ _ ?_; clear hk k'))
     | ((with_reducible (first | apply tk_bin | apply tk_ext | apply tk_len | apply tk_un)); (· intro w; simp [go_sem, bin]; rfl))
     | ((with_reducible apply sp_newr hs); (· kernel_rfl); intro g w hs))
    refine tk_run (hix .i64) ?_
    repeat (first
     | (with_reducible refine act8.a0 ?_)
     | ((with_reducible apply act8.r0 hs); (· (with_reducible (repeat (first | exact .blk | exact .rng | apply Rng.tl)))))
     | (with_reducible refine act8.c0 ?_)
     | ((with_reducible apply act8.e0); (· first | exact hS | exact hid); (· (with_reducible (repeat (first | exact .blk | exact .rng | apply Rng.tl)))))
     | (with_reducible refine act8.a1 ?_)
     | ((with_reducible apply act8.r1 hs); (· (with_reducible (repeat (first | exact .blk | exact .rng | apply Rng.tl)))))
     | (with_reducible refine act8.c1 ?_)
     | ((with_reducible apply act8.e1); (· first | exact hS | exact hid); (· (with_reducible (repeat (first | exact .blk | exact .rng | apply Rng.tl)))))
     | (with_reducible refine act8.a2 ?_)
     | ((with_reducible apply act8.r2 hs); (· (with_reducible (repeat (first | exact .blk | exact .rng | apply Rng.tl)))))
     | (with_reducible refine act8.c2 ?_)
     | ((with_reducible apply act8.e2); (· first | exact hS | exact hid); (· (with_reducible (repeat (first | exact .blk | exact .rng | apply Rng.tl)))))
     | (with_reducible refine act8.a3 ?_)
     | ((with_reducible apply act8.r3 hs); (· (with_reducible (repeat (first | exact .blk | exact .rng | apply Rng.tl)))))
     | (with_reducible refine act8.c3 ?_)
     | ((with_reducible apply act8.e3); (· first | exact hS | exact hid); (· (with_reducible (repeat (first | exact .blk | exact .rng | apply Rng.tl)))))
     | (with_reducible refine act8.a4 ?_)
     | ((with_reducible apply act8.r4 hs); (· (with_reducible (repeat (first | exact .blk | exact .rng | apply Rng.tl)))))
     | (with_reducible refine act8.c4 ?_)
     | ((with_reducible apply act8.e4); (· first | exact hS | exact hid); (· (with_reducible (repeat (first | exact .blk | exact .rng | apply Rng.tl)))))
     | (with_reducible (first | refine st_lens ?_ | refine st_eqls ?_ | refine st_nels ?_ | refine tk_eqls ?_ | refine tk_nels ?_ | refine mv.mk ?_ | refine nk_p ?_ | refine gdT_i ?_ | refine gdT_ft ?_ | refine gdT_tf ?_ | refine gdT_u ?_ | refine gd_u ?_ | refine gd_ft ?_ | refine gd_tf ?_ | refine gd_i ?_ | refine pk_t ?_ | refine pk_f ?_ | refine br_t ?_ | refine br_f ?_ | refine sp_boxa hs fun g w hs => ?_))
     | (with_reducible ((first | apply st_bin | apply st_ext | apply st_len | apply st_un | apply st_conv | apply st_mki | apply st_fld | apply st_cap | apply st_max | apply st_min | apply st_ixv | apply st_mkf); intro k' hk; simp [go_sem, thenR_ok, bin]; refine hk _ _ ?_; clear hk k'))
     | ((with_reducible (first | apply tk_bin | apply tk_ext | apply tk_len | apply tk_un)); (· intro w; simp [go_sem, bin]; rfl))
     | ((with_reducible apply sp_newr hs); (· kernel_rfl); intro g w hs))
    refine cl (pool_Add (bts := x.tx) (fee := x.fee) ok (by omega) (by omega) (.tl (.tl (.tl (.tl (.tl (.tl hR)))))) (.tl .hd) (hs.sbl (.cons (.tl (.tl (.tl (.tl (.tl (.tl .hd)))))) (.cons (.tl (.tl (.tl (.tl (.tl (.tl .hd)))))) (.cons (.tl (.tl (.tl (.tl (.tl (.tl .hd)))))) .all))))) ?_
    rintro _ w ⟨gv, e, lv2, kv2, rfl, hs⟩
    refine ⟨hs.mayr (.drop (.drop (.drop (.drop (.drop (.drop (.drop (.cons .hd .nil)))))))), ?_⟩
    have hnx := ok.add x.tx x.fee
    have hcs := inv.add (by omega) (bts := x.tx) (fee := x.fee) (by omega)
    repeat (first
     | (with_reducible (first | refine st_lens ?_ | refine st_eqls ?_ | refine st_nels ?_ | refine tk_eqls ?_ | refine tk_nels ?_ | refine mv.mk ?_ | refine nk_p ?_ | refine gdT_i ?_ | refine gdT_ft ?_ | refine gdT_tf ?_ | refine gdT_u ?_ | refine gd_u ?_ | refine gd_ft ?_ | refine gd_tf ?_ | refine gd_i ?_ | refine pk_t ?_ | refine pk_f ?_ | refine br_t ?_ | refine br_f ?_ | refine sp_boxa hs fun g w hs => ?_))
     | (with_reducible ((first | apply st_bin | apply st_ext | apply st_len | apply st_un | apply st_conv | apply st_mki | apply st_fld | apply st_cap | apply st_max | apply st_min | apply st_ixv | apply st_mkf); intro k' hk; simp [go_sem, thenR_ok, bin]; refine hk _ _ ?_; clear hk k'))
     | ((with_reducible (first | apply tk_bin | apply tk_ext | apply tk_len | apply tk_un)); (· intro w; simp [go_sem, bin]; rfl))
     | ((with_reducible apply sp_newr hs); (· kernel_rfl); intro g w hs))
    refine st_of (err_eql8 hs (.tl .hd)) ?_
    refine jn_by (fun us w' => ∃ (AF : List (Bytes × Int)) (p : PoolD) (lv kv av fv : Value), us = [av, fv, .int .i64 (sumO AF)] ∧ AF.length ≤ i + 1 ∧ OkP p (i + 1) ∧ OInv p AF ∧ Isk.Sep b w' (growI textF T.string 1 av (AF.map (·.1)) :: growI nF T.int 1 fv (AF.map (·.2)) :: blkI g T.pool_Pool (poolV p lv kv) :: growI itemF T.pool_item 35 lv p.l :: (listF hashF 32 kv p.known).it :: L)) ?_ ?_
    · rcases hcs with ⟨q1, q3⟩ | ⟨q3, q4⟩
      · generalize addP p x.tx x.fee = G at *
        obtain ⟨p', gone, E⟩ := G
        simp only at q1 q3 hs hnx ⊢
        rw [q1] at hs hnx
        rw [decide_eq_false q3]
        repeat (first
         | (with_reducible (first | refine st_lens ?_ | refine st_eqls ?_ | refine st_nels ?_ | refine tk_eqls ?_ | refine tk_nels ?_ | refine mv.mk ?_ | refine nk_p ?_ | refine gdT_i ?_ | refine gdT_ft ?_ | refine gdT_tf ?_ | refine gdT_u ?_ | refine gd_u ?_ | refine gd_ft ?_ | refine gd_tf ?_ | refine gd_i ?_ | refine pk_t ?_ | refine pk_f ?_ | refine br_t ?_ | refine br_f ?_ | refine sp_boxa hs fun g w hs => ?_))
         | (with_reducible ((first | apply st_bin | apply st_ext | apply st_len | apply st_un | apply st_conv | apply st_mki | apply st_fld | apply st_cap | apply st_max | apply st_min | apply st_ixv | apply st_mkf); intro k' hk; simp [go_sem, thenR_ok, bin]; refine hk _ _ ?_; clear hk k'))
         | ((with_reducible (first | apply tk_bin | apply tk_ext | apply tk_len | apply tk_un)); (· intro w; simp [go_sem, bin]; rfl))
         | ((with_reducible apply sp_newr hs); (· kernel_rfl); intro g w hs))
        refine ⟨AF, p, lv2, kv2, av, fv, rfl, by omega, hnx, inv, ?_⟩
        exact hs.sbl (.cons (.tl (.tl (.tl (.tl (.tl (.tl (.tl (.tl (.tl .hd))))))))) (.cons (.tl (.tl (.tl (.tl (.tl (.tl (.tl (.tl (.tl .hd))))))))) (.cons (.tl (.tl .hd)) (.cons (.tl (.tl .hd)) (.cons (.tl (.tl .hd)) (.drop (.drop (.drop (.drop (.drop (.drop .all)))))))))))
      · generalize addP p x.tx x.fee = G at *
        obtain ⟨p', gone, E⟩ := G
        simp only at q3 q4 hs hnx ⊢
        subst q3
        rw [decide_eq_true rfl]
        repeat (first
         | (with_reducible (first | refine st_lens ?_ | refine st_eqls ?_ | refine st_nels ?_ | refine tk_eqls ?_ | refine tk_nels ?_ | refine mv.mk ?_ | refine nk_p ?_ | refine gdT_i ?_ | refine gdT_ft ?_ | refine gdT_tf ?_ | refine gdT_u ?_ | refine gd_u ?_ | refine gd_ft ?_ | refine gd_tf ?_ | refine gd_i ?_ | refine pk_t ?_ | refine pk_f ?_ | refine br_t ?_ | refine br_f ?_ | refine sp_boxa hs fun g w hs => ?_))
         | (with_reducible ((first | apply st_bin | apply st_ext | apply st_len | apply st_un | apply st_conv | apply st_mki | apply st_fld | apply st_cap | apply st_max | apply st_min | apply st_ixv | apply st_mkf); intro k' hk; simp [go_sem, thenR_ok, bin]; refine hk _ _ ?_; clear hk k'))
         | ((with_reducible (first | apply tk_bin | apply tk_ext | apply tk_len | apply tk_un)); (· intro w; simp [go_sem, bin]; rfl))
         | ((with_reducible apply sp_newr hs); (· kernel_rfl); intro g w hs))
        refine st_of (hix .i64 w) ?_
        repeat (first
         | (with_reducible refine act8.a0 ?_)
         | ((with_reducible apply act8.r0 hs); (· (with_reducible (repeat (first | exact .blk | exact .rng | apply Rng.tl)))))
         | (with_reducible refine act8.c0 ?_)
         | ((with_reducible apply act8.e0); (· first | exact hS | exact hid); (· (with_reducible (repeat (first | exact .blk | exact .rng | apply Rng.tl)))))
         | (with_reducible refine act8.a1 ?_)
         | ((with_reducible apply act8.r1 hs); (· (with_reducible (repeat (first | exact .blk | exact .rng | apply Rng.tl)))))
         | (with_reducible refine act8.c1 ?_)
         | ((with_reducible apply act8.e1); (· first | exact hS | exact hid); (· (with_reducible (repeat (first | exact .blk | exact .rng | apply Rng.tl)))))
         | (with_reducible refine act8.a2 ?_)
         | ((with_reducible apply act8.r2 hs); (· (with_reducible (repeat (first | exact .blk | exact .rng | apply Rng.tl)))))
         | (with_reducible refine act8.c2 ?_)
         | ((with_reducible apply act8.e2); (· first | exact hS | exact hid); (· (with_reducible (repeat (first | exact .blk | exact .rng | apply Rng.tl)))))
         | (with_reducible refine act8.a3 ?_)
         | ((with_reducible apply act8.r3 hs); (· (with_reducible (repeat (first | exact .blk | exact .rng | apply Rng.tl)))))
         | (with_reducible refine act8.c3 ?_)
         | ((with_reducible apply act8.e3); (· first | exact hS | exact hid); (· (with_reducible (repeat (first | exact .blk | exact .rng | apply Rng.tl)))))
         | (with_reducible refine act8.a4 ?_)
         | ((with_reducible apply act8.r4 hs); (· (with_reducible (repeat (first | exact .blk | exact .rng | apply Rng.tl)))))
         | (with_reducible refine act8.c4 ?_)
         | ((with_reducible apply act8.e4); (· first | exact hS | exact hid); (· (with_reducible (repeat (first | exact .blk | exact .rng | apply Rng.tl)))))
         | (with_reducible (first | refine st_lens ?_ | refine st_eqls ?_ | refine st_nels ?_ | refine tk_eqls ?_ | refine tk_nels ?_ | refine mv.mk ?_ | refine nk_p ?_ | refine gdT_i ?_ | refine gdT_ft ?_ | refine gdT_tf ?_ | refine gdT_u ?_ | refine gd_u ?_ | refine gd_ft ?_ | refine gd_tf ?_ | refine gd_i ?_ | refine pk_t ?_ | refine pk_f ?_ | refine br_t ?_ | refine br_f ?_ | refine sp_boxa hs fun g w hs => ?_))
         | (with_reducible ((first | apply st_bin | apply st_ext | apply st_len | apply st_un | apply st_conv | apply st_mki | apply st_fld | apply st_cap | apply st_max | apply st_min | apply st_ixv | apply st_mkf); intro k' hk; simp [go_sem, thenR_ok, bin]; refine hk _ _ ?_; clear hk k'))
         | ((with_reducible (first | apply tk_bin | apply tk_ext | apply tk_len | apply tk_un)); (· intro w; simp [go_sem, bin]; rfl))
         | ((with_reducible apply sp_newr hs); (· kernel_rfl); intro g w hs))
        refine sp_text (l := x.tx) hs (.tl (.tl (.tl (.tl (.tl (.tl .byt)))))) ?_
        replace hs := hs.fact (f := textF [str x.tx] x.tx) rfl
        refine sp_litv hs strT8 rfl fun v5 w hs => ?_
        refine sp_push (ys := [str x.tx]) (a := x.tx) hs (.tl (.tl (.tl (.tl (.tl (.tl (.tl (.tl (.tl (.tl (.tl .hd))))))))))) strT8 (by exact .sl) (by exact (.tl .hd)) (fun u hu => by simp at hu; subst hu; rfl) (by rw [List.length_map]; omega) (by rw [List.length_map]; omega) fun v6 w hs => ?_
        repeat with_reducible refine mv.mk ?_
        refine st_of (hix .i64 w) ?_
        repeat (first
         | (with_reducible refine act8.a0 ?_)
         | ((with_reducible apply act8.r0 hs); (· (with_reducible (repeat (first | exact .blk | exact .rng | apply Rng.tl)))))
         | (with_reducible refine act8.c0 ?_)
         | ((with_reducible apply act8.e0); (· first | exact hS | exact hid); (· (with_reducible (repeat (first | exact .blk | exact .rng | apply Rng.tl)))))
         | (with_reducible refine act8.a1 ?_)
         | ((with_reducible apply act8.r1 hs); (· (with_reducible (repeat (first | exact .blk | exact .rng | apply Rng.tl)))))
         | (with_reducible refine act8.c1 ?_)
         | ((with_reducible apply act8.e1); (· first | exact hS | exact hid); (· (with_reducible (repeat (first | exact .blk | exact .rng | apply Rng.tl)))))
         | (with_reducible refine act8.a2 ?_)
         | ((with_reducible apply act8.r2 hs); (· (with_reducible (repeat (first | exact .blk | exact .rng | apply Rng.tl)))))
         | (with_reducible refine act8.c2 ?_)
         | ((with_reducible apply act8.e2); (· first | exact hS | exact hid); (· (with_reducible (repeat (first | exact .blk | exact .rng | apply Rng.tl)))))
         | (with_reducible refine act8.a3 ?_)
         | ((with_reducible apply act8.r3 hs); (· (with_reducible (repeat (first | exact .blk | exact .rng | apply Rng.tl)))))
         | (with_reducible refine act8.c3 ?_)
         | ((with_reducible apply act8.e3); (· first | exact hS | exact hid); (· (with_reducible (repeat (first | exact .blk | exact .rng | apply Rng.tl)))))
         | (with_reducible refine act8.a4 ?_)
         | ((with_reducible apply act8.r4 hs); (· (with_reducible (repeat (first | exact .blk | exact .rng | apply Rng.tl)))))
         | (with_reducible refine act8.c4 ?_)
         | ((with_reducible apply act8.e4); (· first | exact hS | exact hid); (· (with_reducible (repeat (first | exact .blk | exact .rng | apply Rng.tl)))))
         | (with_reducible (first | refine st_lens ?_ | refine st_eqls ?_ | refine st_nels ?_ | refine tk_eqls ?_ | refine tk_nels ?_ | refine mv.mk ?_ | refine nk_p ?_ | refine gdT_i ?_ | refine gdT_ft ?_ | refine gdT_tf ?_ | refine gdT_u ?_ | refine gd_u ?_ | refine gd_ft ?_ | refine gd_tf ?_ | refine gd_i ?_ | refine pk_t ?_ | refine pk_f ?_ | refine br_t ?_ | refine br_f ?_ | refine sp_boxa hs fun g w hs => ?_))
         | (with_reducible ((first | apply st_bin | apply st_ext | apply st_len | apply st_un | apply st_conv | apply st_mki | apply st_fld | apply st_cap | apply st_max | apply st_min | apply st_ixv | apply st_mkf); intro k' hk; simp [go_sem, thenR_ok, bin]; refine hk _ _ ?_; clear hk k'))
         | ((with_reducible (first | apply tk_bin | apply tk_ext | apply tk_len | apply tk_un)); (· intro w; simp [go_sem, bin]; rfl))
         | ((with_reducible apply sp_newr hs); (· kernel_rfl); intro g w hs))
        replace hs := hs.fact (f := nF [.int .i64 x.fee] x.fee) rfl
        refine sp_litv hs slIT rfl fun v7 w hs => ?_
        refine sp_push (ys := [.int .i64 x.fee]) (a := x.fee) hs (.tl (.tl (.tl (.tl (.tl (.tl (.tl (.tl (.tl (.tl (.tl (.tl (.tl (.tl .hd)))))))))))))) slIT (by exact .sl) (by exact (.tl .hd)) (fun u hu => by simp at hu; subst hu; rfl) (by rw [List.length_map]; omega) (by rw [List.length_map]; omega) fun v8 w hs => ?_
        repeat with_reducible refine mv.mk ?_
        refine st_of (hix .i64 w) ?_
        repeat (first
         | (with_reducible refine act8.a0 ?_)
         | ((with_reducible apply act8.r0 hs); (· (with_reducible (repeat (first | exact .blk | exact .rng | apply Rng.tl)))))
         | (with_reducible refine act8.c0 ?_)
         | ((with_reducible apply act8.e0); (· first | exact hS | exact hid); (· (with_reducible (repeat (first | exact .blk | exact .rng | apply Rng.tl)))))
         | (with_reducible refine act8.a1 ?_)
         | ((with_reducible apply act8.r1 hs); (· (with_reducible (repeat (first | exact .blk | exact .rng | apply Rng.tl)))))
         | (with_reducible refine act8.c1 ?_)
         | ((with_reducible apply act8.e1); (· first | exact hS | exact hid); (· (with_reducible (repeat (first | exact .blk | exact .rng | apply Rng.tl)))))
         | (with_reducible refine act8.a2 ?_)
         | ((with_reducible apply act8.r2 hs); (· (with_reducible (repeat (first | exact .blk | exact .rng | apply Rng.tl)))))
         | (with_reducible refine act8.c2 ?_)
         | ((with_reducible apply act8.e2); (· first | exact hS | exact hid); (· (with_reducible (repeat (first | exact .blk | exact .rng | apply Rng.tl)))))
         | (with_reducible refine act8.a3 ?_)
         | ((with_reducible apply act8.r3 hs); (· (with_reducible (repeat (first | exact .blk | exact .rng | apply Rng.tl)))))
         | (with_reducible refine act8.c3 ?_)
         | ((with_reducible apply act8.e3); (· first | exact hS | exact hid); (· (with_reducible (repeat (first | exact .blk | exact .rng | apply Rng.tl)))))
         | (with_reducible refine act8.a4 ?_)
         | ((with_reducible apply act8.r4 hs); (· (with_reducible (repeat (first | exact .blk | exact .rng | apply Rng.tl)))))
         | (with_reducible refine act8.c4 ?_)
         | ((with_reducible apply act8.e4); (· first | exact hS | exact hid); (· (with_reducible (repeat (first | exact .blk | exact .rng | apply Rng.tl)))))
         | ((with_reducible apply tn_add); (· omega))
         | ((with_reducible apply tn_sub); (· omega))
         | ((with_reducible apply tn_mul); (· omega))
         | ((with_reducible apply sn_add); (· omega))
         | ((with_reducible apply sn_sub); (· omega))
         | ((with_reducible apply sn_mul); (· omega))
         | (with_reducible (first | refine st_lens ?_ | refine st_eqls ?_ | refine st_nels ?_ | refine tk_eqls ?_ | refine tk_nels ?_ | refine mv.mk ?_ | refine nk_p ?_ | refine gdT_i ?_ | refine gdT_ft ?_ | refine gdT_tf ?_ | refine gdT_u ?_ | refine gd_u ?_ | refine gd_ft ?_ | refine gd_tf ?_ | refine gd_i ?_ | refine pk_t ?_ | refine pk_f ?_ | refine br_t ?_ | refine br_f ?_ | refine sp_boxa hs fun g w hs => ?_))
         | (with_reducible ((first | apply st_bin | apply st_ext | apply st_len | apply st_un | apply st_conv | apply st_mki | apply st_fld | apply st_cap | apply st_max | apply st_min | apply st_ixv | apply st_mkf); intro k' hk; simp [go_sem, thenR_ok, bin]; refine hk _ _ ?_; clear hk k'))
         | ((with_reducible (first | apply tk_bin | apply tk_ext | apply tk_len | apply tk_un)); (· intro w; simp [go_sem, bin]; rfl))
         | ((with_reducible apply sp_newr hs); (· kernel_rfl); intro g w hs))
        refine ⟨AF ++ [(x.tx, x.fee)], p', lv2, kv2, v6, v8, ?_, by simp; omega, hnx, q4, ?_⟩
        · rw [show sumO (AF ++ [(x.tx, x.fee)]) = sumO AF + x.tx.length by simp [sumO]]
          push_cast
          rfl
        · rw [List.map_append, List.map_append]
          exact hs.sbl (.cons (.tl (.tl (.tl .hd))) (.cons .hd (.cons (.tl (.tl (.tl (.tl (.tl (.tl .hd)))))) (.cons (.tl (.tl (.tl (.tl (.tl (.tl .hd)))))) (.cons (.tl (.tl (.tl (.tl (.tl (.tl .hd)))))) (.drop (.drop (.drop (.drop (.drop (.drop (.drop (.drop (.drop (.drop .all)))))))))))))))
    · rintro x2 w ⟨AF, p, lv, kv, av, fv, hx2, hAF, ok, inv, hs⟩
      simp only [List.cons.injEq, and_true] at hx2
      simp only [hx2.1, hx2.2.1, hx2.2.2]
      repeat (first
       | (with_reducible (first | refine st_lens ?_ | refine st_eqls ?_ | refine st_nels ?_ | refine tk_eqls ?_ | refine tk_nels ?_ | refine mv.mk ?_ | refine nk_p ?_ | refine gdT_i ?_ | refine gdT_ft ?_ | refine gdT_tf ?_ | refine gdT_u ?_ | refine gd_u ?_ | refine gd_ft ?_ | refine gd_tf ?_ | refine gd_i ?_ | refine pk_t ?_ | refine pk_f ?_ | refine br_t ?_ | refine br_f ?_ | refine sp_boxa hs fun g w hs => ?_))
       | (with_reducible ((first | apply st_bin | apply st_ext | apply st_len | apply st_un | apply st_conv | apply st_mki | apply st_fld | apply st_cap | apply st_max | apply st_min | apply st_ixv | apply st_mkf); intro k' hk; simp [go_sem, thenR_ok, bin]; refine hk _ _ ?_; clear hk k'))
       | ((with_reducible (first | apply tk_bin | apply tk_ext | apply tk_len | apply tk_un)); (· intro w; simp [go_sem, bin]; rfl))
       | ((with_reducible apply sp_newr hs); (· kernel_rfl); intro g w hs))
      rw [i64_succ (by omega)]
      exact ⟨⟨i + 1, AF, p, lv, kv, av, fv, _, _, rfl, by omega, hAF, ok, inv, hs⟩, by simp; omega⟩
  · by_cases h2 : i < l.length
    · rw [decide_eq_true h2]
      repeat (first
       | (with_reducible (first | refine st_lens ?_ | refine st_eqls ?_ | refine st_nels ?_ | refine tk_eqls ?_ | refine tk_nels ?_ | refine mv.mk ?_ | refine nk_p ?_ | refine gdT_i ?_ | refine gdT_ft ?_ | refine gdT_tf ?_ | refine gdT_u ?_ | refine gd_u ?_ | refine gd_ft ?_ | refine gd_tf ?_ | refine gd_i ?_ | refine pk_t ?_ | refine pk_f ?_ | refine br_t ?_ | refine br_f ?_ | refine sp_boxa hs fun g w hs => ?_))
       | (with_reducible ((first | apply st_bin | apply st_ext | apply st_len | apply st_un | apply st_conv | apply st_mki | apply st_fld | apply st_cap | apply st_max | apply st_min | apply st_ixv | apply st_mkf); intro k' hk; simp [go_sem, thenR_ok, bin]; refine hk _ _ ?_; clear hk k'))
       | ((with_reducible (first | apply tk_bin | apply tk_ext | apply tk_len | apply tk_un)); (· intro w; simp [go_sem, bin]; rfl))
       | ((with_reducible apply sp_newr hs); (· kernel_rfl); intro g w hs))
      rw [show decide ((i : Int) < 60) = false by simp; omega]
      repeat (first
       | (with_reducible (first | refine st_lens ?_ | refine st_eqls ?_ | refine st_nels ?_ | refine tk_eqls ?_ | refine tk_nels ?_ | refine mv.mk ?_ | refine nk_p ?_ | refine gdT_i ?_ | refine gdT_ft ?_ | refine gdT_tf ?_ | refine gdT_u ?_ | refine gd_u ?_ | refine gd_ft ?_ | refine gd_tf ?_ | refine gd_i ?_ | refine pk_t ?_ | refine pk_f ?_ | refine br_t ?_ | refine br_f ?_ | refine sp_boxa hs fun g w hs => ?_))
       | (with_reducible ((first | apply st_bin | apply st_ext | apply st_len | apply st_un | apply st_conv | apply st_mki | apply st_fld | apply st_cap | apply st_max | apply st_min | apply st_ixv | apply st_mkf); intro k' hk; simp [go_sem, thenR_ok, bin]; refine hk _ _ ?_; clear hk k'))
       | ((with_reducible (first | apply tk_bin | apply tk_ext | apply tk_len | apply tk_un)); (· intro w; simp [go_sem, bin]; rfl))
       | ((with_reducible apply sp_newr hs); (· kernel_rfl); intro g w hs))
      exact order_end (x1 := envO av fv (.int .i64 (sumO AF))) rfl rfl rfl rfl ok inv (by omega) hT hR hs
    · rw [decide_eq_false h2]
      repeat (first
       | (with_reducible (first | refine st_lens ?_ | refine st_eqls ?_ | refine st_nels ?_ | refine tk_eqls ?_ | refine tk_nels ?_ | refine mv.mk ?_ | refine nk_p ?_ | refine gdT_i ?_ | refine gdT_ft ?_ | refine gdT_tf ?_ | refine gdT_u ?_ | refine gd_u ?_ | refine gd_ft ?_ | refine gd_tf ?_ | refine gd_i ?_ | refine pk_t ?_ | refine pk_f ?_ | refine br_t ?_ | refine br_f ?_ | refine sp_boxa hs fun g w hs => ?_))
       | (with_reducible ((first | apply st_bin | apply st_ext | apply st_len | apply st_un | apply st_conv | apply st_mki | apply st_fld | apply st_cap | apply st_max | apply st_min | apply st_ixv | apply st_mkf); intro k' hk; simp [go_sem, thenR_ok, bin]; refine hk _ _ ?_; clear hk k'))
       | ((with_reducible (first | apply tk_bin | apply tk_ext | apply tk_len | apply tk_un)); (· intro w; simp [go_sem, bin]; rfl))
       | ((with_reducible apply sp_newr hs); (· kernel_rfl); intro g w hs))
      exact order_end (x1 := envO av fv (.int .i64 (sumO AF))) rfl rfl rfl rfl ok inv (by omega) hT hR hs
end
end Go.Proofs.YtgagekffmamldaaDoor
set_option linter.unusedVariables false
set_option linter.unusedSimpArgs false
set_option linter.unusedSectionVars false
namespace Go.Proofs.YtgagekffmamldaaDoor
open Go Go.Isk Go.RowKit
theorem poolOrderW {b : Base} {w : World} {L : List It} {lv : Value} {l : List Act8} (hs : Isk.Sep b w L) (hT : Ins L errT.it) (hR : Ins L rndF.it) (hl : Ins L (listF act8F 5 lv l).it) (hB : (l.map act8M).sum + 1 ≤ 1048576) :
    C Tryd.prog N.isthmuslaw18_PoolOrder #[lv] w fun r w' => r = .bool true ∧ Isk.Sep b w' L :=
  isthmuslaw18_PoolOrder hs hT hR hl fun y hy => by
    have := act8_small hB y hy
    have h2 : y.tx.length + 1 ≤ act8M y := Nat.le_max_left ..
    omega
end Go.Proofs.YtgagekffmamldaaDoor
