/- pool: Take. -/
import Derived.Test.YtgagekffmamldaaGreatDoorPJ
set_option linter.unusedVariables false
set_option linter.unusedSimpArgs false
set_option linter.unusedSectionVars false
namespace Go.Proofs.YtgagekffmamldaaGreatDoor
open Go Go.Isk Go.RowKit
set_option maxRecDepth 20000
/-- what is taken: as many as txs (cnt are taken), as much as by_ -/
def takeP (txs : Int) : Int → Int → List ItemD → List Bytes
  | _, _, [] => []
  | cnt, by_, x :: l => if txs ≤ cnt ∨ by_ < x.b.length then [] else x.b :: takeP txs (cnt + 1) (by_ - x.b.length) l
section
variable {b : Base} {w : World} {L R : List It} {g g3 : Nat} {v sv lv kv : Value} {cs : List Value} {p : PoolD} {x : ItemD} {l h : Bytes} {ls : List ItemD} {n m : Int} {nn : Nat}
theorem ssT : slT Tryz.prog T.sl_sl_uint8 T.sl_uint8 1 24 = true := by kernel_rfl
theorem pool_Take (ok : OkP p nn) (hm1 : -9223372036854775808 ≤ m) (hm2 : m ≤ 9223372036854775807) (hbx : ∀ x ∈ p.l, x.b.length ≤ 1048576) (hs : Isk.Sep b w (blkI g T.pool_Pool (poolV p lv kv) :: growI itemF T.pool_item 35 lv p.l :: (listF hashF 32 kv p.known).it :: L)) :
    C Tryz.prog N.pool_Pool_Take #[.pointer (some ⟨g, 0, none⟩), .int .i64 n, .int .i64 m] w fun r w' => Isk.Sep b w' (growI bytesF T.sl_uint8 1 r (takeP n 0 m p.l) :: blkI g T.pool_Pool (poolV p lv kv) :: growI itemF T.pool_item 35 lv p.l :: (listF hashF 32 kv p.known).it :: L) := by
  obtain ⟨A, c, rfl⟩ := hs.lst_len (.tl .gr)
  have hl1 := ok.len
  have ht2 := ok.t2
  refine C.pool_Pool_Take ?_
  unfold F.pool_Pool_Take
  repeat (first
   | (with_reducible refine pool.a0 ?_)
   | ((with_reducible apply pool.r0 hs); (· (with_reducible (repeat (first | exact .blk | exact .rng | apply Rng.tl)))))
   | (with_reducible refine pool.a3 ?_)
   | ((with_reducible apply pool.r3 hs); (· (with_reducible (repeat (first | exact .blk | exact .rng | apply Rng.tl)))))
   | (with_reducible (first | refine st_lens ?_ | refine st_eqls ?_ | refine mv.mk ?_ | refine nk_p ?_ | refine gd_u ?_ | refine gd_ft ?_ | refine gd_tf ?_ | refine gd_i ?_ | refine pk_t ?_ | refine pk_f ?_ | refine br_t ?_ | refine br_f ?_))
   | (with_reducible ((first | apply st_bin | apply st_len); intro k' hk; simp [go_sem, thenR_ok, bin]; refine hk _ _ ?_; clear hk k'))
   | ((with_reducible apply sp_newr hs); (· kernel_rfl); intro g w hs))
  replace hs := hs.grow0 bytesF T.sl_uint8 1
  refine jn_by (fun us w' => ∃ (y1 y2 v : Value), us = [y1, v, y2] ∧ Isk.Sep b w' (growI bytesF T.sl_uint8 1 v (takeP n 0 m p.l) :: blkI g T.pool_Pool (poolV p (.slice A p.l.length c) kv) :: growI itemF T.pool_item 35 (.slice A p.l.length c) p.l :: (listF hashF 32 kv p.known).it :: L)) ?_ ?_
  · refine lp_by (fun us w' => ∃ (i : Nat) (out : List Bytes) (by_ : Int) (v : Value), us = [.int .i64 by_, v, .int .i64 (i : Int)] ∧ i ≤ p.l.length ∧ out.length = i ∧ by_ ≤ m ∧ m - 1048576 * i ≤ by_ ∧ takeP n 0 m p.l = out ++ takeP n i by_ (p.l.drop i) ∧ Isk.Sep b w' (growI bytesF T.sl_uint8 1 v out :: blkI g T.pool_Pool (poolV p (.slice A p.l.length c) kv) :: growI itemF T.pool_item 35 (.slice A p.l.length c) p.l :: (listF hashF 32 kv p.known).it :: L)) (fun us _ => match us with | [_, _, .int _ m] => p.l.length - m.toNat | _ => 0) ⟨0, [], m, _, rfl, Nat.zero_le _, rfl, Int.le_refl _, by omega, rfl, hs⟩ ?_
    clear hs
    rintro x1 w ⟨i, out, by_, v, hx1, hi, ho, hb1, hb2, htk, hs⟩
    simp only [List.cons.injEq, and_true] at hx1
    simp only [hx1.1, hx1.2.1, hx1.2.2]
    repeat (first
     | (with_reducible (first | refine st_lens ?_ | refine st_eqls ?_ | refine mv.mk ?_ | refine nk_p ?_ | refine gd_u ?_ | refine gd_ft ?_ | refine gd_tf ?_ | refine gd_i ?_ | refine pk_t ?_ | refine pk_f ?_ | refine br_t ?_ | refine br_f ?_))
     | (with_reducible ((first | apply st_bin | apply st_len); intro k' hk; simp [go_sem, thenR_ok, bin]; refine hk _ _ ?_; clear hk k'))
     | ((with_reducible apply sp_newr hs); (· kernel_rfl); intro g w hs))
    refine br_split (fun hq => ?_) (fun hq => ?_)
    · have hi' : i < p.l.length := by have := of_decide_eq_true hq; omega
      have hdr : p.l.drop i = p.l[i] :: p.l.drop (i + 1) := by rw [List.drop_eq_getElem_cons hi']
      have hbl := hbx _ (List.getElem_mem hi')
      refine sp_eln hs (.tl (.tl .gr)) itT (by kernel_rfl) i rfl hi' fun cs hcl hs => ?_
      obtain ⟨bv, rfl, hs⟩ := item_open hs .hd
      obtain ⟨A2, c2, rfl⟩ := by_slice8 hs .hd
      generalize p.l[i] = x at *
      refine sp_newr hs (by kernel_rfl) fun g5 w hs => ?_
      refine sp_setr (ds := itemV x (.slice A2 x.b.length c2)) hs .hd (by kernel_rfl) hcl (pitemC_one rfl (u8s_one _) rfl rfl) fun w hs => ?_
      obtain ⟨A3, c3, rfl⟩ := hs.lst_len (.tl (.tl (.tl .gr)))
      have hH := hB_len x.b
      repeat (first
       | (with_reducible (first | refine st_lens ?_ | refine st_eqls ?_ | refine mv.mk ?_ | refine nk_p ?_ | refine gd_u ?_ | refine gd_ft ?_ | refine gd_tf ?_ | refine gd_i ?_ | refine pk_t ?_ | refine pk_f ?_ | refine br_t ?_ | refine br_f ?_))
       | (with_reducible ((first | apply st_bin | apply st_len); intro k' hk; simp [go_sem, thenR_ok, bin]; refine hk _ _ ?_; clear hk k'))
       | ((with_reducible apply sp_newr hs); (· kernel_rfl); intro g w hs))
      by_cases c1 : n ≤ (out.length : Int)
      · rw [decide_eq_true c1]
        repeat (first
         | (with_reducible (first | refine st_lens ?_ | refine st_eqls ?_ | refine mv.mk ?_ | refine nk_p ?_ | refine gd_u ?_ | refine gd_ft ?_ | refine gd_tf ?_ | refine gd_i ?_ | refine pk_t ?_ | refine pk_f ?_ | refine br_t ?_ | refine br_f ?_))
         | (with_reducible ((first | apply st_bin | apply st_len); intro k' hk; simp [go_sem, thenR_ok, bin]; refine hk _ _ ?_; clear hk k'))
         | ((with_reducible apply sp_newr hs); (· kernel_rfl); intro g w hs))
        have : takeP n 0 m p.l = out := by rw [htk, hdr, takeP, if_pos (.inl (by omega)), List.append_nil]
        rw [this]
        exact ⟨_, _, _, rfl, hs.sbl (.drop (.drop (.drop .all)))⟩
      rw [decide_eq_false c1]
      repeat (first
       | (with_reducible refine pitem.a0 ?_)
       | ((with_reducible apply pitem.r0 hs); (· (with_reducible (repeat (first | exact .blk | exact .rng | apply Rng.tl)))))
       | (with_reducible refine pitem.a3 ?_)
       | ((with_reducible apply pitem.r3 hs); (· (with_reducible (repeat (first | exact .blk | exact .rng | apply Rng.tl)))); (· (with_reducible (first | assumption | exact z32 | exact u8s_len (by assumption)))))
       | (with_reducible (first | refine st_lens ?_ | refine st_eqls ?_ | refine mv.mk ?_ | refine nk_p ?_ | refine gd_u ?_ | refine gd_ft ?_ | refine gd_tf ?_ | refine gd_i ?_ | refine pk_t ?_ | refine pk_f ?_ | refine br_t ?_ | refine br_f ?_))
       | (with_reducible ((first | apply st_bin | apply st_len); intro k' hk; simp [go_sem, thenR_ok, bin]; refine hk _ _ ?_; clear hk k'))
       | ((with_reducible apply sp_newr hs); (· kernel_rfl); intro g w hs))
      by_cases c4 : by_ < (x.b.length : Int)
      · rw [decide_eq_true c4]
        repeat (first
         | (with_reducible (first | refine st_lens ?_ | refine st_eqls ?_ | refine mv.mk ?_ | refine nk_p ?_ | refine gd_u ?_ | refine gd_ft ?_ | refine gd_tf ?_ | refine gd_i ?_ | refine pk_t ?_ | refine pk_f ?_ | refine br_t ?_ | refine br_f ?_))
         | (with_reducible ((first | apply st_bin | apply st_len); intro k' hk; simp [go_sem, thenR_ok, bin]; refine hk _ _ ?_; clear hk k'))
         | ((with_reducible apply sp_newr hs); (· kernel_rfl); intro g w hs))
        have : takeP n 0 m p.l = out := by rw [htk, hdr, takeP, if_pos (.inr c4), List.append_nil]
        rw [this]
        exact ⟨_, _, _, rfl, hs.sbl (.drop (.drop (.drop .all)))⟩
      rw [decide_eq_false c4]
      repeat (first
       | (with_reducible refine pitem.a0 ?_)
       | ((with_reducible apply pitem.r0 hs); (· (with_reducible (repeat (first | exact .blk | exact .rng | apply Rng.tl)))))
       | (with_reducible refine pitem.a3 ?_)
       | ((with_reducible apply pitem.r3 hs); (· (with_reducible (repeat (first | exact .blk | exact .rng | apply Rng.tl)))); (· (with_reducible (first | assumption | exact z32 | exact u8s_len (by assumption)))))
       | (with_reducible (first | refine st_lens ?_ | refine st_eqls ?_ | refine mv.mk ?_ | refine nk_p ?_ | refine gd_u ?_ | refine gd_ft ?_ | refine gd_tf ?_ | refine gd_i ?_ | refine pk_t ?_ | refine pk_f ?_ | refine br_t ?_ | refine br_f ?_))
       | (with_reducible ((first | apply st_bin | apply st_len); intro k' hk; simp [go_sem, thenR_ok, bin]; refine hk _ _ ?_; clear hk k'))
       | ((with_reducible apply sp_newr hs); (· kernel_rfl); intro g w hs))
      rw [show IntKind.i64.wrap (by_ - (x.b.length : Int)) = by_ - (x.b.length : Int) by simp [IntKind.wrap, IntKind.signed, IntKind.bits]; omega]
      refine cl (slices_Clone_8 (bts := x.b) hs (.tl .hd) (by omega)) ?_
      rintro v7 w hs
      replace hs := hs.rowB .hd
      obtain ⟨A7, c7, rfl⟩ := by_slice8 hs .hd
      replace hs := hs.fact (f := bytesF [.slice A7 x.b.length c7] x.b) ⟨_, rfl, hs.get .hd⟩
      refine sp_litv hs ssT rfl fun v8 w hs => ?_
      refine sp_push (ys := [.slice A7 x.b.length c7]) (a := x.b) hs (.tl (.tl (.tl (.tl (.tl (.tl .hd)))))) ssT (by exact .sl) (by exact (.tl .hd)) (fun u hu => by simp at hu; subst hu; rfl) (by omega) (by omega) fun v9 w hs => ?_
      repeat (first
       | (with_reducible (first | refine st_lens ?_ | refine st_eqls ?_ | refine mv.mk ?_ | refine nk_p ?_ | refine gd_u ?_ | refine gd_ft ?_ | refine gd_tf ?_ | refine gd_i ?_ | refine pk_t ?_ | refine pk_f ?_ | refine br_t ?_ | refine br_f ?_))
       | (with_reducible ((first | apply st_bin | apply st_len); intro k' hk; simp [go_sem, thenR_ok, bin]; refine hk _ _ ?_; clear hk k'))
       | ((with_reducible apply sp_newr hs); (· kernel_rfl); intro g w hs))
      rw [i64_succ (by omega)]
      refine ⟨⟨i + 1, out ++ [x.b], _, v9, rfl, hi', by simp [ho], by omega, by omega, ?_, hs.sbl (.cons .hd (.drop (.drop (.drop (.drop (.drop (.drop .all)))))))⟩, by simp; omega⟩
      rw [htk, hdr, takeP, if_neg (by omega)]
      simp
    · obtain rfl : i = p.l.length := by have := of_decide_eq_false hq; omega
      repeat with_reducible refine mv.mk ?_
      have : takeP n 0 m p.l = out := by rw [htk, List.drop_length, takeP, List.append_nil]
      rw [this]
      exact ⟨_, _, _, rfl, hs⟩
  · rintro x2 w ⟨y1, y2, v, hx2, hs⟩
    simp only [List.cons.injEq, and_true] at hx2
    simp only [hx2.2.1]
    repeat with_reducible refine mv.mk ?_
    exact hs
end
end Go.Proofs.YtgagekffmamldaaGreatDoor
set_option linter.unusedVariables false
set_option linter.unusedSimpArgs false
set_option linter.unusedSectionVars false
namespace Go.Proofs.YtgagekffmamldaaGreatDoor
open Go Go.Isk Go.RowKit
def itemsO (AF : List (Bytes × Int)) : List ItemD := AF.zipIdx.map fun q => ⟨q.1.1, q.1.2, (q.2 : Int)⟩
theorem itemsO_app (AF : List (Bytes × Int)) (q : Bytes × Int) : itemsO (AF ++ [q]) = itemsO AF ++ [⟨q.1, q.2, (AF.length : Int)⟩] := by
  unfold itemsO
  rw [List.zipIdx_append, List.map_append]
  simp
theorem itemsO_len (AF : List (Bytes × Int)) : (itemsO AF).length = AF.length := by simp [itemsO]
theorem itemsO_get (AF : List (Bytes × Int)) (k : Nat) (h : k < AF.length) : (itemsO AF)[k]? = some ⟨AF[k].1, AF[k].2, (k : Int)⟩ := by
  unfold itemsO
  rw [List.getElem?_map, List.getElem?_zipIdx, List.getElem?_eq_getElem h]
  simp
def sumO (AF : List (Bytes × Int)) : Nat := (AF.map fun q => q.1.length).sum
theorem sizeO (AF : List (Bytes × Int)) : sizeP (itemsO AF) = sumO AF := by
  unfold sizeP sumO itemsO
  rw [List.map_map]
  have : ∀ (AF : List (Bytes × Int)) (n : Nat), (AF.zipIdx n).map ((fun x : ItemD => x.b.length) ∘ fun q => ⟨q.1.1, q.1.2, (q.2 : Int)⟩) = AF.map fun q => q.1.length := fun AF => by
    induction AF with
    | nil => intro n; rfl
    | cons q AF ih => intro n; simp only [List.zipIdx_cons, List.map_cons, ih]; rfl
  rw [this]
structure OInv (p : PoolD) (AF : List (Bytes × Int)) : Prop where
  perm : p.l.Perm (itemsO AF)
  came : p.came = AF.length
  txs : p.txs = 100
  by_ : p.bytes = 1048576
  ca : p.cache = 0
  len : ∀ q ∈ AF, q.1.length ≤ 1000
theorem sumO_le {AF : List (Bytes × Int)} (h : ∀ q ∈ AF, q.1.length ≤ 1000) : sumO AF ≤ 1000 * AF.length := by
  unfold sumO
  induction AF with
  | nil => simp
  | cons q AF ih =>
    have h1 := h q (List.mem_cons_self ..)
    have h2 := ih fun z hz => h z (List.mem_cons_of_mem _ hz)
    simp only [List.map_cons, List.sum_cons, List.length_cons]
    omega
theorem OInv.size {p : PoolD} {AF : List (Bytes × Int)} (h : OInv p AF) : sizeP p.l = sumO AF := by rw [sizeP_perm h.perm, sizeO]
theorem OInv.plen {p : PoolD} {AF : List (Bytes × Int)} (h : OInv p AF) : p.l.length = AF.length := by rw [h.perm.length_eq, itemsO_len]
theorem OInv.add {p : PoolD} {AF : List (Bytes × Int)} (h : OInv p AF) (hl : AF.length ≤ 59) {bts : Bytes} {fee : Int} (hb : bts.length ≤ 1000) :
    ((addP p bts fee).1 = p ∧ (addP p bts fee).2.2 ≠ 0) ∨ ((addP p bts fee).2.2 = 0 ∧ OInv (addP p bts fee).1 (AF ++ [(bts, fee)])) := by
  by_cases h1 : bts = [] ∨ fee < 0
  · rw [addP_0 h1]; exact .inl ⟨rfl, fun h => by cases h⟩
  by_cases h2 : knowsP p (hB bts) = true
  · rw [addP_9 h1 h2]; exact .inl ⟨rfl, fun h => by cases h⟩
  by_cases h3 : p.bytes < bts.length
  · rw [addP_2 h1 h2 h3]; exact .inl ⟨rfl, fun h => by cases h⟩
  have hs := h.size
  have hp := h.plen
  have hle := sumO_le h.len
  have hc : ¬ (p.txs < (p.l.length : Int) + 1 ∨ p.bytes < (sizeP p.l : Int) + bts.length) := by
    rw [h.txs, h.by_, hs, hp]
    omega
  rw [addP_r h1 h2 h3, room_stop hc]
  refine .inr ⟨rfl, ⟨?_, ?_, h.txs, h.by_, h.ca, ?_⟩⟩
  · rw [itemsO_app]
    show (insP ⟨bts, fee, p.came⟩ p.l).Perm _
    rw [h.came]
    exact (insP_perm _ _).trans (h.perm.append_right _)
  · show p.came + 1 = _
    rw [h.came, List.length_append]
    simp
  · intro q hq
    rcases List.mem_append.1 hq with hq | hq
    · exact h.len q hq
    · simp only [List.mem_cons, List.not_mem_nil, or_false] at hq
      rw [hq]; exact hb
/-- which text it is -/
theorem OInv.at {p : PoolD} {n : Nat} {AF : List (Bytes × Int)} (h : OInv p AF) (ok : OkP p n) {i : Nat} (hi : i < p.l.length) :
    ∃ (c : Nat) (hc : c < AF.length), p.l[i].came = c ∧ p.l[i].fee = AF[c].2 ∧ p.l[i].b = AF[c].1 ∧ ∀ (k : Nat) (hk : k < AF.length), AF[k].1 = p.l[i].b → k = c := by
  have hm : p.l[i] ∈ itemsO AF := h.perm.mem_iff.1 (List.getElem_mem hi)
  obtain ⟨c, hc, he⟩ := List.mem_iff_getElem.1 hm
  rw [itemsO_len] at hc
  have hg := itemsO_get AF c hc
  rw [List.getElem?_eq_getElem (by rw [itemsO_len]; exact hc)] at hg
  have hg := Option.some.inj hg
  rw [he] at hg
  refine ⟨c, hc, by rw [hg], by rw [hg], by rw [hg], fun k hk hb => ?_⟩
  have hnd : ((itemsO AF).map fun x => hB x.b).Nodup := (h.perm.map _).nodup_iff.1 ok.nd
  have hk2 := itemsO_get AF k hk
  rw [List.getElem?_eq_getElem (by rw [itemsO_len]; exact hk)] at hk2
  have hk2 := Option.some.inj hk2
  have e1 : ((itemsO AF).map fun x => hB x.b)[k]'(by rw [List.length_map, itemsO_len]; exact hk) = hB p.l[i].b := by rw [List.getElem_map, hk2]; show hB AF[k].1 = _; rw [hb]
  have e2 : ((itemsO AF).map fun x => hB x.b)[c]'(by rw [List.length_map, itemsO_len]; exact hc) = hB p.l[i].b := by rw [List.getElem_map, he]
  rcases Nat.lt_trichotomy k c with hlt | heq | hlt
  · exact absurd (e1.trans e2.symm) (List.pairwise_iff_getElem.1 hnd k c (by rw [List.length_map, itemsO_len]; exact hk) (by rw [List.length_map, itemsO_len]; exact hc) hlt)
  · exact heq
  · exact absurd (e2.trans e1.symm) (List.pairwise_iff_getElem.1 hnd c k (by rw [List.length_map, itemsO_len]; exact hc) (by rw [List.length_map, itemsO_len]; exact hk) hlt)
end Go.Proofs.YtgagekffmamldaaGreatDoor
set_option linter.unusedVariables false
set_option linter.unusedSimpArgs false
set_option linter.unusedSectionVars false
namespace Go.Proofs.YtgagekffmamldaaGreatDoor
open Go Go.Isk Go.RowKit
set_option maxRecDepth 20000
def textF : Fam Bytes := fun cs l => pureF (cs = [str l])
section
variable {b : Base} {w : World} {L R : List It} {g g3 g8 : Nat} {v sv lv kv bv cv e av fv : Value} {cs : List Value} {l : List Act8} {p : PoolD} {AF : List (Bytes × Int)} {n : Int}
theorem strT8 : slT Tryz.prog T.sl_string T.string 1 16 = true := by kernel_rfl
theorem sizeP_mem {l : List ItemD} {y : ItemD} (h : y ∈ l) : y.b.length ≤ sizeP l := by
  unfold sizeP
  induction l with
  | nil => cases h
  | cons z l ih =>
    simp only [List.map_cons, List.sum_cons]
    rcases List.mem_cons.1 h with rfl | h
    · omega
    · have := ih h
      omega
-- no function isthmuslaw18_PoolOrder_r
def envO (a c d : Value) : Env := fun n => match n with
  | 2 => .bool false
  | 5 => a
  | 6 => c
  | 7 => d
  | _ => undef
end
end Go.Proofs.YtgagekffmamldaaGreatDoor
