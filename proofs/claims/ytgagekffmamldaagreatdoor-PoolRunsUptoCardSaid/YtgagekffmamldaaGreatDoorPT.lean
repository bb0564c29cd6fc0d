/- Rows of one's own: an append within the room, at elements of many cells (for slices.Delete in place). -/
import Derived.Test.YtgagekffmamldaaGreatDoorP9
import Derived.Test.YtgagekffmamldaaGreatDoorPC
import Derived.Test.YtgagekffmamldaaGreatDoorPG
set_option linter.unusedVariables false
set_option linter.unusedSimpArgs false
set_option linter.unusedSectionVars false
namespace Go.Isk
open Go Go.RowKit
section
variable {P : Program} {b : Base} {w : World} {L R : List It} {v : Value} {E n sz g : Nat} {xs cs : List Value} {k : Value → World → Prop}
theorem app_roomN {T by_ cap m c : Nat} {T' t : TypeId} {a : Addr} {cur news : List Value} (hT : slT P T E sz by_ = true) (hg : Blk w g t cur) (hl : news.length = m * sz) (hnews : ∀ j u, news[j]? = some u → w.cell? (a.add j) = some u)
    (h1 : ∀ u ∈ news, u.oneCell' = true) (hroom : n + m ≤ cap) (hfit : n * sz + m * sz ≤ cur.length) :
    (Builtin.append_ #[T, T] T' #[.slice (some ⟨g, 0, none⟩) n cap, .slice (some a) m c]).run P w = .ok (.slice (some ⟨g, 0, none⟩) (n + m) cap) (w.setRow g (cur.take (n * sz) ++ news ++ cur.drop (n * sz + m * sz)).toArray) := by
  obtain ⟨ht, _, i, z, hi, hz, hs1, _, _⟩ := slT.spec hT
  have hf := run_firstCells_some (P := P) w i.size m a m c news (by rw [hs1]; exact hl) hnews
  have hst := run_storeCells_at (P := P) g (n * sz) t news 0 cur.toArray w hg (by simp [hl]; omega) h1
  simp only [Nat.add_zero] at hst
  rw [hs1] at hf
  simp [Builtin.append_, run_underlying ht, sizeOf, typeInfo, hi, Builtin.lenOf, hroom, hf, Addr.add_lit, hs1, hst, hl]
end
end Go.Isk
set_option linter.unusedVariables false
set_option linter.unusedSimpArgs false
set_option linter.unusedSectionVars false
namespace Go.Proofs.YtgagekffmamldaaGreatDoor
open Go Go.Isk Go.RowKit
set_option maxRecDepth 20000
section
variable {P : Program} {T E by_ sz n c i j m : Nat} {A : Option Addr} {q q2 q3 : IntKind}
theorem slhm_run (hT : slT P T E sz by_ = true) (h1 : i ≤ j) (h2 : j ≤ m) (h3 : m ≤ c) (w : World) : (Instr.sliceAt T (.slice A n c) (some (.int q i)) (some (.int q2 j)) (some (.int q3 m))).run P w = .ok (sliced A i j m sz) w := by
  obtain ⟨e1, hsz, j', z, hj, hz, hs1, hs2, hs3⟩ := slT.spec hT
  have he : P.elem T = E := by simp [Program.elem, e1]
  rw [run_sliceAt_slice w T _ _ _ _ (by rw [e1, he]), run_slice_lhm w T A n c (by rw [e1, he]) q q2 q3 i j m (by omega) (by omega) (by omega) (by omega)]
  simp [sizeOf, typeInfo, he, hj, hs1]
theorem slh_run (hT : slT P T E sz by_ = true) (h1 : i ≤ j) (h2 : j ≤ c) (w : World) : (Instr.sliceAt T (.slice A n c) (some (.int q i)) (some (.int q2 j)) none).run P w = .ok (sliced A i j c sz) w := by
  obtain ⟨e1, hsz, j', z, hj, hz, hs1, hs2, hs3⟩ := slT.spec hT
  have he : P.elem T = E := by simp [Program.elem, e1]
  rw [run_sliceAt_slice w T _ _ _ _ (by rw [e1, he]), run_slice_lh w T A n c (by rw [e1, he]) q q2 i j (by omega) (by omega) (by omega)]
  simp [sizeOf, typeInfo, he, hj, hs1]
end
section
variable {b : Base} {w : World} {L R : List It} {g : Nat} {v : Value} {cs : List Value} {xs : List Value} {n i c : Nat} {k : Value → World → Prop}
theorem slices_Delete_own {A : Option Addr} (ho : w.ownsRow 0 T.pool_item 35 (.slice A n c) n xs) (hi : i < n) (hn : n ≤ 2000000) (h1 : ∀ u ∈ xs, u.oneCell' = true)
    (hk : ∀ v' w', Upd (fun k => (Value.slice A n c).ownBlock = some k) w w' → v'.ownBlock = (Value.slice A n c).ownBlock → w'.ownsRow 0 T.pool_item 35 v' (n - 1) (xs.take (i * 35) ++ xs.drop ((i + 1) * 35)) → k v' w') :
    C Tryz.prog N.slices_Delete_pool_item_pool_item #[.slice A n c, .int .i64 i, .int .i64 ((i + 1 : Nat) : Int)] w k := by
  refine C.slices_Delete_pool_item_pool_item ?_
  unfold F.slices_Delete_pool_item_pool_item
  obtain ⟨hx, ⟨hv, h0⟩ | ⟨g, cap, cur, hv, hB, hb, hcc, hmx, hsz, htk⟩⟩ := ho
  · omega
  cases hv
  have hblk : Blk w g T.pool_item cur.toList := by unfold Blk; rw [hb]
  have hcl : cur.toList.length = c * 35 := by rw [Array.length_toList, hsz]
  repeat (first
   | (with_reducible (first | refine st_lens ?_ | refine st_eqls ?_ | refine mv.mk ?_ | refine br_t ?_ | refine br_f ?_))
   | (with_reducible ((first | apply st_bin | apply st_len); intro k' hk; simp [go_sem, thenR_ok, bin]; refine hk _ _ ?_; clear hk k')))
  refine st_of (slhm_run itT (by omega) (by omega) hcc w) ?_
  repeat (first
   | (with_reducible (first | refine st_lens ?_ | refine st_eqls ?_ | refine mv.mk ?_ | refine br_t ?_ | refine br_f ?_))
   | (with_reducible ((first | apply st_bin | apply st_len); intro k' hk; simp [go_sem, thenR_ok, bin]; refine hk _ _ ?_; clear hk k')))
  rw [show ((i : Int) == (i : Int) + 1) = false by simp; omega]
  repeat (first
   | (with_reducible (first | refine st_lens ?_ | refine st_eqls ?_ | refine mv.mk ?_ | refine br_t ?_ | refine br_f ?_))
   | (with_reducible ((first | apply st_bin | apply st_len); intro k' hk; simp [go_sem, thenR_ok, bin]; refine hk _ _ ?_; clear hk k')))
  refine dr_by (fun _ => True) trivial ?_
  repeat with_reducible refine mv.mk ?_
  refine tk_run (slt_run itT (by omega) hcc) ?_
  repeat with_reducible refine mv.mk ?_
  refine tk_run (slf_run itT (by omega) hcc) ?_
  obtain ⟨a', c', hsl, hnews⟩ : ∃ (a' : Addr) (c' : Nat), sliced (some ⟨g, 0, none⟩) (i + 1) n c 35 = .slice (some a') (n - (i + 1)) c' ∧ ∀ j u, (xs.drop ((i + 1) * 35))[j]? = some u → w.drew.cell? (a'.add j) = some u := by
    by_cases he : c = i + 1
    · refine ⟨⟨g, 0, none⟩, c - (i + 1), by simp [sliced, he], fun j u hu => ?_⟩
      rw [List.drop_of_length_le (by rw [hx]; omega)] at hu
      cases hu
    · refine ⟨⟨g, (i + 1) * 35, none⟩, c - (i + 1), by simp [sliced, he, Addr.add_mid], fun j u hu => ?_⟩
      rw [Addr.add_mid]
      have hb2 : Blk w.drew g T.pool_item cur.toList := hblk
      rw [hb2.cell]
      rw [List.getElem?_drop, ← htk, List.getElem?_take] at hu
      split at hu
      · exact hu
      · cases hu
  rw [hsl]
  have hdl : (xs.drop ((i + 1) * 35)).length = (n - (i + 1)) * 35 := by rw [List.length_drop, hx]; omega
  have hrun := app_roomN (P := Tryz.prog) (T' := T.sl_pool_item) (w := w.drew) (c := c') (a := a') itT (show Blk w.drew g T.pool_item cur.toList from hblk) hdl hnews (fun u hu => h1 u (List.mem_of_mem_drop hu)) (show i + (n - (i + 1)) ≤ c by omega) (by omega)
  refine ob_of hrun ?_
  refine ⟨trivial, ?_⟩
  have hb1 : Blk (w.drew.setRow g (cur.toList.take (i * 35) ++ xs.drop ((i + 1) * 35) ++ cur.toList.drop (i * 35 + (n - (i + 1)) * 35)).toArray) g T.pool_item (cur.toList.take (i * 35) ++ xs.drop ((i + 1) * 35) ++ cur.toList.drop (i * 35 + (n - (i + 1)) * 35)) := (show Blk w.drew g T.pool_item cur.toList from hblk).setRow _
  have hlen1 : (cur.toList.take (i * 35) ++ xs.drop ((i + 1) * 35) ++ cur.toList.drop (i * 35 + (n - (i + 1)) * 35)).length = c * 35 := by
    simp only [List.length_append, List.length_take, List.length_drop, hdl, hcl, hx]
    omega
  have htk1 : (cur.toList.take (i * 35) ++ xs.drop ((i + 1) * 35) ++ cur.toList.drop (i * 35 + (n - (i + 1)) * 35)).take ((n - 1) * 35) = xs.take (i * 35) ++ xs.drop ((i + 1) * 35) := by
    rw [List.take_append_of_le_length (by simp only [List.length_append, List.length_take, hdl, hcl]; omega)]
    rw [List.take_of_length_le (by simp only [List.length_append, List.length_take, hdl, hcl]; omega)]
    congr 1
    rw [← htk, List.take_take, Nat.min_eq_left (by omega)]
  have hu1 : Upd (fun k => k = g) w (w.drew.setRow g (cur.toList.take (i * 35) ++ xs.drop ((i + 1) * 35) ++ cur.toList.drop (i * 35 + (n - (i + 1)) * 35)).toArray) := upd_drew.trans (setRow_upd _ g _) fun _ _ h => h
  clear hrun
  generalize (cur.toList.take (i * 35) ++ xs.drop ((i + 1) * 35) ++ cur.toList.drop (i * 35 + (n - (i + 1)) * 35)) = cur1 at *
  generalize w.drew.setRow g cur1.toArray = w1 at *
  rw [show i + (n - (i + 1)) = n - 1 by omega]
  repeat (first
   | (with_reducible (first | refine st_lens ?_ | refine st_eqls ?_ | refine mv.mk ?_ | refine br_t ?_ | refine br_f ?_))
   | (with_reducible ((first | apply st_bin | apply st_len); intro k' hk; simp [go_sem, thenR_ok, bin]; refine hk _ _ ?_; clear hk k')))
  refine st_of (slh_run itT (by omega) (by omega) _) ?_
  have hs2 : sliced (some ⟨g, 0, none⟩) (n - 1) n c 35 = .slice (some ⟨g, (n - 1) * 35, none⟩) 1 (c - (n - 1)) := by
    have hne : ¬ c = n - 1 := by omega
    have h1' : n - (n - 1) = 1 := by omega
    simp [sliced, hne, Addr.add_mid, h1']
  rw [hs2]
  obtain ⟨zs, hzl, hclr⟩ := clr_run (P := Tryz.prog) (t0 := 0) (o := (n - 1) * 35) (m := 1) (c := c - (n - 1)) itT (by kernel_rfl) hb1 (by omega) (by rw [hlen1]; omega)
  refine ob_of hclr ?_
  repeat with_reducible refine mv.mk ?_
  refine hk _ _ ((hu1.trans (setRow_upd _ g _) fun _ _ h => h).mono fun k _ e => by simp [Value.ownBlock, e]) rfl ⟨?_, .inr ⟨g, c, _, rfl, Nat.zero_le _, hb1.setRow _, by omega, hmx, ?_, ?_⟩⟩
  · simp only [List.length_append, List.length_take, hdl, hx]; omega
  · rw [List.size_toArray]
    simp only [List.length_append, List.length_take, List.length_drop, hzl, hlen1]
    omega
  · show List.take ((n - 1) * 35) _ = _
    rw [List.append_assoc, List.take_append_of_le_length (by rw [List.length_take, hlen1]; omega), List.take_take, Nat.min_self]
    exact htk1
theorem allF_app {α : Type} {F : Fam α} {S : Nat → Prop} {w : World} {xss yss : List (List Value)} {ls ms : List α} (h1 : allF F xss ls S w) (h2 : allF F yss ms S w) : allF F (xss ++ yss) (ls ++ ms) S w :=
  ⟨by rw [List.length_append, List.length_append, h1.1, h2.1], fun j hj x hx => by
    by_cases hl : j < ls.length
    · rw [List.getElem?_append_left (by rw [h1.1]; exact hl)] at hx
      rw [List.getElem_append_left hl]
      exact h1.2 j hl x hx
    · rw [List.getElem?_append_right (by rw [h1.1]; omega), h1.1] at hx
      rw [List.getElem_append_right (by omega)]
      exact h2.2 (j - ls.length) (by rw [List.length_append] at hj; omega) x hx⟩
theorem slices_Delete_it {ls : List ItemD} (hs : Isk.Sep b w L) (hm : Has L (growI itemF T.pool_item 35 v ls) R) (hi : i < ls.length) (hn : ls.length ≤ 2000000) :
    C Tryz.prog N.slices_Delete_pool_item_pool_item #[v, .int .i64 i, .int .i64 ((i + 1 : Nat) : Int)] w fun r w' => Isk.Sep b w' (growI itemF T.pool_item 35 r (ls.take i ++ ls.drop (i + 1)) :: R) := by
  obtain ⟨xss, q1, q2, q3⟩ := hs.get hm.ins
  obtain ⟨A, c, rfl, hcap⟩ := own_cap q3
  have hxl : xss.length = ls.length := q1.1
  refine slices_Delete_own q3 hi hn (fun u hu => ?_) fun v' w' hu hv ho => ?_
  · obtain ⟨cs, hcs, hu⟩ := List.mem_flatten.1 hu
    obtain ⟨j, hj, rfl⟩ := List.mem_iff_getElem.1 hcs
    exact (itemF_ok.ok (q1.2 j (by rw [← q1.1]; exact hj) _ (List.getElem?_eq_getElem hj))).2 u hu
  · have hfl : xss.flatten.take (i * 35) ++ xss.flatten.drop ((i + 1) * 35) = (xss.take i ++ xss.drop (i + 1)).flatten := by
      rw [List.flatten_append, flat_take q2 i (by omega), flatten_drop (i + 1) q2 (by omega)]
    rw [hfl] at ho
    have hlen : (ls.take i ++ ls.drop (i + 1)).length = ls.length - 1 := by rw [List.length_append, List.length_take, List.length_drop]; omega
    have hS : ∀ k, Stb w L k → ¬ (Value.slice A ls.length c).ownBlock = some k := fun k hk e => hk.2 ⟨_, hm.ins.mem, by simp [growI, e]⟩
    have hall := allF_app (allF_take q1 i) (q1.drop (i + 1))
    refine hs.turn hm hu (fun k _ e => by simp [growI, e]) (fun k hk => ⟨own_ids ho k hk, .inl ?_⟩) ⟨xss.take i ++ xss.drop (i + 1), (hall.keep hu hS).mono fun k hk _ => ⟨Nat.lt_of_lt_of_le hk.1 hu.size, fun hmm => ?_⟩, fun x hx => ?_, by rw [hlen]; exact ho⟩
    · simpa [growI, hv] using hk
    · rcases mine_app.1 (show Mine ([growI itemF T.pool_item 35 v' (ls.take i ++ ls.drop (i + 1))] ++ R) k from hmm) with h5 | h5
      · have h5 : v'.ownBlock = some k := by simpa [growI] using mine_one.1 h5
        exact hS k hk (hv ▸ h5)
      · exact hk.2 ((mine_perm hm.perm k).2 (mine_app.2 (Or.inr h5) : Mine ([growI itemF T.pool_item 35 (.slice A ls.length c) ls] ++ R) k))
    · rcases List.mem_append.1 hx with hx | hx
      · exact q2 x (List.mem_of_mem_take hx)
      · exact q2 x (List.mem_of_mem_drop hx)
end
end Go.Proofs.YtgagekffmamldaaGreatDoor
set_option linter.unusedVariables false
set_option linter.unusedSimpArgs false
set_option linter.unusedSectionVars false
namespace Go.Proofs.YtgagekffmamldaaGreatDoor
open Go Go.Isk Go.RowKit
set_option maxRecDepth 20000
/-- without the first one of a sum -/
def dropI (h : Bytes) (l : List ItemD) : List ItemD := match l.findIdx? fun x => decide (hB x.b = h) with
  | some i => l.take i ++ l.drop (i + 1)
  | none => l
section
variable {b : Base} {w : World} {L R : List It} {g g3 : Nat} {v sv lv kv : Value} {cs : List Value} {p : PoolD} {x : ItemD} {l h : Bytes} {ls : List ItemD}
theorem pool_drop_1 (hs : Isk.Sep b w L) (hx : Ins L (itemF cs x).it) (hh : h.length = 32) (hg : Rng L g3 0 (u8s h)) : C Tryz.prog N.pool_Pool_drop_1 #[.agg cs.toArray, .pointer (some ⟨g3, 0, none⟩)] w fun r w' => r = .bool (decide (hB x.b = h)) ∧ Isk.Sep b w' L := by
  obtain ⟨bv, rfl, hs⟩ := item_open hs hx
  refine C.pool_Pool_drop_1 ?_
  unfold F.pool_Pool_drop_1
  refine sp_boxa hs fun g2 w hs => ?_
  have hH := hB_len x.b
  repeat (first
   | (with_reducible refine pitem.a1 ?_)
   | ((with_reducible apply pitem.r1 hs); (· (with_reducible (repeat (first | exact .blk | exact .rng | apply Rng.tl)))); (· (with_reducible (first | assumption | exact z32 | exact u8s_len (by assumption)))))
   | (with_reducible (first | refine st_eqls ?_ | refine mv.mk ?_ | refine sp_boxa hs fun g w hs => ?_))
   | (with_reducible ((first | apply st_bin); intro k' hk; simp [go_sem, thenR_ok, bin]; refine hk _ _ ?_; clear hk k')))
  refine sp_ldn hs (.tl (.tl hg)) (by kernel_rfl) (by rw [u8s_length, hh]) ?_
  refine st_of (hash_eq hH hh _ _ w) ?_
  repeat with_reducible refine mv.mk ?_
  exact ⟨rfl, hs.sbl (.drop (.drop .all))⟩
theorem pool_drop (hn : p.l.length ≤ 2000000) (hh : h.length = 32) (hs : Isk.Sep b w (blkI g T.pool_Pool (poolV p lv kv) :: growI itemF T.pool_item 35 lv p.l :: L)) :
    C Tryz.prog N.pool_Pool_drop #[.pointer (some ⟨g, 0, none⟩), .agg (u8s h).toArray] w fun r w' => r = .bool (hasP p h) ∧ ∃ lv', Isk.Sep b w' (blkI g T.pool_Pool (poolV { p with l := dropI h p.l } lv' kv) :: growI itemF T.pool_item 35 lv' (dropI h p.l) :: L) := by
  refine C.pool_Pool_drop ?_
  unfold F.pool_Pool_drop
  refine sp_boxa hs fun g3 w hs => ?_
  repeat (first
   | (with_reducible refine pool.a3 ?_)
   | ((with_reducible apply pool.r3 hs); (· (with_reducible (repeat (first | exact .blk | exact .rng | apply Rng.tl)))))
   | (with_reducible (first | refine mv.mk ?_ | refine nk_p ?_ | refine br_t ?_ | refine br_f ?_ | refine sp_boxa hs fun g w hs => ?_))
   | (with_reducible ((first | apply st_bin | apply st_mkf); intro k' hk; simp [go_sem, thenR_ok, bin]; refine hk _ _ ?_; clear hk k')))
  refine C.slices_IndexFunc_pool_item_pool_item ?_
  show IdxBody Tryz.prog T.int T.sl_pool_item T.pool_item _ _ _ _
  refine idx_agg (F := itemF) (p := fun x => decide (hB x.b = h)) (by_ := 72) plT paT itT (by kernel_rfl) hs (.tl (.tl .gr)) (by omega) ?_ ?_
  · intro w i hi xs K hxl hs hK
    refine cv_g (by kernel_rfl) ?_
    refine cl (pool_drop_1 hs .hd hh (.tl .blk)) ?_
    rintro _ w ⟨rfl, hs⟩
    exact hK w (hs.drop .hd)
  · intro w hs
    have hany := idxOf_any (p := fun x : ItemD => decide (hB x.b = h)) (ls := p.l)
    unfold idxOf at hany ⊢
    unfold dropI
    cases hf : p.l.findIdx? fun x => decide (hB x.b = h) with
    | none =>
      rw [hf] at hany
      have hno : hasP p h = false := by unfold hasP; rw [← hany]; rfl
      repeat (first
       | (with_reducible (first | refine mv.mk ?_ | refine nk_p ?_ | refine br_t ?_ | refine br_f ?_ | refine sp_boxa hs fun g w hs => ?_))
       | (with_reducible ((first | apply st_bin | apply st_mkf); intro k' hk; simp [go_sem, thenR_ok, bin]; refine hk _ _ ?_; clear hk k')))
      exact ⟨hno.symm ▸ rfl, lv, hs.drop .hd⟩
    | some i =>
      rw [hf] at hany
      have hyes : hasP p h = true := by unfold hasP; rw [← hany]; simp
      have hi : i < p.l.length := (List.findIdx?_eq_some_iff_getElem.1 hf).1
      repeat (first
       | (with_reducible (first | refine mv.mk ?_ | refine nk_p ?_ | refine br_t ?_ | refine br_f ?_ | refine sp_boxa hs fun g w hs => ?_))
       | (with_reducible ((first | apply st_bin | apply st_mkf); intro k' hk; simp [go_sem, thenR_ok, bin]; refine hk _ _ ?_; clear hk k')))
      rw [show decide ((i : Int) < 0) = false by simp]
      repeat (first
       | (with_reducible refine pool.a3 ?_)
       | ((with_reducible apply pool.r3 hs); (· (with_reducible (repeat (first | exact .blk | exact .rng | apply Rng.tl)))))
       | (with_reducible (first | refine mv.mk ?_ | refine nk_p ?_ | refine br_t ?_ | refine br_f ?_ | refine sp_boxa hs fun g w hs => ?_))
       | (with_reducible ((first | apply st_bin | apply st_mkf); intro k' hk; simp [go_sem, thenR_ok, bin]; refine hk _ _ ?_; clear hk k')))
      rw [i64_succ (by omega)]
      refine cl (slices_Delete_it hs (.tl (.tl .hd)) hi hn) ?_
      rintro v2 w hs
      have hv := hs.gcells .hd
      repeat (first
       | (with_reducible refine pool.a3 ?_)
       | ((with_reducible apply pool.r3 hs); (· (with_reducible (repeat (first | exact .blk | exact .rng | apply Rng.tl)))))
       | (with_reducible (first | refine mv.mk ?_ | refine nk_p ?_ | refine br_t ?_ | refine br_f ?_ | refine sp_boxa hs fun g w hs => ?_))
       | (with_reducible ((first | apply st_bin | apply st_mkf); intro k' hk; simp [go_sem, thenR_ok, bin]; refine hk _ _ ?_; clear hk k')))
      refine sx_st (p := 3) hs (.tl (.tl .hd)) (by kernel_rfl) hv (by simp [poolC]) fun w hs => ?_
      repeat with_reducible refine mv.mk ?_
      exact ⟨hyes.symm ▸ rfl, v2, hs.sbl (.cons .hd (.cons .hd (.drop .all)))⟩
end
end Go.Proofs.YtgagekffmamldaaGreatDoor
set_option linter.unusedVariables false
set_option linter.unusedSimpArgs false
set_option linter.unusedSectionVars false
namespace Go.Proofs.YtgagekffmamldaaGreatDoor
open Go Go.Isk Go.RowKit
set_option maxRecDepth 20000
theorem dropI_no {p : PoolD} {h : Bytes} (hn : hasP p h = false) : dropI h p.l = p.l := by
  unfold dropI
  have : p.l.findIdx? (fun x => decide (hB x.b = h)) = none := by
    rw [List.findIdx?_eq_none_iff]
    intro x hx
    unfold hasP at hn
    rw [List.any_eq_false] at hn
    simpa using hn x hx
  rw [this]
def dropP (p : PoolD) (h : Bytes) : PoolD × Int := if hasP p h = true then ({ p with l := dropI h p.l, known := forgetK h p.known }, 0) else (p, 8)
def doneP (p : PoolD) (t : Bytes) : PoolD := { p with l := dropI (hB t) p.l, known := rememberK p.cache (hB t) p.known }
section
variable {b : Base} {w : World} {L R : List It} {g g3 : Nat} {v sv lv kv tv : Value} {cs : List Value} {p : PoolD} {x : ItemD} {h : Bytes} {ls : List ItemD} {ts : List Bytes}
theorem pool_Drop (hn : p.l.length ≤ 2000000) (hk : p.known.length ≤ 2000000) (hh : h.length = 32) (hs : Isk.Sep b w (blkI g T.pool_Pool (poolV p lv kv) :: growI itemF T.pool_item 35 lv p.l :: (listF hashF 32 kv p.known).it :: L)) :
    C Tryz.prog N.pool_Pool_Drop #[.pointer (some ⟨g, 0, none⟩), .agg (u8s h).toArray] w fun r w' => ∃ lv' kv', Isk.Sep b w' ((errF r (dropP p h).2).it :: blkI g T.pool_Pool (poolV (dropP p h).1 lv' kv') :: growI itemF T.pool_item 35 lv' (dropP p h).1.l :: (listF hashF 32 kv' (dropP p h).1.known).it :: L) := by
  refine C.pool_Pool_Drop ?_
  unfold F.pool_Pool_Drop
  refine sp_boxa hs fun g3 w hs => ?_
  repeat (first
   | (with_reducible (first | refine st_eqls ?_ | refine mv.mk ?_ | refine br_t ?_ | refine br_f ?_ | refine sp_boxa hs fun g w hs => ?_))
   | (with_reducible ((first | apply st_bin | apply st_un); intro k' hk; simp [go_sem, thenR_ok, bin]; refine hk _ _ ?_; clear hk k')))
  refine sp_ldn hs .blk (by kernel_rfl) (by rw [u8s_length, hh]) ?_
  refine cl (pool_drop hn hh (hs.sbl (.cons (.tl .hd) (.cons (.tl .hd) .all)))) ?_
  rintro _ w ⟨rfl, lv2, hs⟩
  unfold dropP
  cases hhp : hasP p h with
  | false =>
    rw [dropI_no hhp] at hs
    repeat (first
     | (with_reducible (first | refine st_eqls ?_ | refine mv.mk ?_ | refine br_t ?_ | refine br_f ?_ | refine sp_boxa hs fun g w hs => ?_))
     | (with_reducible ((first | apply st_bin | apply st_un); intro k' hk; simp [go_sem, thenR_ok, bin]; refine hk _ _ ?_; clear hk k')))
    refine cl (pool_fault (e := 8) (by decide) (by decide) (by decide) (by decide) hs) ?_
    rintro e w hs
    repeat with_reducible refine mv.mk ?_
    exact ⟨lv2, kv, hs.sbl (.cons .hd (.cons .hd (.cons .hd (.drop (.cons .hd .all)))))⟩
  | true =>
    repeat (first
     | (with_reducible (first | refine st_eqls ?_ | refine mv.mk ?_ | refine br_t ?_ | refine br_f ?_ | refine sp_boxa hs fun g w hs => ?_))
     | (with_reducible ((first | apply st_bin | apply st_un); intro k' hk; simp [go_sem, thenR_ok, bin]; refine hk _ _ ?_; clear hk k')))
    refine sp_ldn hs (.tl (.tl .blk)) (by kernel_rfl) (by rw [u8s_length, hh]) ?_
    refine cl (pool_forget (p := { p with l := dropI h p.l }) (by show p.known.length ≤ _; omega) hh hs (.tl (.tl .hd))) ?_
    rintro _ w ⟨rfl, kv2, hs⟩
    repeat with_reducible refine mv.mk ?_
    have h3 := h32 hs (Ins.tl (.tl (.tl (.tl .hd))))
    replace hs := hs.rowF .hd
    have hf := hl_of hs (forgetK_32 h3) (hs.get .hd)
    exact ⟨lv2, kv2, (errF_nil hf).sbl (.cons .hd (.cons (.tl (.tl .hd)) (.cons (.tl (.tl .hd)) (.cons .hd (.drop (.drop (.drop .all)))))))⟩
theorem tsT8 : slT Tryz.prog T.sl_sl_uint8 T.sl_uint8 1 24 = true := by kernel_rfl
theorem dropI_len (h : Bytes) (l : List ItemD) : (dropI h l).length ≤ l.length := by
  unfold dropI
  split
  · rw [List.length_append, List.length_take, List.length_drop]; omega
  · exact Nat.le_refl _
theorem pool_Done (hc : 0 ≤ p.cache) (hc2 : p.cache ≤ 2000000) (hn : p.l.length ≤ 2000000) (hk : (p.known.length : Int) ≤ p.cache) (hR : Ins L rndF.it) (ht : Ins L (listF bytesF 1 tv ts).it) (hts : ts.length ≤ 1000000000) (htb : ∀ t ∈ ts, t.length ≤ 1000000000) (hs : Isk.Sep b w (blkI g T.pool_Pool (poolV p lv kv) :: growI itemF T.pool_item 35 lv p.l :: (listF hashF 32 kv p.known).it :: L)) :
    C Tryz.prog N.pool_Pool_Done #[.pointer (some ⟨g, 0, none⟩), tv] w fun r w' => r = .tuple #[] ∧ ∃ lv' kv', Isk.Sep b w' (blkI g T.pool_Pool (poolV (ts.foldl doneP p) lv' kv') :: growI itemF T.pool_item 35 lv' (ts.foldl doneP p).l :: (listF hashF 32 kv' (ts.foldl doneP p).known).it :: L) := by
  obtain ⟨A, c, rfl⟩ := hs.lst_len (Ins.lst (.tl (.tl (.tl ht))))
  refine C.pool_Pool_Done ?_
  unfold F.pool_Pool_Done
  repeat (first
   | (with_reducible (first | refine st_lens ?_ | refine st_eqls ?_ | refine mv.mk ?_ | refine br_t ?_ | refine br_f ?_))
   | (with_reducible ((first | apply st_bin | apply st_len); intro k' hk; simp [go_sem, thenR_ok, bin]; refine hk _ _ ?_; clear hk k'))
   | ((with_reducible apply sp_newr hs); (· kernel_rfl); intro g w hs))
  refine lp_by (fun us w' => ∃ (i : Nat) (p' : PoolD) (lv kv y : Value), us = [y, .int .i64 (i : Int)] ∧ i ≤ ts.length ∧ p' = (ts.take i).foldl doneP p ∧ p'.cache = p.cache ∧ p'.l.length ≤ 2000000 ∧ (p'.known.length : Int) ≤ p.cache ∧ Isk.Sep b w' (blkI g T.pool_Pool (poolV p' lv kv) :: growI itemF T.pool_item 35 lv p'.l :: (listF hashF 32 kv p'.known).it :: L)) (fun us _ => match us with | [_, .int _ m] => ts.length - m.toNat | _ => 0) ⟨0, p, lv, kv, _, rfl, Nat.zero_le _, rfl, rfl, hn, hk, hs⟩ ?_
  clear hs
  rintro x1 w ⟨i, p', lv, kv, y, hx1, hi, hp, hpc, hpl, hpk, hs⟩
  simp only [List.cons.injEq, and_true] at hx1
  simp only [hx1.1, hx1.2]
  repeat (first
   | (with_reducible (first | refine st_lens ?_ | refine st_eqls ?_ | refine mv.mk ?_ | refine br_t ?_ | refine br_f ?_))
   | (with_reducible ((first | apply st_bin | apply st_len); intro k' hk; simp [go_sem, thenR_ok, bin]; refine hk _ _ ?_; clear hk k'))
   | ((with_reducible apply sp_newr hs); (· kernel_rfl); intro g w hs))
  refine br_split (fun hq => ?_) (fun hq => ?_)
  · have hi' : i < ts.length := by have := of_decide_eq_true hq; omega
    have htl := htb _ (List.getElem_mem hi')
    have hH := hB_len ts[i]
    refine sp_el1 hs (Ins.lst (.tl (.tl (.tl ht)))) tsT8 (by kernel_rfl) i rfl hi' fun v hs => ?_
    replace hs := hs.ofBytes (v := v) (t := ts[i]) .hd
    repeat with_reducible refine mv.mk ?_
    refine cl (txs_Hash (l := ts[i]) hs (.tl (.tl (.tl (.tl (.tl hR))))) .hd (by omega)) ?_
    rintro _ w ⟨rfl, hs⟩
    refine sp_newr hs (by kernel_rfl) fun g6 w hs => ?_
    refine sp_setr (ds := u8s (hB ts[i])) hs .hd (by kernel_rfl) (by rw [u8s_length, hH]) (u8s_one _) fun w hs => ?_
    repeat with_reducible refine mv.mk ?_
    refine sp_ldn hs .blk (by kernel_rfl) (by rw [u8s_length, hH]) ?_
    refine cl (pool_drop hpl hH (hs.sbl (.cons (.tl (.tl (.tl .hd))) (.cons (.tl (.tl (.tl .hd))) .all)))) ?_
    rintro _ w ⟨rfl, lv2, hs⟩
    repeat with_reducible refine mv.mk ?_
    refine sp_ldn hs (.tl (.tl .blk)) (by kernel_rfl) (by rw [u8s_length, hH]) ?_
    refine cl (pool_remember (p := { p' with l := dropI (hB ts[i]) p'.l }) (by show p'.known.length ≤ _; omega) (by show 0 ≤ p'.cache; omega) (by show p'.cache ≤ _; omega) hH hs (.tl (.tl (.tl (.tl .hd))))) ?_
    rintro _ w ⟨rfl, kv2, hs⟩
    repeat (first
     | (with_reducible (first | refine st_lens ?_ | refine st_eqls ?_ | refine mv.mk ?_ | refine br_t ?_ | refine br_f ?_))
     | (with_reducible ((first | apply st_bin | apply st_len); intro k' hk; simp [go_sem, thenR_ok, bin]; refine hk _ _ ?_; clear hk k'))
     | ((with_reducible apply sp_newr hs); (· kernel_rfl); intro g w hs))
    rw [i64_succ (by omega)]
    refine ⟨⟨i + 1, doneP p' ts[i], lv2, kv2, _, rfl, hi', ?_, hpc, ?_, ?_, hs.sbl (.cons (.tl .hd) (.cons (.tl .hd) (.cons .hd (.drop (.drop (.drop (.drop .all)))))))⟩, by simp; omega⟩
    · rw [List.take_succ_eq_append_getElem hi', List.foldl_append, ← hp]
      rfl
    · exact Nat.le_trans (dropI_len _ _) hpl
    · rw [← hpc]
      exact rememberK_len (by omega)
  · obtain rfl : i = ts.length := by have := of_decide_eq_false hq; omega
    rw [List.take_length] at hp
    subst hp
    exact ⟨trivial, lv, kv, hs⟩
end
end Go.Proofs.YtgagekffmamldaaGreatDoor
