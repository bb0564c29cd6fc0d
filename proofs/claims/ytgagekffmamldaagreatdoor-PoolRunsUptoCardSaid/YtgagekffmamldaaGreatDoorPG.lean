/- pool: Add, New. -/
import Derived.Test.YtgagekffmamldaaGreatDoorPC
import Derived.Test.YtgagekffmamldaaGreatDoorPF
import Derived.Test.YtgagekffmamldaaGreatDoorKD
import Derived.Test.YtgagekffmamldaaGreatDoorKF
set_option linter.unusedVariables false
set_option linter.unusedSimpArgs false
set_option linter.unusedSectionVars false
namespace Go.Proofs.YtgagekffmamldaaGreatDoor
open Go Go.Isk Go.RowKit
set_option maxRecDepth 20000
section
variable {b : Base} {w : World} {L R : List It} {g g3 g8 : Nat} {v sv lv kv bv cv : Value} {cs : List Value} {p : PoolD} {x : ItemD} {l h bts : Bytes} {ls : List ItemD} {fee : Int} {nn : Nat}
theorem add_fin {A c} {Ac : Option Addr} {cc : Nat} (ok : OkP p nn) (hN : nn ≤ 1000000) (hb1 : ¬ (bts = [] ∨ fee < 0)) (hbl : bts.length ≤ 1000000000) (hR : Ins L rndF.it) (hs : Isk.Sep b w (blkI g8 T.pool_item (itemV ⟨bts, fee, p.came⟩ (.slice Ac bts.length cc)) :: (byF (.slice Ac bts.length cc) bts).it :: blkI g T.pool_Pool (poolV p lv kv) :: growI itemF T.pool_item 35 lv p.l :: (listF hashF 32 kv p.known).it :: L)) :
    F.pool_Pool_Add_r (fun r w' => ∃ gv e lv' kv', r = .tuple #[gv, e] ∧ Isk.Sep b w' ((listF hashF 32 gv (addP p bts fee).2.1).it :: (errF e (addP p bts fee).2.2).it :: blkI g T.pool_Pool (poolV (addP p bts fee).1 lv' kv') :: growI itemF T.pool_item 35 lv' (addP p bts fee).1.l :: (listF hashF 32 kv' (addP p bts fee).1.known).it :: L)) (.pointer (some ⟨g, 0, none⟩)) (.slice A bts.length c) (.int .i64 fee) (.slice none 0 0) .nilIface (.pointer (some ⟨g8, 0, none⟩)) (.pointer (some ⟨g, 0, none⟩)) w :=
  add_r ok hN hb1 hbl (.drop .all) (.tl hR) .hd (hs.sbl (.cons .hd (.cons (.tl .hd) (.cons (.tl .hd) (.cons (.tl .hd) .all)))))
theorem pool_AddR (ok : OkP p nn) (hN : nn ≤ 1000000) (hbl : bts.length ≤ 1000000000) (hR : Ins L rndF.it) (hb : Rds L bv bts.length 1 (u8s bts)) (hs : Isk.Sep b w (blkI g T.pool_Pool (poolV p lv kv) :: growI itemF T.pool_item 35 lv p.l :: (listF hashF 32 kv p.known).it :: L)) :
    C Tryz.prog N.pool_Pool_Add #[.pointer (some ⟨g, 0, none⟩), bv, .int .i64 fee] w fun r w' => ∃ gv e lv' kv', r = .tuple #[gv, e] ∧ Isk.Sep b w' ((listF hashF 32 gv (addP p bts fee).2.1).it :: (errF e (addP p bts fee).2.2).it :: blkI g T.pool_Pool (poolV (addP p bts fee).1 lv' kv') :: growI itemF T.pool_item 35 lv' (addP p bts fee).1.l :: (listF hashF 32 kv' (addP p bts fee).1.known).it :: L) := by
  obtain ⟨A, c, rfl, _⟩ := hs.reads (.tl (.tl (.tl hb)))
  refine C.pool_Pool_Add ?_
  unfold F.pool_Pool_Add
  have hH := hB_len bts
  repeat (first
   | (with_reducible (first | refine st_lens ?_ | refine st_eqls ?_ | refine mv.mk ?_ | refine nk_p ?_ | refine gdT_i ?_ | refine gdT_ft ?_ | refine gdT_tf ?_ | refine gdT_u ?_ | refine gd_u ?_ | refine gd_ft ?_ | refine gd_tf ?_ | refine gd_i ?_ | refine pk_t ?_ | refine pk_f ?_ | refine br_t ?_ | refine br_f ?_))
   | (with_reducible ((first | apply st_bin | apply st_len); intro k' hk; simp [go_sem, thenR_ok, bin]; refine hk _ _ ?_; clear hk k'))
   | ((with_reducible (first | apply tk_bin | apply tk_len)); (· intro w; simp [go_sem, bin]; rfl))
   | ((with_reducible apply sp_newr hs); (· kernel_rfl); intro g w hs))
  by_cases h0 : bts.length = 0
  · rw [show ((bts.length : Int) == 0) = true by simp [h0]]
    repeat (first
     | (with_reducible (first | refine st_lens ?_ | refine st_eqls ?_ | refine mv.mk ?_ | refine nk_p ?_ | refine gdT_i ?_ | refine gdT_ft ?_ | refine gdT_tf ?_ | refine gdT_u ?_ | refine gd_u ?_ | refine gd_ft ?_ | refine gd_tf ?_ | refine gd_i ?_ | refine pk_t ?_ | refine pk_f ?_ | refine br_t ?_ | refine br_f ?_))
     | (with_reducible ((first | apply st_bin | apply st_len); intro k' hk; simp [go_sem, thenR_ok, bin]; refine hk _ _ ?_; clear hk k'))
     | ((with_reducible (first | apply tk_bin | apply tk_len)); (· intro w; simp [go_sem, bin]; rfl))
     | ((with_reducible apply sp_newr hs); (· kernel_rfl); intro g w hs))
    refine cl (pool_fault (e := 1) (by decide) (by decide) (by decide) (by decide) hs) ?_
    rintro e w hs
    repeat with_reducible refine mv.mk ?_
    exact add_err (addP_0 (.inl (List.length_eq_zero_iff.1 h0))) hs
  rw [show ((bts.length : Int) == 0) = false by simp; exact fun h => h0 (by rw [h]; rfl)]
  repeat (first
   | (with_reducible (first | refine st_lens ?_ | refine st_eqls ?_ | refine mv.mk ?_ | refine nk_p ?_ | refine gdT_i ?_ | refine gdT_ft ?_ | refine gdT_tf ?_ | refine gdT_u ?_ | refine gd_u ?_ | refine gd_ft ?_ | refine gd_tf ?_ | refine gd_i ?_ | refine pk_t ?_ | refine pk_f ?_ | refine br_t ?_ | refine br_f ?_))
   | (with_reducible ((first | apply st_bin | apply st_len); intro k' hk; simp [go_sem, thenR_ok, bin]; refine hk _ _ ?_; clear hk k'))
   | ((with_reducible (first | apply tk_bin | apply tk_len)); (· intro w; simp [go_sem, bin]; rfl))
   | ((with_reducible apply sp_newr hs); (· kernel_rfl); intro g w hs))
  by_cases h1 : fee < 0
  · rw [decide_eq_true h1]
    repeat (first
     | (with_reducible (first | refine st_lens ?_ | refine st_eqls ?_ | refine mv.mk ?_ | refine nk_p ?_ | refine gdT_i ?_ | refine gdT_ft ?_ | refine gdT_tf ?_ | refine gdT_u ?_ | refine gd_u ?_ | refine gd_ft ?_ | refine gd_tf ?_ | refine gd_i ?_ | refine pk_t ?_ | refine pk_f ?_ | refine br_t ?_ | refine br_f ?_))
     | (with_reducible ((first | apply st_bin | apply st_len); intro k' hk; simp [go_sem, thenR_ok, bin]; refine hk _ _ ?_; clear hk k'))
     | ((with_reducible (first | apply tk_bin | apply tk_len)); (· intro w; simp [go_sem, bin]; rfl))
     | ((with_reducible apply sp_newr hs); (· kernel_rfl); intro g w hs))
    refine cl (pool_fault (e := 1) (by decide) (by decide) (by decide) (by decide) hs) ?_
    rintro e w hs
    repeat with_reducible refine mv.mk ?_
    exact add_err (addP_0 (.inr h1)) hs
  rw [decide_eq_false h1]
  have hb1 : ¬ (bts = [] ∨ fee < 0) := by
    rintro (h | h)
    · exact h0 (by rw [h]; rfl)
    · exact h1 h
  repeat (first
   | (with_reducible (first | refine st_lens ?_ | refine st_eqls ?_ | refine mv.mk ?_ | refine nk_p ?_ | refine gdT_i ?_ | refine gdT_ft ?_ | refine gdT_tf ?_ | refine gdT_u ?_ | refine gd_u ?_ | refine gd_ft ?_ | refine gd_tf ?_ | refine gd_i ?_ | refine pk_t ?_ | refine pk_f ?_ | refine br_t ?_ | refine br_f ?_))
   | (with_reducible ((first | apply st_bin | apply st_len); intro k' hk; simp [go_sem, thenR_ok, bin]; refine hk _ _ ?_; clear hk k'))
   | ((with_reducible (first | apply tk_bin | apply tk_len)); (· intro w; simp [go_sem, bin]; rfl))
   | ((with_reducible apply sp_newr hs); (· kernel_rfl); intro g w hs))
  replace hs := hs.drew
  refine dr_can (R := [blkI g T.pool_Pool (poolV p lv kv)]) hs (.cons .hd .nil) ?_
  have hS : ∀ w, Mayr [blkI g T.pool_Pool (poolV p lv kv)] w → Mayr [blkI g T.pool_Pool (poolV p lv kv)] w := fun _ h => h
  repeat (first
   | (with_reducible refine pool.a0 ?_)
   | ((with_reducible apply pool.r0 hs); (· (with_reducible (repeat (first | exact .blk | exact .rng | apply Rng.tl)))))
   | (with_reducible refine pool.c0 ?_)
   | ((with_reducible apply pool.e0); (· first | exact hS | exact hid); (· (with_reducible (repeat (first | exact .blk | exact .rng | apply Rng.tl)))))
   | (with_reducible refine pool.a1 ?_)
   | ((with_reducible apply pool.r1 hs); (· (with_reducible (repeat (first | exact .blk | exact .rng | apply Rng.tl)))))
   | (with_reducible refine pool.c1 ?_)
   | ((with_reducible apply pool.e1); (· first | exact hS | exact hid); (· (with_reducible (repeat (first | exact .blk | exact .rng | apply Rng.tl)))))
   | (with_reducible refine pool.a2 ?_)
   | ((with_reducible apply pool.r2 hs); (· (with_reducible (repeat (first | exact .blk | exact .rng | apply Rng.tl)))))
   | (with_reducible refine pool.c2 ?_)
   | ((with_reducible apply pool.e2); (· first | exact hS | exact hid); (· (with_reducible (repeat (first | exact .blk | exact .rng | apply Rng.tl)))))
   | (with_reducible refine pool.a3 ?_)
   | ((with_reducible apply pool.r3 hs); (· (with_reducible (repeat (first | exact .blk | exact .rng | apply Rng.tl)))))
   | (with_reducible refine pool.c3 ?_)
   | ((with_reducible apply pool.e3); (· first | exact hS | exact hid); (· (with_reducible (repeat (first | exact .blk | exact .rng | apply Rng.tl)))))
   | (with_reducible refine pool.a5 ?_)
   | ((with_reducible apply pool.r5 hs); (· (with_reducible (repeat (first | exact .blk | exact .rng | apply Rng.tl)))))
   | (with_reducible refine pool.c5 ?_)
   | ((with_reducible apply pool.e5); (· first | exact hS | exact hid); (· (with_reducible (repeat (first | exact .blk | exact .rng | apply Rng.tl)))))
   | (with_reducible (first | refine st_lens ?_ | refine st_eqls ?_ | refine mv.mk ?_ | refine nk_p ?_ | refine gdT_i ?_ | refine gdT_ft ?_ | refine gdT_tf ?_ | refine gdT_u ?_ | refine gd_u ?_ | refine gd_ft ?_ | refine gd_tf ?_ | refine gd_i ?_ | refine pk_t ?_ | refine pk_f ?_ | refine br_t ?_ | refine br_f ?_))
   | (with_reducible ((first | apply st_bin | apply st_len); intro k' hk; simp [go_sem, thenR_ok, bin]; refine hk _ _ ?_; clear hk k'))
   | ((with_reducible (first | apply tk_bin | apply tk_len)); (· intro w; simp [go_sem, bin]; rfl))
   | ((with_reducible apply sp_newr hs); (· kernel_rfl); intro g w hs))
  have h35 : ∀ v : Value, (itemV ⟨bts, fee, p.came⟩ v).length = 35 := fun v => by simp [pitemC, u8s_length, hB_len]
  refine ⟨?_, ?_⟩
  · refine cl (slices_Clone_8R hs (.tl (.tl (.tl hb))) hbl) ?_
    rintro cv w hs
    refine ⟨hs.mayr (.drop (.cons .hd .nil)), ?_⟩
    replace hs := hs.rowB .hd
    obtain ⟨Ac, cc, rfl⟩ := by_slice8 hs .hd
    refine ⟨?_, ?_⟩
    · refine cl (txs_HashR (l := bts) hs (.tl (.tl (.tl (.tl hR)))) (.tl (.tl (.tl (.tl hb)))) (by omega)) ?_
      rintro _ w ⟨rfl, hs⟩
      refine ⟨hs.mayr (.drop (.cons .hd .nil)), ?_⟩
      refine tk_item hH ?_
      refine sp_newr hs (by kernel_rfl) fun g8 w hs => ?_
      refine ⟨hs.mayr (.drop (.drop (.cons .hd .nil))), ?_⟩
      refine sp_setr (ds := itemV ⟨bts, fee, p.came⟩ (.slice Ac bts.length cc)) hs .hd (by kernel_rfl) (h35 _) (pitemC_one rfl (u8s_one _) rfl rfl) fun w hs => ?_
      refine mv.mk ?_
      exact add_fin ok hN hb1 hbl hR hs
    · refine sp_newr hs (by kernel_rfl) fun g8 w hs => ?_
      refine ⟨hs.mayr (.drop (.drop (.cons .hd .nil))), ?_⟩
      refine cl (txs_HashR (l := bts) hs (.tl (.tl (.tl (.tl (.tl hR))))) (.tl (.tl (.tl (.tl (.tl hb))))) (by omega)) ?_
      rintro _ w ⟨rfl, hs⟩
      refine ⟨hs.mayr (.drop (.drop (.cons .hd .nil))), ?_⟩
      refine tk_item hH ?_
      refine sp_setr (ds := itemV ⟨bts, fee, p.came⟩ (.slice Ac bts.length cc)) hs .hd (by kernel_rfl) (h35 _) (pitemC_one rfl (u8s_one _) rfl rfl) fun w hs => ?_
      refine mv.mk ?_
      exact add_fin ok hN hb1 hbl hR hs
  · refine sp_newr hs (by kernel_rfl) fun g8 w hs => ?_
    refine ⟨hs.mayr (.drop (.cons .hd .nil)), ?_⟩
    refine cl (slices_Clone_8R hs (.tl (.tl (.tl (.tl hb)))) hbl) ?_
    rintro cv w hs
    refine ⟨hs.mayr (.drop (.drop (.cons .hd .nil))), ?_⟩
    replace hs := hs.rowB .hd
    obtain ⟨Ac, cc, rfl⟩ := by_slice8 hs .hd
    refine cl (txs_HashR (l := bts) hs (.tl (.tl (.tl (.tl (.tl hR))))) (.tl (.tl (.tl (.tl (.tl hb))))) (by omega)) ?_
    rintro _ w ⟨rfl, hs⟩
    refine ⟨hs.mayr (.drop (.drop (.cons .hd .nil))), ?_⟩
    refine tk_item hH ?_
    refine sp_setr (ds := itemV ⟨bts, fee, p.came⟩ (.slice Ac bts.length cc)) hs (.tl .hd) (by kernel_rfl) (h35 _) (pitemC_one rfl (u8s_one _) rfl rfl) fun w hs => ?_
    refine mv.mk ?_
    exact add_fin ok hN hb1 hbl hR hs
theorem pool_Add (ok : OkP p nn) (hN : nn ≤ 1000000) (hbl : bts.length ≤ 1000000000) (hR : Ins L rndF.it) (hb : Ins L (byF bv bts).it) (hs : Isk.Sep b w (blkI g T.pool_Pool (poolV p lv kv) :: growI itemF T.pool_item 35 lv p.l :: (listF hashF 32 kv p.known).it :: L)) :
    C Tryz.prog N.pool_Pool_Add #[.pointer (some ⟨g, 0, none⟩), bv, .int .i64 fee] w fun r w' => ∃ gv e lv' kv', r = .tuple #[gv, e] ∧ Isk.Sep b w' ((listF hashF 32 gv (addP p bts fee).2.1).it :: (errF e (addP p bts fee).2.2).it :: blkI g T.pool_Pool (poolV (addP p bts fee).1 lv' kv') :: growI itemF T.pool_item 35 lv' (addP p bts fee).1.l :: (listF hashF 32 kv' (addP p bts fee).1.known).it :: L) :=
  pool_AddR ok hN hbl hR (by_rds8 hb) hs
end
end Go.Proofs.YtgagekffmamldaaGreatDoor
set_option linter.unusedVariables false
set_option linter.unusedSimpArgs false
set_option linter.unusedSectionVars false
namespace Go.Proofs.YtgagekffmamldaaGreatDoor
open Go Go.Isk Go.RowKit
theorem room_spec {p : PoolD} {n : Nat} {fee : Int} : ∀ {k : Nat} {l : List ItemD} {gone : List Bytes} {l' : List ItemD} {gone' : List Bytes}, l.length < k → roomP p n fee k l gone = some (l', gone') →
    ∃ m, m ≤ l.length ∧ l' = l.take m ∧ gone' = gone ++ ((l.drop m).reverse.map fun y => hB y.b) ∧ (∀ y ∈ l.drop m, y.fee < fee) ∧ ¬ (p.txs < (l'.length : Int) + 1 ∨ p.bytes < (sizeP l' : Int) + n)
  | 0, l, gone, l', gone', hk, h => by omega
  | k + 1, l, gone, l', gone', hk, h => by
    unfold roomP at h
    split at h
    · rename_i hc
      cases hg : l.getLast? with
      | none => rw [hg] at h; cases h
      | some y =>
        rw [hg] at h
        simp only at h
        split at h
        · cases h
        · rename_i hf
          have hne : l ≠ [] := fun e => by rw [e] at hg; cases hg
          have hlen : 0 < l.length := List.length_pos_iff.2 hne
          have hl : l = l.dropLast ++ [y] := by
            have h1 := List.dropLast_concat_getLast hne
            rw [List.getLast?_eq_some_getLast hne] at hg
            rw [← Option.some.inj hg]
            exact h1.symm
          have hdl : l.dropLast.length = l.length - 1 := List.length_dropLast
          obtain ⟨m, h1, h2, h3, h4, h5⟩ := room_spec (by omega) h
          have hm : m ≤ l.dropLast.length := h1
          refine ⟨m, by omega, ?_, ?_, ?_, h5⟩
          · rw [h2]
            conv => rhs; rw [hl]
            rw [List.take_append_of_le_length hm]
          · rw [h3]
            conv => rhs; rw [hl]
            rw [List.drop_append_of_le_length hm, List.reverse_append, List.map_append, List.append_assoc]
            rfl
          · rw [hl, List.drop_append_of_le_length hm]
            intro z hz
            rcases List.mem_append.1 hz with hz | hz
            · exact h4 z hz
            · simp only [List.mem_cons, List.not_mem_nil, or_false] at hz
              subst hz; omega
    · rename_i hc
      cases h
      refine ⟨l.length, Nat.le_refl _, ?_, ?_, ?_, hc⟩
      · rw [List.take_length]
      · rw [List.drop_length]; simp
      · rw [List.drop_length]; intro y hy; cases hy
theorem sizeP_perm {l m : List ItemD} (h : l.Perm m) : sizeP l = sizeP m := by
  unfold sizeP
  induction h with
  | nil => rfl
  | cons x _ ih => simp only [List.map_cons, List.sum_cons, ih]
  | swap x y l => simp only [List.map_cons, List.sum_cons]; omega
  | trans _ _ h1 h2 => rw [h1, h2]
theorem sizeP_app {l m : List ItemD} : sizeP (l ++ m) = sizeP l + sizeP m := by unfold sizeP; rw [List.map_append, List.sum_append]
theorem insP_len (x : ItemD) (l : List ItemD) : (insP x l).length = l.length + 1 := by rw [(insP_perm x l).length_eq]; simp
theorem insP_size (x : ItemD) (l : List ItemD) : sizeP (insP x l) = sizeP l + x.b.length := by rw [sizeP_perm (insP_perm x l), sizeP_app]; rfl
theorem rememberK_32 {c : Int} {h : Bytes} {l : List Bytes} (hh : h.length = 32) (hl : ∀ k ∈ l, k.length = 32) : ∀ k ∈ rememberK c h l, k.length = 32 := fun k hk => by
  have hk := List.mem_of_mem_drop hk
  rcases List.mem_append.1 hk with hk | hk
  · exact forgetK_32 hl k hk
  · simp only [List.mem_cons, List.not_mem_nil, or_false] at hk
    rw [hk]; exact hh
theorem rememberK_len {c : Int} {h : Bytes} {l : List Bytes} (hc : 0 ≤ c) : ((rememberK c h l).length : Int) ≤ c := by
  unfold rememberK
  simp only [List.length_drop]
  omega
theorem hasP_false {p : PoolD} {h : Bytes} (hk : ¬ knowsP p h = true) : ∀ y ∈ p.l, hB y.b ≠ h := fun y hy e => hk (by
  unfold knowsP hasP
  rw [Bool.or_eq_true]
  exact .inl (List.any_eq_true.2 ⟨y, hy, by simpa using e⟩))
/-- what is laid in, and what goes for it -/
theorem add_cases (p : PoolD) (bts : Bytes) (fee : Int) : ((addP p bts fee).1 = p ∧ (addP p bts fee).2.1 = [] ∧ (addP p bts fee).2.2 ≠ 0) ∨
    (¬ (bts = [] ∨ fee < 0) ∧ ¬ knowsP p (hB bts) = true ∧ ∃ m, m ≤ p.l.length ∧ ((p.l.take m).length : Int) + 1 ≤ p.txs ∧ (sizeP (p.l.take m) : Int) + bts.length ≤ p.bytes ∧ (∀ y ∈ p.l.drop m, y.fee < fee) ∧
      addP p bts fee = ({ p with l := insP ⟨bts, fee, p.came⟩ (p.l.take m), known := rememberK p.cache (hB bts) p.known, came := p.came + 1 }, (p.l.drop m).reverse.map fun y => hB y.b, 0)) := by
  by_cases h1 : bts = [] ∨ fee < 0
  · rw [addP_0 h1]; exact .inl ⟨rfl, rfl, fun h => by cases h⟩
  by_cases h2 : knowsP p (hB bts) = true
  · rw [addP_9 h1 h2]; exact .inl ⟨rfl, rfl, fun h => by cases h⟩
  by_cases h3 : p.bytes < bts.length
  · rw [addP_2 h1 h2 h3]; exact .inl ⟨rfl, rfl, fun h => by cases h⟩
  cases hr : roomP p bts.length fee (p.l.length + 1) p.l [] with
  | none =>
    rw [addP_r h1 h2 h3, hr]
    exact .inl ⟨rfl, rfl, fun h => by cases h⟩
  | some q =>
    obtain ⟨l', gone'⟩ := q
    obtain ⟨m, q1, q2, q3, q4, q5⟩ := room_spec (by omega) hr
    refine .inr ⟨h1, h2, m, q1, ?_, ?_, q4, ?_⟩
    · rw [← q2]; omega
    · rw [← q2]; omega
    · rw [addP_r h1 h2 h3, hr, q2, q3]; rfl
theorem OkP.add {p : PoolD} {n : Nat} (ok : OkP p n) (bts : Bytes) (fee : Int) : OkP (addP p bts fee).1 (n + 1) := by
  rcases add_cases p bts fee with ⟨h1, _⟩ | ⟨h1, h2, m, q1, q2, q3, q4, hq⟩
  · rw [h1]
    exact ⟨ok.came0, by have := ok.came; omega, ok.t1, ok.t2, ok.b1, ok.b2, ok.c1, ok.c2, ok.len, ok.size, ok.kn, ok.kl, ok.lt, ok.srt, ok.nd⟩
  · rw [hq]
    have hsub : (p.l.take m).Sublist p.l := List.take_sublist ..
    have hc0 := ok.came0
    have hc1 := ok.came
    refine ⟨by show 0 ≤ p.came + 1; omega, by show p.came + 1 ≤ _; omega, ok.t1, ok.t2, ok.b1, ok.b2, ok.c1, ok.c2, ?_, ?_, rememberK_len ok.c1, rememberK_32 (hB_len _) ok.kl, ?_, ?_, ?_⟩
    · show ((insP ⟨bts, fee, p.came⟩ (p.l.take m)).length : Int) ≤ p.txs
      rw [insP_len]; omega
    · show (sizeP (insP ⟨bts, fee, p.came⟩ (p.l.take m)) : Int) ≤ p.bytes
      rw [insP_size]
      show ((sizeP (p.l.take m) + bts.length : Nat) : Int) ≤ _
      omega
    · intro x hx
      show x.came < p.came + 1 ∧ _
      rcases insP_mem hx with rfl | hx
      · exact ⟨by show p.came < _; omega, hc0⟩
      · have := ok.lt x (hsub.subset hx)
        omega
    · exact insP_sorted (List.Pairwise.sublist hsub ok.srt) fun y hy => (ok.lt y (hsub.subset hy)).1
    · refine ((insP_perm _ _).map _).nodup_iff.2 ?_
      rw [List.map_append, List.nodup_append]
      refine ⟨List.Sublist.nodup (hsub.map _) ok.nd, by simp, ?_⟩
      intro a ha c hc e
      obtain ⟨y, hy, rfl⟩ := List.mem_map.1 ha
      simp only [List.map_cons, List.map_nil, List.mem_cons, List.not_mem_nil, or_false] at hc
      exact hasP_false h2 y (hsub.subset hy) (e.trans hc)
end Go.Proofs.YtgagekffmamldaaGreatDoor
set_option linter.unusedVariables false
set_option linter.unusedSimpArgs false
set_option linter.unusedSectionVars false
namespace Go.Proofs.YtgagekffmamldaaGreatDoor
open Go Go.Isk Go.RowKit
set_option maxRecDepth 20000
def newP (t b c : Int) : PoolD := ⟨t, b, c, [], [], 0⟩
theorem okP_new {t y c : Int} (h1 : 1 ≤ t ∧ t ≤ 1048576) (h2 : 1 ≤ y ∧ y ≤ 1048576) (h3 : 0 ≤ c ∧ c ≤ 1048576) : OkP (newP t y c) 0 :=
  ⟨Int.le_refl _, Int.le_refl _, h1.1, h1.2, h2.1, h2.2, h3.1, h3.2, by show (0 : Int) ≤ t; omega, by show (0 : Int) ≤ y; omega, h3.1, fun k hk => (by cases hk), fun x hx => (by cases hx), List.Pairwise.nil, List.nodup_nil⟩
/-! ### plain: sure -/
def p1S : PoolD := ⟨2, 100, 0, [⟨[97], 1, 0⟩], [], 1⟩
def p2S : PoolD := ⟨2, 100, 0, [⟨[98], 2, 1⟩, ⟨[97], 1, 0⟩], [], 2⟩
def p3S : PoolD := ⟨2, 100, 0, [⟨[99], 3, 2⟩, ⟨[98], 2, 1⟩], [], 3⟩
theorem addS1 : addP (newP 2 100 0) [97] 1 = (p1S, [], 0) := by
  rw [addP, if_neg (by simp), if_neg (by simp [knowsP, hasP, newP]), if_neg (by simp [newP])]
  simp [newP, roomP, sizeP, addRes, insP, rememberK, forgetK, p1S]
theorem addS2 : addP p1S [98] 2 = (p2S, [], 0) := by
  rw [addP, if_neg (by simp), if_neg (by simp [knowsP, hasP, p1S, hB_ne97_98]), if_neg (by simp [p1S])]
  simp [p1S, roomP, sizeP, addRes, insP, rememberK, forgetK, p2S]
theorem addS3 : addP p2S [99] 3 = (p3S, [hB [97]], 0) := by
  rw [addP, if_neg (by simp), if_neg (by simp [knowsP, hasP, p2S, hB_ne97_99, hB_ne98_99]), if_neg (by simp [p2S])]
  simp [p2S, roomP, sizeP, addRes, insP, rememberK, forgetK, p3S]
theorem addS4 : addP p3S [100] 2 = (p3S, [], 10) := by
  rw [addP, if_neg (by simp), if_neg (by simp [knowsP, hasP, p3S, hB_ne98_100, hB_ne99_100]), if_neg (by simp [p3S])]
  simp [p3S, roomP, sizeP, addRes]
section
variable {b : Base} {w : World} {L R : List It} {g g3 g8 : Nat} {v sv lv kv bv cv e : Value} {cs : List Value} {p : PoolD} {x : ItemD} {l h bts : Bytes} {ls : List ItemD} {fee n : Int} {nn : Nat}
theorem isthmuslaw18_num (hs : Isk.Sep b w L) (hT : Ins L errT.it) (hv : Ins L (errF e n).it) : C Tryz.prog N.isthmuslaw18_num #[e] w fun r w' => r = .int .i64 n ∧ Isk.Sep b w' L :=
  C.isthmuslaw18_num (num_call (F := F.isthmuslaw18_num) hs hT hv (fun _ _ _ => rfl) fun w hs => ⟨rfl, hs⟩)
theorem errF_zero8 (hs : Isk.Sep b w L) (hm : Ins L (errF e 0).it) : e = .nilIface := by
  obtain ⟨d, hd⟩ := hs.get hm
  cases d with
  | zero =>
    rcases hd with ⟨rfl, _⟩ | ⟨_, h0, _⟩
    · rfl
    · exact absurd rfl h0
  | succ d' =>
    obtain ⟨_, _, _, _, h0, _⟩ := hd
    exact absurd rfl h0
theorem pool_New_1 : C Tryz.prog N.pool_New_1 #[.int .i64 n] w fun r w' => r = .bool (decide (n < 1) || decide (1048576 < n)) ∧ w' = w := by
  refine C.pool_New_1 ?_
  unfold F.pool_New_1
  repeat (first
   | (with_reducible (first | refine mv.mk ?_ | refine gd_u ?_ | refine gd_ft ?_ | refine gd_tf ?_ | refine gd_i ?_ | refine pk_t ?_ | refine pk_f ?_))
   | (with_reducible ((first | apply st_bin); intro k' hk; simp [go_sem, thenR_ok, bin]; refine hk _ _ ?_; clear hk k')))
  by_cases h1 : n < 1
  · rw [decide_eq_true h1]
    repeat (first
     | (with_reducible (first | refine mv.mk ?_ | refine gd_u ?_ | refine gd_ft ?_ | refine gd_tf ?_ | refine gd_i ?_ | refine pk_t ?_ | refine pk_f ?_))
     | (with_reducible ((first | apply st_bin); intro k' hk; simp [go_sem, thenR_ok, bin]; refine hk _ _ ?_; clear hk k')))
    exact ⟨rfl, rfl⟩
  · rw [decide_eq_false h1]
    repeat (first
     | (with_reducible (first | refine mv.mk ?_ | refine gd_u ?_ | refine gd_ft ?_ | refine gd_tf ?_ | refine gd_i ?_ | refine pk_t ?_ | refine pk_f ?_))
     | (with_reducible ((first | apply st_bin); intro k' hk; simp [go_sem, thenR_ok, bin]; refine hk _ _ ?_; clear hk k')))
    exact ⟨rfl, rfl⟩
theorem pool_New {t y c : Int} (h1 : 1 ≤ t ∧ t ≤ 1048576) (h2 : 1 ≤ y ∧ y ≤ 1048576) (h3 : 0 ≤ c ∧ c ≤ 1048576) (hs : Isk.Sep b w L) :
    C Tryz.prog N.pool_New #[.int .i64 t, .int .i64 y, .int .i64 c] w fun r w' => ∃ g, r = .tuple #[.pointer (some ⟨g, 0, none⟩), .nilIface] ∧ Isk.Sep b w' (blkI g T.pool_Pool (poolV (newP t y c) (.slice none 0 0) (.slice none 0 0)) :: growI itemF T.pool_item 35 (.slice none 0 0) (newP t y c).l :: (listF hashF 32 (.slice none 0 0) (newP t y c).known).it :: L) := by
  refine C.pool_New ?_
  unfold F.pool_New
  repeat with_reducible refine mv.mk ?_
  refine cv_f (by kernel_rfl) ?_
  refine cl pool_New_1 ?_
  rintro _ _ ⟨rfl, rfl⟩
  rw [show (decide (t < 1) || decide (1048576 < t)) = false by simp; omega]
  repeat (first
   | (with_reducible (first | refine mv.mk ?_ | refine gd_u ?_ | refine gd_ft ?_ | refine gd_tf ?_ | refine gd_i ?_ | refine pk_t ?_ | refine pk_f ?_ | refine br_t ?_ | refine br_f ?_ | refine sp_boxa hs fun g w hs => ?_))
   | (with_reducible ((first | apply st_bin); intro k' hk; simp [go_sem, thenR_ok, bin]; refine hk _ _ ?_; clear hk k')))
  refine cv_f (by kernel_rfl) ?_
  refine cl pool_New_1 ?_
  rintro _ _ ⟨rfl, rfl⟩
  rw [show (decide (y < 1) || decide (1048576 < y)) = false by simp; omega]
  repeat (first
   | (with_reducible (first | refine mv.mk ?_ | refine gd_u ?_ | refine gd_ft ?_ | refine gd_tf ?_ | refine gd_i ?_ | refine pk_t ?_ | refine pk_f ?_ | refine br_t ?_ | refine br_f ?_ | refine sp_boxa hs fun g w hs => ?_))
   | (with_reducible ((first | apply st_bin); intro k' hk; simp [go_sem, thenR_ok, bin]; refine hk _ _ ?_; clear hk k')))
  rw [show decide (c < 0) = false by simp; omega]
  repeat (first
   | (with_reducible (first | refine mv.mk ?_ | refine gd_u ?_ | refine gd_ft ?_ | refine gd_tf ?_ | refine gd_i ?_ | refine pk_t ?_ | refine pk_f ?_ | refine br_t ?_ | refine br_f ?_ | refine sp_boxa hs fun g w hs => ?_))
   | (with_reducible ((first | apply st_bin); intro k' hk; simp [go_sem, thenR_ok, bin]; refine hk _ _ ?_; clear hk k')))
  rw [show decide (1048576 < c) = false by simp; omega]
  repeat (first
   | (with_reducible (first | refine mv.mk ?_ | refine gd_u ?_ | refine gd_ft ?_ | refine gd_tf ?_ | refine gd_i ?_ | refine pk_t ?_ | refine pk_f ?_ | refine br_t ?_ | refine br_f ?_ | refine sp_boxa hs fun g w hs => ?_))
   | (with_reducible ((first | apply st_bin); intro k' hk; simp [go_sem, thenR_ok, bin]; refine hk _ _ ?_; clear hk k')))
  refine st_build (cells := (poolV (newP t y c) (.slice none 0 0) (.slice none 0 0)).toArray) (by kernel_rfl) ?_
  refine sp_boxa hs fun g w hs => ?_
  repeat with_reducible refine mv.mk ?_
  exact ⟨g, rfl, ((hs.nilF hashF 32).grow0 itemF T.pool_item 35).sbl (.cons (.tl (.tl .hd)) (.cons .hd (.cons .hd .all)))⟩
theorem u8T8 : Tryz.prog.underlying T.uint8 = some (.int .u8) := by kernel_rfl
theorem isthmuslaw18_sure (hs : Isk.Sep b w L) (hT : Ins L errT.it) (hR : Ins L rndF.it) : C Tryz.prog N.isthmuslaw18_sure #[] w fun r w' => r = .bool true ∧ Isk.Sep b w' L := by
  refine C.isthmuslaw18_sure ?_
  unfold F.isthmuslaw18_sure
  repeat with_reducible refine mv.mk ?_
  refine cl (pool_New ⟨by decide, by decide⟩ ⟨by decide, by decide⟩ ⟨by decide, by decide⟩ hs) ?_
  rintro _ w ⟨g, rfl, hs⟩
  repeat (first
   | (with_reducible (first | refine st_lens ?_ | refine st_eqls ?_ | refine st_nels ?_ | refine tk_eqls ?_ | refine mv.mk ?_ | refine gdT_i ?_ | refine gdT_ft ?_ | refine gdT_tf ?_ | refine gdT_u ?_ | refine gd_u ?_ | refine gd_ft ?_ | refine gd_tf ?_ | refine gd_i ?_ | refine pk_t ?_ | refine pk_f ?_ | refine br_t ?_ | refine br_f ?_))
   | (with_reducible ((first | apply st_bin | apply st_ext | apply st_len | apply st_conv); intro k' hk; simp [go_sem, thenR_ok, bin]; refine hk _ _ ?_; clear hk k'))
   | ((with_reducible (first | apply tk_bin | apply tk_len)); (· intro w; simp [go_sem, bin]; rfl)))
  have ok0 := okP_new (t := 2) (y := 100) (c := 0) ⟨by decide, by decide⟩ ⟨by decide, by decide⟩ ⟨by decide, by decide⟩
  have ok1 : OkP p1S 1 := by have := ok0.add [97] 1; rwa [addS1] at this
  have ok2 : OkP p2S 2 := by have := ok1.add [98] 2; rwa [addS2] at this
  have ok3 : OkP p3S 3 := by have := ok2.add [99] 3; rwa [addS3] at this
  refine sp_blit hs byT8 u8T8 [97] rfl rfl (by decide) (by decide) fun v1 w hs => ?_
  replace hs := hs.sbl (.cons (.tl .hd) (.cons (.tl .hd) (.cons (.tl .hd) .all)))
  refine cl (pool_Add (bts := [97]) (fee := 1) ok0 (by decide) (by decide) (.tl hR) .hd hs) ?_
  rintro _ w ⟨gv97, e97, lv97, kv97, rfl, hs⟩
  rw [addS1] at hs
  obtain rfl := errF_zero8 hs (.tl .hd)
  replace hs := hs.sbl (.drop (.drop (.cons .hd (.cons .hd (.cons .hd (.drop .all))))))
  repeat (first
   | (with_reducible (first | refine st_lens ?_ | refine st_eqls ?_ | refine st_nels ?_ | refine tk_eqls ?_ | refine mv.mk ?_ | refine gdT_i ?_ | refine gdT_ft ?_ | refine gdT_tf ?_ | refine gdT_u ?_ | refine gd_u ?_ | refine gd_ft ?_ | refine gd_tf ?_ | refine gd_i ?_ | refine pk_t ?_ | refine pk_f ?_ | refine br_t ?_ | refine br_f ?_))
   | (with_reducible ((first | apply st_bin | apply st_ext | apply st_len | apply st_conv); intro k' hk; simp [go_sem, thenR_ok, bin]; refine hk _ _ ?_; clear hk k'))
   | ((with_reducible (first | apply tk_bin | apply tk_len)); (· intro w; simp [go_sem, bin]; rfl)))
  refine sp_blit hs byT8 u8T8 [98] rfl rfl (by decide) (by decide) fun v1 w hs => ?_
  replace hs := hs.sbl (.cons (.tl .hd) (.cons (.tl .hd) (.cons (.tl .hd) .all)))
  refine cl (pool_Add (bts := [98]) (fee := 2) ok1 (by decide) (by decide) (.tl hR) .hd hs) ?_
  rintro _ w ⟨gv98, e98, lv98, kv98, rfl, hs⟩
  rw [addS2] at hs
  obtain rfl := errF_zero8 hs (.tl .hd)
  replace hs := hs.sbl (.drop (.drop (.cons .hd (.cons .hd (.cons .hd (.drop .all))))))
  repeat (first
   | (with_reducible (first | refine st_lens ?_ | refine st_eqls ?_ | refine st_nels ?_ | refine tk_eqls ?_ | refine mv.mk ?_ | refine gdT_i ?_ | refine gdT_ft ?_ | refine gdT_tf ?_ | refine gdT_u ?_ | refine gd_u ?_ | refine gd_ft ?_ | refine gd_tf ?_ | refine gd_i ?_ | refine pk_t ?_ | refine pk_f ?_ | refine br_t ?_ | refine br_f ?_))
   | (with_reducible ((first | apply st_bin | apply st_ext | apply st_len | apply st_conv); intro k' hk; simp [go_sem, thenR_ok, bin]; refine hk _ _ ?_; clear hk k'))
   | ((with_reducible (first | apply tk_bin | apply tk_len)); (· intro w; simp [go_sem, bin]; rfl)))
  refine sp_blit hs byT8 u8T8 [99] rfl rfl (by decide) (by decide) fun v1 w hs => ?_
  replace hs := hs.sbl (.cons (.tl .hd) (.cons (.tl .hd) (.cons (.tl .hd) .all)))
  refine cl (pool_Add (bts := [99]) (fee := 3) ok2 (by decide) (by decide) (.tl hR) .hd hs) ?_
  rintro _ w ⟨gv99, e99, lv99, kv99, rfl, hs⟩
  rw [addS3] at hs
  obtain rfl := errF_zero8 hs (.tl .hd)
  replace hs := hs.sbl (.cons (.tl (.tl .hd)) (.cons (.tl (.tl .hd)) (.cons (.tl (.tl .hd)) (.cons .hd (.drop (.drop .all))))))
  repeat (first
   | (with_reducible (first | refine st_lens ?_ | refine st_eqls ?_ | refine st_nels ?_ | refine tk_eqls ?_ | refine mv.mk ?_ | refine gdT_i ?_ | refine gdT_ft ?_ | refine gdT_tf ?_ | refine gdT_u ?_ | refine gd_u ?_ | refine gd_ft ?_ | refine gd_tf ?_ | refine gd_i ?_ | refine pk_t ?_ | refine pk_f ?_ | refine br_t ?_ | refine br_f ?_))
   | (with_reducible ((first | apply st_bin | apply st_ext | apply st_len | apply st_conv); intro k' hk; simp [go_sem, thenR_ok, bin]; refine hk _ _ ?_; clear hk k'))
   | ((with_reducible (first | apply tk_bin | apply tk_len)); (· intro w; simp [go_sem, bin]; rfl)))
  refine sp_blit hs byT8 u8T8 [100] rfl rfl (by decide) (by decide) fun v1 w hs => ?_
  replace hs := hs.sbl (.cons (.tl .hd) (.cons (.tl .hd) (.cons (.tl .hd) .all)))
  refine cl (pool_Add (bts := [100]) (fee := 2) ok3 (by decide) (by decide) (.tl (.tl hR)) .hd hs) ?_
  rintro _ w ⟨gv100, e100, lv100, kv100, rfl, hs⟩
  rw [addS4] at hs
  obtain ⟨g1, o1, y, hix, hyl, hs⟩ := hs.el (P := Tryz.prog) (T := T.sl_api_Hash) (.tl (.tl (.tl (.tl (.tl (.tl .hd)))))) hsT 0 (by simp)
  obtain ⟨hy, _⟩ : y = u8s (hB [97]) ∧ _ := hs.get (.tl .hd)
  subst hy
  obtain ⟨A1, c1, hgv⟩ := hs.lst_len (Ins.lst (.tl (.tl (.tl (.tl (.tl (.tl (.tl (.tl .hd)))))))))
  have hH := hB_len [97]
  replace hgv : gv99 = .slice A1 1 c1 := hgv
  subst hgv
  repeat (first
   | (with_reducible (first | refine st_lens ?_ | refine st_eqls ?_ | refine st_nels ?_ | refine tk_eqls ?_ | refine mv.mk ?_ | refine gdT_i ?_ | refine gdT_ft ?_ | refine gdT_tf ?_ | refine gdT_u ?_ | refine gd_u ?_ | refine gd_ft ?_ | refine gd_tf ?_ | refine gd_i ?_ | refine pk_t ?_ | refine pk_f ?_ | refine br_t ?_ | refine br_f ?_))
   | (with_reducible ((first | apply st_bin | apply st_ext | apply st_len | apply st_conv); intro k' hk; simp [go_sem, thenR_ok, bin]; refine hk _ _ ?_; clear hk k'))
   | ((with_reducible (first | apply tk_bin | apply tk_len)); (· intro w; simp [go_sem, bin]; rfl)))
  replace hs := hs.drew
  refine dr_can (R := [(rngF g1 o1 (u8s (hB [97]))).it]) hs (.cons .hd .nil) ?_
  have hS : ∀ w, Mayr [(rngF g1 o1 (u8s (hB [97]))).it] w → Mayr [(rngF g1 o1 (u8s (hB [97]))).it] w := fun _ h => h
  repeat (first
   | (with_reducible (first | refine st_lens ?_ | refine st_eqls ?_ | refine st_nels ?_ | refine tk_eqls ?_ | refine mv.mk ?_ | refine gdT_i ?_ | refine gdT_ft ?_ | refine gdT_tf ?_ | refine gdT_u ?_ | refine gd_u ?_ | refine gd_ft ?_ | refine gd_tf ?_ | refine gd_i ?_ | refine pk_t ?_ | refine pk_f ?_ | refine br_t ?_ | refine br_f ?_))
   | (with_reducible ((first | apply st_bin | apply st_ext | apply st_len | apply st_conv); intro k' hk; simp [go_sem, thenR_ok, bin]; refine hk _ _ ?_; clear hk k'))
   | ((with_reducible (first | apply tk_bin | apply tk_len)); (· intro w; simp [go_sem, bin]; rfl)))
  refine cl (isthmuslaw18_num hs (.tl (.tl (.tl (.tl (.tl (.tl (.tl (.tl (.tl hT))))))))) (.tl (.tl (.tl .hd)))) ?_
  rintro _ w ⟨rfl, hs⟩
  refine ⟨hs.mayr (.cons .hd .nil), ?_⟩
  repeat (first
   | (with_reducible (first | refine st_lens ?_ | refine st_eqls ?_ | refine st_nels ?_ | refine tk_eqls ?_ | refine mv.mk ?_ | refine gdT_i ?_ | refine gdT_ft ?_ | refine gdT_tf ?_ | refine gdT_u ?_ | refine gd_u ?_ | refine gd_ft ?_ | refine gd_tf ?_ | refine gd_i ?_ | refine pk_t ?_ | refine pk_f ?_ | refine br_t ?_ | refine br_f ?_))
   | (with_reducible ((first | apply st_bin | apply st_ext | apply st_len | apply st_conv); intro k' hk; simp [go_sem, thenR_ok, bin]; refine hk _ _ ?_; clear hk k'))
   | ((with_reducible (first | apply tk_bin | apply tk_len)); (· intro w; simp [go_sem, bin]; rfl)))
  refine tk_run (hix .i64) ?_
  refine nS_can (R := [(rngF g1 o1 (u8s (hB [97]))).it]) hs (.cons .hd .nil) .all ?_
  repeat (first
   | (with_reducible (first | refine st_lens ?_ | refine st_eqls ?_ | refine st_nels ?_ | refine tk_eqls ?_ | refine mv.mk ?_ | refine gdT_i ?_ | refine gdT_ft ?_ | refine gdT_tf ?_ | refine gdT_u ?_ | refine gd_u ?_ | refine gd_ft ?_ | refine gd_tf ?_ | refine gd_i ?_ | refine pk_t ?_ | refine pk_f ?_ | refine br_t ?_ | refine br_f ?_))
   | (with_reducible ((first | apply st_bin | apply st_ext | apply st_len | apply st_conv); intro k' hk; simp [go_sem, thenR_ok, bin]; refine hk _ _ ?_; clear hk k'))
   | ((with_reducible (first | apply tk_bin | apply tk_len)); (· intro w; simp [go_sem, bin]; rfl)))
  refine tk_ldn hid .rng (by kernel_rfl) hyl ?_
  repeat (first
   | (with_reducible (first | refine st_lens ?_ | refine st_eqls ?_ | refine st_nels ?_ | refine tk_eqls ?_ | refine mv.mk ?_ | refine gdT_i ?_ | refine gdT_ft ?_ | refine gdT_tf ?_ | refine gdT_u ?_ | refine gd_u ?_ | refine gd_ft ?_ | refine gd_tf ?_ | refine gd_i ?_ | refine pk_t ?_ | refine pk_f ?_ | refine br_t ?_ | refine br_f ?_))
   | (with_reducible ((first | apply st_bin | apply st_ext | apply st_len | apply st_conv); intro k' hk; simp [go_sem, thenR_ok, bin]; refine hk _ _ ?_; clear hk k'))
   | ((with_reducible (first | apply tk_bin | apply tk_len)); (· intro w; simp [go_sem, bin]; rfl)))
  refine sp_brow hs byT8 [97] rfl rfl (by decide) (by decide) fun g5 w hs => ?_
  refine ⟨hs.mayr (.drop (.cons .hd .nil)), ?_⟩
  repeat (first
   | (with_reducible (first | refine st_lens ?_ | refine st_eqls ?_ | refine st_nels ?_ | refine tk_eqls ?_ | refine mv.mk ?_ | refine gdT_i ?_ | refine gdT_ft ?_ | refine gdT_tf ?_ | refine gdT_u ?_ | refine gd_u ?_ | refine gd_ft ?_ | refine gd_tf ?_ | refine gd_i ?_ | refine pk_t ?_ | refine pk_f ?_ | refine br_t ?_ | refine br_f ?_))
   | (with_reducible ((first | apply st_bin | apply st_ext | apply st_len | apply st_conv); intro k' hk; simp [go_sem, thenR_ok, bin]; refine hk _ _ ?_; clear hk k'))
   | ((with_reducible (first | apply tk_bin | apply tk_len)); (· intro w; simp [go_sem, bin]; rfl)))
  refine sp_mark hs byT8 u8T8 rfl fun w hs => ?_
  refine ⟨hs.mayr (.drop (.cons .hd .nil)), ?_⟩
  repeat (first
   | (with_reducible (first | refine st_lens ?_ | refine st_eqls ?_ | refine st_nels ?_ | refine tk_eqls ?_ | refine mv.mk ?_ | refine gdT_i ?_ | refine gdT_ft ?_ | refine gdT_tf ?_ | refine gdT_u ?_ | refine gd_u ?_ | refine gd_ft ?_ | refine gd_tf ?_ | refine gd_i ?_ | refine pk_t ?_ | refine pk_f ?_ | refine br_t ?_ | refine br_f ?_))
   | (with_reducible ((first | apply st_bin | apply st_ext | apply st_len | apply st_conv); intro k' hk; simp [go_sem, thenR_ok, bin]; refine hk _ _ ?_; clear hk k'))
   | ((with_reducible (first | apply tk_bin | apply tk_len)); (· intro w; simp [go_sem, bin]; rfl)))
  refine cl (txs_Hash (l := [97]) hs (.tl (.tl (.tl (.tl (.tl (.tl (.tl (.tl (.tl (.tl hR)))))))))) .hd (by decide)) ?_
  rintro _ w ⟨rfl, hs⟩
  refine ⟨hs.mayr (.drop (.cons .hd .nil)), ?_⟩
  refine gdT_i ?_
  refine tk_run (hash_eq hH hH _ _) ?_
  rw [decide_eq_true rfl]
  repeat (first
   | (with_reducible (first | refine st_lens ?_ | refine st_eqls ?_ | refine st_nels ?_ | refine tk_eqls ?_ | refine mv.mk ?_ | refine gdT_i ?_ | refine gdT_ft ?_ | refine gdT_tf ?_ | refine gdT_u ?_ | refine gd_u ?_ | refine gd_ft ?_ | refine gd_tf ?_ | refine gd_i ?_ | refine pk_t ?_ | refine pk_f ?_ | refine br_t ?_ | refine br_f ?_))
   | (with_reducible ((first | apply st_bin | apply st_ext | apply st_len | apply st_conv); intro k' hk; simp [go_sem, thenR_ok, bin]; refine hk _ _ ?_; clear hk k'))
   | ((with_reducible (first | apply tk_bin | apply tk_len)); (· intro w; simp [go_sem, bin]; rfl)))
  refine cl (pool_Len (hs.sbl (.cons (.tl (.tl (.tl (.tl (.tl .hd))))) (.cons (.tl (.tl (.tl (.tl (.tl .hd))))) .all)))) ?_
  rintro _ w ⟨rfl, hs⟩
  refine ⟨hs.mayr (.drop (.drop (.drop (.cons .hd .nil)))), ?_⟩
  repeat (first
   | (with_reducible (first | refine st_lens ?_ | refine st_eqls ?_ | refine st_nels ?_ | refine tk_eqls ?_ | refine mv.mk ?_ | refine gdT_i ?_ | refine gdT_ft ?_ | refine gdT_tf ?_ | refine gdT_u ?_ | refine gd_u ?_ | refine gd_ft ?_ | refine gd_tf ?_ | refine gd_i ?_ | refine pk_t ?_ | refine pk_f ?_ | refine br_t ?_ | refine br_f ?_))
   | (with_reducible ((first | apply st_bin | apply st_ext | apply st_len | apply st_conv); intro k' hk; simp [go_sem, thenR_ok, bin]; refine hk _ _ ?_; clear hk k'))
   | ((with_reducible (first | apply tk_bin | apply tk_len)); (· intro w; simp [go_sem, bin]; rfl)))
  exact ⟨rfl, hs.sbl (.drop (.drop (.drop (.drop (.drop (.drop (.drop (.drop (.drop (.drop .all))))))))))⟩
end
end Go.Proofs.YtgagekffmamldaaGreatDoor
