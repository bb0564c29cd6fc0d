/- files: List, Start. -/
import Derived.Test.YtiaiglgfangedaaDoorFO
import Derived.Test.YtiaiglgfangedaaDoorFK
set_option linter.unusedVariables false
set_option linter.unusedSimpArgs false
set_option linter.unusedSectionVars false
namespace Go.Proofs.YtiaiglgfangedaaDoor
open Go Go.Isk Go.RowKit
set_option maxRecDepth 20000
def iF : Fam Int := fun cs n => pureF (cs = [.int .i64 n])
def cutF (x : FileD) : List Int → FileD × List Int
  | [] => ((x.1.take x.2.toNat, x.2), [])
  | k :: ks => ((x.1.take (x.2 + max (min k (x.1.length - x.2)) 0).toNat, x.2 + max (min k (x.1.length - x.2)) 0), ks)
def startL : List Bytes → AMap FileD → List Int → AMap FileD
  | [], m, _ => m
  | n :: ns, m, keep => if (((lookM n m).getD ([], 0)).1.length : Int) - ((lookM n m).getD ([], 0)).2 = 0 then startL ns m keep else startL ns (putM n (cutF ((lookM n m).getD ([], 0)) keep).1 m) (cutF ((lookM n m).getD ([], 0)) keep).2
def startF (z : FsD) (keep : List Int) : FsD := { z with m := startL (sortM z.m) z.m keep, down := false, armed := false }
/-- files as they may be -/
def okF (x : FileD) : Prop := 0 ≤ x.2 ∧ x.2 ≤ x.1.length ∧ x.1.length ≤ 16777216
def okM (m : AMap FileD) : Prop := ∀ p ∈ m, p.1.length ≤ 64 ∧ okF p.2
theorem putM_mem {α : Type} {k : Bytes} {v : α} : ∀ {m : AMap α} {p}, p ∈ putM k v m → p = (k, v) ∨ p ∈ m
  | [], p, h => by simpa [putM] using h
  | (k', v') :: r, p, h => by
    unfold putM at h
    split at h
    · rcases List.mem_cons.1 h with h | h
      · exact .inl h
      · exact .inr (by simp [h])
    · rcases List.mem_cons.1 h with h | h
      · exact .inr (by simp [h])
      · rcases putM_mem h with h | h
        · exact .inl h
        · exact .inr (by simp [h])
theorem lookM_mem {α : Type} {k : Bytes} {v : α} : ∀ {m : AMap α}, lookM k m = some v → (k, v) ∈ m
  | (k', v') :: r, h => by
    unfold lookM at h
    split at h
    · rename_i e
      cases h; subst e; simp
    · exact List.mem_cons_of_mem _ (lookM_mem h)
theorem okM.put {m : AMap FileD} (h : okM m) {k : Bytes} {x : FileD} (hk : k.length ≤ 64) (hx : okF x) : okM (putM k x m) := by
  intro p hp
  rcases putM_mem hp with rfl | hp
  · exact ⟨hk, hx⟩
  · exact h p hp
theorem okM.get {m : AMap FileD} (h : okM m) (k : Bytes) : okF ((lookM k m).getD ([], 0)) := by
  cases hq : lookM k m with
  | none => exact ⟨by simp, by simp, by simp⟩
  | some x => exact (h _ (lookM_mem hq)).2
theorem cutF_nat {x : FileD} (h : okF x) (keep : List Int) : ∃ n : Nat, (cutF x keep).1 = (x.1.take n, (n : Int)) ∧ n ≤ x.1.length ∧ x.2 ≤ n := by
  obtain ⟨h1, h2, h3⟩ := h
  cases keep with
  | nil => exact ⟨x.2.toNat, by simp only [cutF, Prod.mk.injEq, true_and]; omega, by omega, by omega⟩
  | cons k ks => exact ⟨(x.2 + max (min k (x.1.length - x.2)) 0).toNat, by simp only [cutF, Prod.mk.injEq, true_and]; omega, by omega, by omega⟩
theorem slfr_el {α : Type} {F : Fam α} {P : Program} {b : Base} {w : World} {L : List It} {sz T E by_ : Nat} {sv : Value} {ls : List α} (h : Isk.Sep b w L) (hm : Ins L (listF F sz sv ls).it) (hT : slT P T E sz by_ = true) (i : Nat) (hi : i ≤ ls.length) (q : IntKind) :
    ∃ v', (∀ w, (Instr.sliceAt T sv (some (.int q i)) none none).run P w = .ok v' w) ∧ Isk.Sep b w ((listF F sz v' (ls.drop i)).it :: L) := by
  obtain ⟨xss, h1, h2, h3⟩ := h.get hm
  obtain ⟨v', hr, hs, ho⟩ := sl_from hT h3.1 i hi q
  refine ⟨v', hr, h.fact ⟨xss.drop i, h1.drop i, fun x hx => h2 x (List.mem_of_mem_drop hx), ?_, fun hn k hk => ?_⟩⟩
  · rw [flatten_drop i h2 (by rw [h1.1]; exact hi), show (ls.drop i).length = ls.length - i by simp]; exact hs
  · refine h3.2 (Nat.lt_of_lt_of_le hn (Nat.mul_le_mul_right _ (by simp))) k (ho ▸ hk)
theorem cutF_ok {x : FileD} (h : okF x) (keep : List Int) : okF (cutF x keep).1 := by
  obtain ⟨h1, h2, h3⟩ := h
  cases keep with
  | nil => simp only [cutF, okF, List.length_take]; omega
  | cons k ks => simp only [cutF, okF, List.length_take]; omega
section
variable {b : Base} {w : World} {L R : List It} {g gf gm : Nat} {v sv bv kv : Value} {s l name bts : Bytes} {cs : List Value} {z : FsD} {keep : List Int}
theorem fiT : slT Tryd.prog T.sl_int T.int 1 8 = true := by kernel_rfl
theorem min_run (a c : Int) (w : World) : (Builtin.min_ #[T.int, T.int] T.int #[.int .i64 a, .int .i64 c]).run Tryd.prog w = .ok (.int .i64 (min a c)) w := by
  simp [go_sem]
theorem max_run (a c : Int) (w : World) : (Builtin.max_ #[T.int, T.int] T.int #[.int .i64 a, .int .i64 c]).run Tryd.prog w = .ok (.int .i64 (max a c)) w := by
  simp [go_sem]
theorem files_List (hs : Sep b w (blkI gf T.files_FS (fsV gm z) :: mapI fileF gm z.m :: L)) (hM : okM z.m) (hml : z.m.length ≤ 1000000) :
    C Tryd.prog N.files_FS_List #[.pointer (some ⟨gf, 0, none⟩)] w fun r w' => Sep b w' (growI nameF 9 1 r (sortM z.m) :: blkI gf T.files_FS (fsV gm z) :: mapI fileF gm z.m :: L) := by
  refine C.files_FS_List ?_
  unfold F.files_FS_List
  repeat (first
   | (with_reducible refine fs.a0 ?_)
   | ((with_reducible apply fs.r0 hs); (· (with_reducible (repeat (first | exact .blk | exact .rng | apply Rng.tl)))))
   | (with_reducible refine fs.c0 ?_)
   | ((with_reducible apply fs.e0); (· first | exact hS | exact hid); (· (with_reducible (repeat (first | exact .blk | exact .rng | apply Rng.tl)))))
   | (with_reducible refine fs.a1 ?_)
   | ((with_reducible apply fs.r1 hs); (· (with_reducible (repeat (first | exact .blk | exact .rng | apply Rng.tl)))))
   | (with_reducible refine fs.c1 ?_)
   | ((with_reducible apply fs.e1); (· first | exact hS | exact hid); (· (with_reducible (repeat (first | exact .blk | exact .rng | apply Rng.tl)))))
   | (with_reducible refine fs.a2 ?_)
   | ((with_reducible apply fs.r2 hs); (· (with_reducible (repeat (first | exact .blk | exact .rng | apply Rng.tl)))))
   | (with_reducible refine fs.c2 ?_)
   | ((with_reducible apply fs.e2); (· first | exact hS | exact hid); (· (with_reducible (repeat (first | exact .blk | exact .rng | apply Rng.tl)))))
   | (with_reducible refine fs.a3 ?_)
   | ((with_reducible apply fs.r3 hs); (· (with_reducible (repeat (first | exact .blk | exact .rng | apply Rng.tl)))))
   | (with_reducible refine fs.c3 ?_)
   | ((with_reducible apply fs.e3); (· first | exact hS | exact hid); (· (with_reducible (repeat (first | exact .blk | exact .rng | apply Rng.tl)))))
   | (with_reducible refine fs.a4 ?_)
   | ((with_reducible apply fs.r4 hs); (· (with_reducible (repeat (first | exact .blk | exact .rng | apply Rng.tl)))))
   | (with_reducible refine fs.c4 ?_)
   | ((with_reducible apply fs.e4); (· first | exact hS | exact hid); (· (with_reducible (repeat (first | exact .blk | exact .rng | apply Rng.tl)))))
   | (with_reducible (first | refine st_lens ?_ | refine st_eqls ?_ | refine st_nels ?_ | refine tk_eqls ?_ | refine tk_nels ?_ | refine mv.mk ?_ | refine nk_p ?_ | refine gdT_i ?_ | refine gdT_ft ?_ | refine gdT_tf ?_ | refine gdT_u ?_ | refine gd_u ?_ | refine gd_ft ?_ | refine gd_tf ?_ | refine gd_i ?_ | refine pk_t ?_ | refine pk_f ?_ | refine br_t ?_ | refine br_f ?_ | refine sp_boxa hs fun g w hs => ?_))
   | (with_reducible ((first | apply st_bin | apply st_ext | apply st_len | apply st_un | apply st_conv | apply st_mki | apply st_fld | apply st_cap | apply st_max | apply st_min | apply st_ixv | apply st_mkf); intro k' hk; simp [go_sem, thenR_ok, bin]; refine hk _ _ ?_; clear hk k'))
   | ((with_reducible (first | apply tk_bin | apply tk_ext | apply tk_len | apply tk_un)); (· intro w; simp [go_sem, bin]; rfl))
   | ((with_reducible apply sp_newr hs); (· kernel_rfl); intro g w hs))
  refine keysL hs (.tl .hd) hml (fun p hp => Nat.le_trans (hM p hp).1 (by decide)) fun v w hs => ?_
  repeat with_reducible refine mv.mk ?_
  exact hs
theorem sortM_len {α : Type} (m : AMap α) : (sortM m).length = m.length := by simp [sortM]
theorem sortM_mem {α : Type} {m : AMap α} {n : Bytes} (h : n ∈ sortM m) : ∃ p ∈ m, p.1 = n := by
  rw [sortM, List.mem_mergeSort] at h
  simpa using h
theorem files_Start (hs : Sep b w (blkI gf T.files_FS (fsV gm z) :: mapI fileF gm z.m :: L)) (hk : Ins L (listF iF 1 kv keep).it) (hM : okM z.m) (hml : z.m.length ≤ 1000000) :
    C Tryd.prog N.files_FS_Start #[.pointer (some ⟨gf, 0, none⟩), kv] w fun r w' => r = .tuple #[] ∧ Sep b w' (blkI gf T.files_FS (fsV gm (startF z keep)) :: mapI fileF gm (startF z keep).m :: L) := by
  refine C.files_FS_Start ?_
  unfold F.files_FS_Start
  repeat (first
   | (with_reducible (first | refine st_lens ?_ | refine st_eqls ?_ | refine st_nels ?_ | refine tk_eqls ?_ | refine tk_nels ?_ | refine mv.mk ?_ | refine nk_p ?_ | refine gdT_i ?_ | refine gdT_ft ?_ | refine gdT_tf ?_ | refine gdT_u ?_ | refine gd_u ?_ | refine gd_ft ?_ | refine gd_tf ?_ | refine gd_i ?_ | refine pk_t ?_ | refine pk_f ?_ | refine br_t ?_ | refine br_f ?_ | refine sp_boxa hs fun g w hs => ?_))
   | (with_reducible ((first | apply st_bin | apply st_ext | apply st_len | apply st_un | apply st_conv | apply st_mki | apply st_fld | apply st_cap | apply st_max | apply st_min | apply st_ixv | apply st_mkf); intro k' hk; simp [go_sem, thenR_ok, bin]; refine hk _ _ ?_; clear hk k'))
   | ((with_reducible (first | apply tk_bin | apply tk_ext | apply tk_len | apply tk_un)); (· intro w; simp [go_sem, bin]; rfl))
   | ((with_reducible apply sp_newr hs); (· kernel_rfl); intro g w hs))
  refine cl (files_List hs hM hml) ?_
  rintro v w hs
  replace hs := hs.growF .hd
  obtain ⟨A, c, rfl⟩ := hs.lst_len .lst
  have hnm : ∀ n ∈ sortM z.m, n.length ≤ 64 := fun n hn => by
    obtain ⟨p, hp, rfl⟩ := sortM_mem hn
    exact (hM p hp).1
  have hnl : (sortM z.m).length ≤ 1000000 := by rw [sortM_len]; exact hml
  unfold startF
  generalize sortM z.m = ns at *
  repeat (first
   | (with_reducible (first | refine st_lens ?_ | refine st_eqls ?_ | refine st_nels ?_ | refine tk_eqls ?_ | refine tk_nels ?_ | refine mv.mk ?_ | refine nk_p ?_ | refine gdT_i ?_ | refine gdT_ft ?_ | refine gdT_tf ?_ | refine gdT_u ?_ | refine gd_u ?_ | refine gd_ft ?_ | refine gd_tf ?_ | refine gd_i ?_ | refine pk_t ?_ | refine pk_f ?_ | refine br_t ?_ | refine br_f ?_ | refine sp_boxa hs fun g w hs => ?_))
   | (with_reducible ((first | apply st_bin | apply st_ext | apply st_len | apply st_un | apply st_conv | apply st_mki | apply st_fld | apply st_cap | apply st_max | apply st_min | apply st_ixv | apply st_mkf); intro k' hk; simp [go_sem, thenR_ok, bin]; refine hk _ _ ?_; clear hk k'))
   | ((with_reducible (first | apply tk_bin | apply tk_ext | apply tk_len | apply tk_un)); (· intro w; simp [go_sem, bin]; rfl))
   | ((with_reducible apply sp_newr hs); (· kernel_rfl); intro g w hs))
  refine lp_by (fun us w' => ∃ (i : Nat) (kv' : Value) (keep' : List Int) (m' : AMap FileD) (y1 y2 y3 y4 : Value), us = [kv', y1, y2, y3, y4, .int .i64 (i : Int)] ∧ i ≤ ns.length ∧ startL ns z.m keep = startL (ns.drop i) m' keep' ∧ okM m' ∧
      Sep b w' ((listF iF 1 kv' keep').it :: (listF nameF 1 (.slice A ns.length c) ns).it :: blkI gf T.files_FS (fsV gm z) :: mapI fileF gm m' :: L)) (fun us _ => match us with | [_, _, _, _, _, .int _ m] => ns.length - m.toNat | _ => 0) ⟨0, kv, keep, z.m, _, _, _, _, rfl, Nat.zero_le _, rfl, hM, hs.fact (hs.get (.tl (.tl (.tl hk))))⟩ ?_
  clear hs
  rintro x1 w ⟨i, kv', keep', m', y1, y2, y3, y4, hx1, hi, hst, hM', hs⟩
  simp only [List.cons.injEq, and_true] at hx1
  simp only [hx1.1, hx1.2.1, hx1.2.2.1, hx1.2.2.2.1, hx1.2.2.2.2.1, hx1.2.2.2.2.2]
  repeat (first
   | (with_reducible (first | refine st_lens ?_ | refine st_eqls ?_ | refine st_nels ?_ | refine tk_eqls ?_ | refine tk_nels ?_ | refine mv.mk ?_ | refine nk_p ?_ | refine gdT_i ?_ | refine gdT_ft ?_ | refine gdT_tf ?_ | refine gdT_u ?_ | refine gd_u ?_ | refine gd_ft ?_ | refine gd_tf ?_ | refine gd_i ?_ | refine pk_t ?_ | refine pk_f ?_ | refine br_t ?_ | refine br_f ?_ | refine sp_boxa hs fun g w hs => ?_))
   | (with_reducible ((first | apply st_bin | apply st_ext | apply st_len | apply st_un | apply st_conv | apply st_mki | apply st_fld | apply st_cap | apply st_max | apply st_min | apply st_ixv | apply st_mkf); intro k' hk; simp [go_sem, thenR_ok, bin]; refine hk _ _ ?_; clear hk k'))
   | ((with_reducible (first | apply tk_bin | apply tk_ext | apply tk_len | apply tk_un)); (· intro w; simp [go_sem, bin]; rfl))
   | ((with_reducible apply sp_newr hs); (· kernel_rfl); intro g w hs))
  refine br_split (fun hq => ?_) (fun hq => ?_)
  · have hi' : i < ns.length := by have := of_decide_eq_true hq; omega
    have hni := hnm _ (List.getElem_mem hi')
    have hdr : ns.drop i = ns[i] :: ns.drop (i + 1) := by rw [List.drop_eq_getElem_cons hi']
    rw [hdr, startL] at hst
    refine jn_by (fun us w' => ∃ (kv' : Value) (keep' : List Int) (m' : AMap FileD) (y1 y2 y3 y4 : Value), us = [kv', y1, y2, y3, y4] ∧ startL ns z.m keep = startL (ns.drop (i + 1)) m' keep' ∧ okM m' ∧
      Sep b w' ((listF iF 1 kv' keep').it :: (listF nameF 1 (.slice A ns.length c) ns).it :: blkI gf T.files_FS (fsV gm z) :: mapI fileF gm m' :: L)) ?_ ?_
    · refine sp_el1 hs (Ins.lst (.tl .hd)) fsT (by kernel_rfl) i rfl hi' fun x hs => ?_
      have hx : [x] = [str ns[i]] := hs.get .hd
      simp only [List.cons.injEq, and_true] at hx
      subst hx
      replace hs := hs.drop .hd
      repeat (first
       | (with_reducible refine fs.a0 ?_)
       | ((with_reducible apply fs.r0 hs); (· (with_reducible (repeat (first | exact .blk | exact .rng | apply Rng.tl)))))
       | (with_reducible refine fs.c0 ?_)
       | ((with_reducible apply fs.e0); (· first | exact hS | exact hid); (· (with_reducible (repeat (first | exact .blk | exact .rng | apply Rng.tl)))))
       | (with_reducible refine fs.a1 ?_)
       | ((with_reducible apply fs.r1 hs); (· (with_reducible (repeat (first | exact .blk | exact .rng | apply Rng.tl)))))
       | (with_reducible refine fs.c1 ?_)
       | ((with_reducible apply fs.e1); (· first | exact hS | exact hid); (· (with_reducible (repeat (first | exact .blk | exact .rng | apply Rng.tl)))))
       | (with_reducible refine fs.a2 ?_)
       | ((with_reducible apply fs.r2 hs); (· (with_reducible (repeat (first | exact .blk | exact .rng | apply Rng.tl)))))
       | (with_reducible refine fs.c2 ?_)
       | ((with_reducible apply fs.e2); (· first | exact hS | exact hid); (· (with_reducible (repeat (first | exact .blk | exact .rng | apply Rng.tl)))))
       | (with_reducible refine fs.a3 ?_)
       | ((with_reducible apply fs.r3 hs); (· (with_reducible (repeat (first | exact .blk | exact .rng | apply Rng.tl)))))
       | (with_reducible refine fs.c3 ?_)
       | ((with_reducible apply fs.e3); (· first | exact hS | exact hid); (· (with_reducible (repeat (first | exact .blk | exact .rng | apply Rng.tl)))))
       | (with_reducible refine fs.a4 ?_)
       | ((with_reducible apply fs.r4 hs); (· (with_reducible (repeat (first | exact .blk | exact .rng | apply Rng.tl)))))
       | (with_reducible refine fs.c4 ?_)
       | ((with_reducible apply fs.e4); (· first | exact hS | exact hid); (· (with_reducible (repeat (first | exact .blk | exact .rng | apply Rng.tl)))))
       | (with_reducible (first | refine st_lens ?_ | refine st_eqls ?_ | refine st_nels ?_ | refine tk_eqls ?_ | refine tk_nels ?_ | refine mv.mk ?_ | refine nk_p ?_ | refine gdT_i ?_ | refine gdT_ft ?_ | refine gdT_tf ?_ | refine gdT_u ?_ | refine gd_u ?_ | refine gd_ft ?_ | refine gd_tf ?_ | refine gd_i ?_ | refine pk_t ?_ | refine pk_f ?_ | refine br_t ?_ | refine br_f ?_ | refine sp_boxa hs fun g w hs => ?_))
       | (with_reducible ((first | apply st_bin | apply st_ext | apply st_len | apply st_un | apply st_conv | apply st_mki | apply st_fld | apply st_cap | apply st_max | apply st_min | apply st_ixv | apply st_mkf); intro k' hk; simp [go_sem, thenR_ok, bin]; refine hk _ _ ?_; clear hk k'))
       | ((with_reducible (first | apply tk_bin | apply tk_ext | apply tk_len | apply tk_un)); (· intro w; simp [go_sem, bin]; rfl))
       | ((with_reducible apply sp_newr hs); (· kernel_rfl); intro g w hs))
      obtain ⟨x, cs, hlk, hrun, hs⟩ : ∃ (x : FileD) (cs : List Value), x = (lookM ns[i] m').getD ([], 0) ∧ (Instr.lookup T.map_string_files_file (.map (some gm)) (kstr ns[i]) false).run Tryd.prog w = .ok (.agg cs.toArray) w ∧ Sep b w ((fileF cs x).it :: (listF iF 1 kv' keep').it :: (listF nameF 1 (.slice A ns.length c) ns).it :: blkI gf T.files_FS (fsV gm z) :: mapI fileF gm m' :: L) := by
        rcases map_look hs (.tl (.tl (.tl .hd))) fileT strT (zeroFile w) ns[i] with ⟨q1, q2, q3⟩ | ⟨a, cs, q1, q2, q3, hs⟩
        · exact ⟨([], 0), _, by rw [q1]; rfl, q3, zeroFileF hs⟩
        · exact ⟨a, cs, by rw [q1]; rfl, q3, hs⟩
      have hxo : okF x := hlk ▸ hM'.get _
      have hxo' := hxo
      obtain ⟨o1, o2, o3⟩ := hxo'
      rw [← hlk] at hst
      obtain ⟨sv, hcs, hsv⟩ : FileS _ _ cs x := hs.get .hd
      subst hcs
      replace hs := hs.fact (f := byF sv x.1) hsv
      obtain ⟨A1, c1, hsv1⟩ := by_slice hs .hd
      have hlen : ∀ w', (Builtin.len_ #[T.sl_uint8] T.int #[sv]).run Tryd.prog w' = .ok (.int .i64 x.1.length) w' := fun w' => by rw [hsv1]; simp [go_sem]
      have hone : sv.cells = #[sv] ∧ sv.oneCell' = true := by rw [hsv1]; exact ⟨rfl, rfl⟩
      refine st_of hrun ?_
      repeat (first
       | (with_reducible (first | refine st_lens ?_ | refine st_eqls ?_ | refine st_nels ?_ | refine tk_eqls ?_ | refine tk_nels ?_ | refine mv.mk ?_ | refine nk_p ?_ | refine gdT_i ?_ | refine gdT_ft ?_ | refine gdT_tf ?_ | refine gdT_u ?_ | refine gd_u ?_ | refine gd_ft ?_ | refine gd_tf ?_ | refine gd_i ?_ | refine pk_t ?_ | refine pk_f ?_ | refine br_t ?_ | refine br_f ?_ | refine sp_boxa hs fun g w hs => ?_))
       | (with_reducible ((first | apply st_bin | apply st_ext | apply st_len | apply st_un | apply st_conv | apply st_mki | apply st_fld | apply st_cap | apply st_max | apply st_min | apply st_ixv | apply st_mkf); intro k' hk; simp [go_sem, thenR_ok, bin]; refine hk _ _ ?_; clear hk k'))
       | ((with_reducible (first | apply tk_bin | apply tk_ext | apply tk_len | apply tk_un)); (· intro w; simp [go_sem, bin]; rfl))
       | ((with_reducible apply sp_newr hs); (· kernel_rfl); intro g w hs))
      refine sp_setr (ds := fileC sv (.int .i64 x.2)) hs .hd (by kernel_rfl) rfl (fileC_ones hone.2) fun w hs => ?_
      repeat (first
       | (with_reducible refine file.a0 ?_)
       | ((with_reducible apply file.r0 hs); (· (with_reducible (repeat (first | exact .blk | exact .rng | apply Rng.tl)))))
       | (with_reducible refine file.c0 ?_)
       | ((with_reducible apply file.e0); (· first | exact hS | exact hid); (· (with_reducible (repeat (first | exact .blk | exact .rng | apply Rng.tl)))))
       | (with_reducible refine file.a1 ?_)
       | ((with_reducible apply file.r1 hs); (· (with_reducible (repeat (first | exact .blk | exact .rng | apply Rng.tl)))))
       | (with_reducible refine file.c1 ?_)
       | ((with_reducible apply file.e1); (· first | exact hS | exact hid); (· (with_reducible (repeat (first | exact .blk | exact .rng | apply Rng.tl)))))
       | (with_reducible (first | refine st_lens ?_ | refine st_eqls ?_ | refine st_nels ?_ | refine tk_eqls ?_ | refine tk_nels ?_ | refine mv.mk ?_ | refine nk_p ?_ | refine gdT_i ?_ | refine gdT_ft ?_ | refine gdT_tf ?_ | refine gdT_u ?_ | refine gd_u ?_ | refine gd_ft ?_ | refine gd_tf ?_ | refine gd_i ?_ | refine pk_t ?_ | refine pk_f ?_ | refine br_t ?_ | refine br_f ?_ | refine sp_boxa hs fun g w hs => ?_))
       | (with_reducible ((first | apply st_bin | apply st_ext | apply st_len | apply st_un | apply st_conv | apply st_mki | apply st_fld | apply st_cap | apply st_max | apply st_min | apply st_ixv | apply st_mkf); intro k' hk; simp [go_sem, thenR_ok, bin]; refine hk _ _ ?_; clear hk k'))
       | ((with_reducible (first | apply tk_bin | apply tk_ext | apply tk_len | apply tk_un)); (· intro w; simp [go_sem, bin]; rfl))
       | ((with_reducible apply sp_newr hs); (· kernel_rfl); intro g w hs))
      refine st_of (hlen w) ?_
      repeat (first
       | ((with_reducible apply tn_add); (· omega))
       | ((with_reducible apply tn_sub); (· omega))
       | ((with_reducible apply tn_mul); (· omega))
       | ((with_reducible apply sn_add); (· omega))
       | ((with_reducible apply sn_sub); (· omega))
       | ((with_reducible apply sn_mul); (· omega))
       | (with_reducible refine file.a0 ?_)
       | ((with_reducible apply file.r0 hs); (· (with_reducible (repeat (first | exact .blk | exact .rng | apply Rng.tl)))))
       | (with_reducible refine file.c0 ?_)
       | ((with_reducible apply file.e0); (· first | exact hS | exact hid); (· (with_reducible (repeat (first | exact .blk | exact .rng | apply Rng.tl)))))
       | (with_reducible refine file.a1 ?_)
       | ((with_reducible apply file.r1 hs); (· (with_reducible (repeat (first | exact .blk | exact .rng | apply Rng.tl)))))
       | (with_reducible refine file.c1 ?_)
       | ((with_reducible apply file.e1); (· first | exact hS | exact hid); (· (with_reducible (repeat (first | exact .blk | exact .rng | apply Rng.tl)))))
       | (with_reducible (first | refine st_lens ?_ | refine st_eqls ?_ | refine st_nels ?_ | refine tk_eqls ?_ | refine tk_nels ?_ | refine mv.mk ?_ | refine nk_p ?_ | refine gdT_i ?_ | refine gdT_ft ?_ | refine gdT_tf ?_ | refine gdT_u ?_ | refine gd_u ?_ | refine gd_ft ?_ | refine gd_tf ?_ | refine gd_i ?_ | refine pk_t ?_ | refine pk_f ?_ | refine br_t ?_ | refine br_f ?_ | refine sp_boxa hs fun g w hs => ?_))
       | (with_reducible ((first | apply st_bin | apply st_ext | apply st_len | apply st_un | apply st_conv | apply st_mki | apply st_fld | apply st_cap | apply st_max | apply st_min | apply st_ixv | apply st_mkf); intro k' hk; simp [go_sem, thenR_ok, bin]; refine hk _ _ ?_; clear hk k'))
       | ((with_reducible (first | apply tk_bin | apply tk_ext | apply tk_len | apply tk_un)); (· intro w; simp [go_sem, bin]; rfl))
       | ((with_reducible apply sp_newr hs); (· kernel_rfl); intro g w hs))
      by_cases h0 : (x.1.length : Int) - x.2 = 0
      · rw [show (((x.1.length : Int) - x.2) == 0) = true by simpa using h0]
        repeat (first
         | (with_reducible (first | refine st_lens ?_ | refine st_eqls ?_ | refine st_nels ?_ | refine tk_eqls ?_ | refine tk_nels ?_ | refine mv.mk ?_ | refine nk_p ?_ | refine gdT_i ?_ | refine gdT_ft ?_ | refine gdT_tf ?_ | refine gdT_u ?_ | refine gd_u ?_ | refine gd_ft ?_ | refine gd_tf ?_ | refine gd_i ?_ | refine pk_t ?_ | refine pk_f ?_ | refine br_t ?_ | refine br_f ?_ | refine sp_boxa hs fun g w hs => ?_))
         | (with_reducible ((first | apply st_bin | apply st_ext | apply st_len | apply st_un | apply st_conv | apply st_mki | apply st_fld | apply st_cap | apply st_max | apply st_min | apply st_ixv | apply st_mkf); intro k' hk; simp [go_sem, thenR_ok, bin]; refine hk _ _ ?_; clear hk k'))
         | ((with_reducible (first | apply tk_bin | apply tk_ext | apply tk_len | apply tk_un)); (· intro w; simp [go_sem, bin]; rfl))
         | ((with_reducible apply sp_newr hs); (· kernel_rfl); intro g w hs))
        rw [if_pos h0] at hst
        exact ⟨_, _, _, _, _, _, _, rfl, hst, hM', hs.sbl (.drop (.drop (.drop .all)))⟩
      rw [show (((x.1.length : Int) - x.2) == 0) = false by simpa using h0]
      repeat (first
       | (with_reducible (first | refine st_lens ?_ | refine st_eqls ?_ | refine st_nels ?_ | refine tk_eqls ?_ | refine tk_nels ?_ | refine mv.mk ?_ | refine nk_p ?_ | refine gdT_i ?_ | refine gdT_ft ?_ | refine gdT_tf ?_ | refine gdT_u ?_ | refine gd_u ?_ | refine gd_ft ?_ | refine gd_tf ?_ | refine gd_i ?_ | refine pk_t ?_ | refine pk_f ?_ | refine br_t ?_ | refine br_f ?_ | refine sp_boxa hs fun g w hs => ?_))
       | (with_reducible ((first | apply st_bin | apply st_ext | apply st_len | apply st_un | apply st_conv | apply st_mki | apply st_fld | apply st_cap | apply st_max | apply st_min | apply st_ixv | apply st_mkf); intro k' hk; simp [go_sem, thenR_ok, bin]; refine hk _ _ ?_; clear hk k'))
       | ((with_reducible (first | apply tk_bin | apply tk_ext | apply tk_len | apply tk_un)); (· intro w; simp [go_sem, bin]; rfl))
       | ((with_reducible apply sp_newr hs); (· kernel_rfl); intro g w hs))
      rw [if_neg h0] at hst
      obtain ⟨A2, c2, hkv⟩ := hs.lst_len (Ins.lst (.tl (.tl (.tl .hd))))
      have hkl : ∀ w', (Builtin.len_ #[T.sl_int] T.int #[kv']).run Tryd.prog w' = .ok (.int .i64 keep'.length) w' := fun w' => by rw [hkv]; simp [go_sem]
      refine st_of (hkl w) ?_
      repeat (first
       | (with_reducible (first | refine st_lens ?_ | refine st_eqls ?_ | refine st_nels ?_ | refine tk_eqls ?_ | refine tk_nels ?_ | refine mv.mk ?_ | refine nk_p ?_ | refine gdT_i ?_ | refine gdT_ft ?_ | refine gdT_tf ?_ | refine gdT_u ?_ | refine gd_u ?_ | refine gd_ft ?_ | refine gd_tf ?_ | refine gd_i ?_ | refine pk_t ?_ | refine pk_f ?_ | refine br_t ?_ | refine br_f ?_ | refine sp_boxa hs fun g w hs => ?_))
       | (with_reducible ((first | apply st_bin | apply st_ext | apply st_len | apply st_un | apply st_conv | apply st_mki | apply st_fld | apply st_cap | apply st_max | apply st_min | apply st_ixv | apply st_mkf); intro k' hk; simp [go_sem, thenR_ok, bin]; refine hk _ _ ?_; clear hk k'))
       | ((with_reducible (first | apply tk_bin | apply tk_ext | apply tk_len | apply tk_un)); (· intro w; simp [go_sem, bin]; rfl))
       | ((with_reducible apply sp_newr hs); (· kernel_rfl); intro g w hs))
      refine jn_by (fun us w' => ∃ (kv2 : Value), us = [kv2, .int .i64 ((cutF x keep').1.2 - x.2)] ∧ Sep b w' ((listF iF 1 kv2 (cutF x keep').2).it :: blkI g T.files_file (fileC sv (.int .i64 x.2)) :: (byF sv x.1).it :: (listF nameF 1 (.slice A ns.length c) ns).it :: blkI gf T.files_FS (fsV gm z) :: mapI fileF gm m' :: L)) ?_ ?_
      · cases keep' with
        | nil =>
          refine br_f ?_
          exact ⟨kv', by simp [cutF], hs.sbl (.cons (.tl (.tl (.tl .hd))) (.cons .hd (.cons .hd (.drop .all))))⟩
        | cons k ks =>
          rw [show decide (0 < (k :: ks).length) = true by simp]
          refine br_t ?_
          obtain ⟨g1, o1, y, hix, hyl, hs⟩ := hs.el (P := Tryd.prog) (T := T.sl_int) (.tl (.tl (.tl .hd))) fiT 0 (by simp)
          have hy : y = [.int .i64 k] := hs.get (.tl .hd)
          subst hy
          obtain ⟨kv3, hsl, hs⟩ := slfr_el (P := Tryd.prog) (T := T.sl_int) hs (.tl (.tl (.tl (.tl (.tl .hd))))) fiT 1 (by simp) .i64
          repeat with_reducible refine mv.mk ?_
          refine tk_run (hix .i64) ?_
          refine tk_ldx (fun w' (e : w' = w.drew) => e ▸ hs.drew.mayr .all) (.tl .rng) (by kernel_rfl) ?_
          repeat with_reducible refine mv.mk ?_
          refine tk_run (min_run _ _) ?_
          refine tk_run (max_run _ _) ?_
          repeat with_reducible refine mv.mk ?_
          refine tk_run hsl ?_
          repeat with_reducible refine mv.mk ?_
          refine ⟨kv3, by simp [cutF]; omega, hs.drew.sbl (.cons .hd (.drop (.drop (.cons .hd (.cons .hd (.drop (.drop .all)))))))⟩
      · rintro x3 w ⟨kv2, hx3, hs⟩
        simp only [List.cons.injEq, and_true] at hx3
        simp only [hx3.1, hx3.2]
        obtain ⟨n, hc, hn, hn2⟩ := cutF_nat hxo keep'
        rw [hc] at hst ⊢
        repeat (first
         | ((with_reducible apply tn_add); (· omega))
         | ((with_reducible apply tn_sub); (· omega))
         | ((with_reducible apply tn_mul); (· omega))
         | ((with_reducible apply sn_add); (· omega))
         | ((with_reducible apply sn_sub); (· omega))
         | ((with_reducible apply sn_mul); (· omega))
         | (with_reducible refine file.a0 ?_)
         | ((with_reducible apply file.r0 hs); (· (with_reducible (repeat (first | exact .blk | exact .rng | apply Rng.tl)))))
         | (with_reducible refine file.c0 ?_)
         | ((with_reducible apply file.e0); (· first | exact hS | exact hid); (· (with_reducible (repeat (first | exact .blk | exact .rng | apply Rng.tl)))))
         | (with_reducible refine file.a1 ?_)
         | ((with_reducible apply file.r1 hs); (· (with_reducible (repeat (first | exact .blk | exact .rng | apply Rng.tl)))))
         | (with_reducible refine file.c1 ?_)
         | ((with_reducible apply file.e1); (· first | exact hS | exact hid); (· (with_reducible (repeat (first | exact .blk | exact .rng | apply Rng.tl)))))
         | (with_reducible (first | refine st_lens ?_ | refine st_eqls ?_ | refine st_nels ?_ | refine tk_eqls ?_ | refine tk_nels ?_ | refine mv.mk ?_ | refine nk_p ?_ | refine gdT_i ?_ | refine gdT_ft ?_ | refine gdT_tf ?_ | refine gdT_u ?_ | refine gd_u ?_ | refine gd_ft ?_ | refine gd_tf ?_ | refine gd_i ?_ | refine pk_t ?_ | refine pk_f ?_ | refine br_t ?_ | refine br_f ?_ | refine sp_boxa hs fun g w hs => ?_))
         | (with_reducible ((first | apply st_bin | apply st_ext | apply st_len | apply st_un | apply st_conv | apply st_mki | apply st_fld | apply st_cap | apply st_max | apply st_min | apply st_ixv | apply st_mkf); intro k' hk; simp [go_sem, thenR_ok, bin]; refine hk _ _ ?_; clear hk k'))
         | ((with_reducible (first | apply tk_bin | apply tk_ext | apply tk_len | apply tk_un)); (· intro w; simp [go_sem, bin]; rfl))
         | ((with_reducible apply sp_newr hs); (· kernel_rfl); intro g w hs))
        rw [show x.2 + ((n : Int) - x.2) = n by omega]
        obtain ⟨A3, hrun3, hsl3, ho3⟩ := sl_hm fbT (hs.get (.tl (.tl .hd))).1 n hn .i64 .i64
        have hf := (hs.get (.tl (.tl .hd))).2
        replace hs := hs.fact (f := byF (.slice A3 n n) (x.1.take n)) (by
          have e : (x.1.take n).length = n := by simp; omega
          show SlS _ _ _ (x.1.take n).length 1 _
          rw [e]
          refine ⟨?_, fun h0 k hk => hf (by omega) k (ho3 ▸ hk)⟩
          have e2 : (u8s x.1).take (n * 1) = u8s (x.1.take n) := by simp [u8s]
          rw [← e2]; exact hsl3)
        replace hs := hs.drew
        refine dr_can hs .all ?_
        repeat (first
         | (with_reducible refine fs.a0 ?_)
         | ((with_reducible apply fs.r0 hs); (· (with_reducible (repeat (first | exact .blk | exact .rng | apply Rng.tl)))))
         | (with_reducible refine fs.c0 ?_)
         | ((with_reducible apply fs.e0); (· first | exact hS | exact hid); (· (with_reducible (repeat (first | exact .blk | exact .rng | apply Rng.tl)))))
         | (with_reducible refine fs.a1 ?_)
         | ((with_reducible apply fs.r1 hs); (· (with_reducible (repeat (first | exact .blk | exact .rng | apply Rng.tl)))))
         | (with_reducible refine fs.c1 ?_)
         | ((with_reducible apply fs.e1); (· first | exact hS | exact hid); (· (with_reducible (repeat (first | exact .blk | exact .rng | apply Rng.tl)))))
         | (with_reducible refine fs.a2 ?_)
         | ((with_reducible apply fs.r2 hs); (· (with_reducible (repeat (first | exact .blk | exact .rng | apply Rng.tl)))))
         | (with_reducible refine fs.c2 ?_)
         | ((with_reducible apply fs.e2); (· first | exact hS | exact hid); (· (with_reducible (repeat (first | exact .blk | exact .rng | apply Rng.tl)))))
         | (with_reducible refine fs.a3 ?_)
         | ((with_reducible apply fs.r3 hs); (· (with_reducible (repeat (first | exact .blk | exact .rng | apply Rng.tl)))))
         | (with_reducible refine fs.c3 ?_)
         | ((with_reducible apply fs.e3); (· first | exact hS | exact hid); (· (with_reducible (repeat (first | exact .blk | exact .rng | apply Rng.tl)))))
         | (with_reducible refine fs.a4 ?_)
         | ((with_reducible apply fs.r4 hs); (· (with_reducible (repeat (first | exact .blk | exact .rng | apply Rng.tl)))))
         | (with_reducible refine fs.c4 ?_)
         | ((with_reducible apply fs.e4); (· first | exact hS | exact hid); (· (with_reducible (repeat (first | exact .blk | exact .rng | apply Rng.tl)))))
         | (with_reducible refine file.a0 ?_)
         | ((with_reducible apply file.r0 hs); (· (with_reducible (repeat (first | exact .blk | exact .rng | apply Rng.tl)))))
         | (with_reducible refine file.c0 ?_)
         | ((with_reducible apply file.e0); (· first | exact hS | exact hid); (· (with_reducible (repeat (first | exact .blk | exact .rng | apply Rng.tl)))))
         | (with_reducible refine file.a1 ?_)
         | ((with_reducible apply file.r1 hs); (· (with_reducible (repeat (first | exact .blk | exact .rng | apply Rng.tl)))))
         | (with_reducible refine file.c1 ?_)
         | ((with_reducible apply file.e1); (· first | exact hS | exact hid); (· (with_reducible (repeat (first | exact .blk | exact .rng | apply Rng.tl)))))
         | (with_reducible (first | refine st_lens ?_ | refine st_eqls ?_ | refine st_nels ?_ | refine tk_eqls ?_ | refine tk_nels ?_ | refine mv.mk ?_ | refine nk_p ?_ | refine gdT_i ?_ | refine gdT_ft ?_ | refine gdT_tf ?_ | refine gdT_u ?_ | refine gd_u ?_ | refine gd_ft ?_ | refine gd_tf ?_ | refine gd_i ?_ | refine pk_t ?_ | refine pk_f ?_ | refine br_t ?_ | refine br_f ?_ | refine sp_boxa hs fun g w hs => ?_))
         | (with_reducible ((first | apply st_bin | apply st_ext | apply st_len | apply st_un | apply st_conv | apply st_mki | apply st_fld | apply st_cap | apply st_max | apply st_min | apply st_ixv | apply st_mkf); intro k' hk; simp [go_sem, thenR_ok, bin]; refine hk _ _ ?_; clear hk k'))
         | ((with_reducible (first | apply tk_bin | apply tk_ext | apply tk_len | apply tk_un)); (· intro w; simp [go_sem, bin]; rfl))
         | ((with_reducible apply sp_newr hs); (· kernel_rfl); intro g w hs))
        refine tk_run hrun3 ?_
        repeat (first
         | (with_reducible (first | refine st_lens ?_ | refine st_eqls ?_ | refine st_nels ?_ | refine tk_eqls ?_ | refine tk_nels ?_ | refine mv.mk ?_ | refine nk_p ?_ | refine gdT_i ?_ | refine gdT_ft ?_ | refine gdT_tf ?_ | refine gdT_u ?_ | refine gd_u ?_ | refine gd_ft ?_ | refine gd_tf ?_ | refine gd_i ?_ | refine pk_t ?_ | refine pk_f ?_ | refine br_t ?_ | refine br_f ?_ | refine sp_boxa hs fun g w hs => ?_))
         | (with_reducible ((first | apply st_bin | apply st_ext | apply st_len | apply st_un | apply st_conv | apply st_mki | apply st_fld | apply st_cap | apply st_max | apply st_min | apply st_ixv | apply st_mkf); intro k' hk; simp [go_sem, thenR_ok, bin]; refine hk _ _ ?_; clear hk k'))
         | ((with_reducible (first | apply tk_bin | apply tk_ext | apply tk_len | apply tk_un)); (· intro w; simp [go_sem, bin]; rfl))
         | ((with_reducible apply sp_newr hs); (· kernel_rfl); intro g w hs))
        refine tk_build (cells := (fileC (.slice A3 n n) (.int .i64 (n : Int))).toArray) (by kernel_rfl) ?_
        refine sp_mapset (F := fileF) (a := (x.1.take n, (n : Int))) hs (.tl (.tl (.tl (.tl (.tl (.tl .hd)))))) fileT strT ns[i] ⟨_, rfl, hs.get .hd⟩ fun w hs => ?_
        exact ⟨_, _, _, _, _, _, _, rfl, hst, hM'.put hni ⟨by omega, by simp; omega, by simp; omega⟩, hs.sbl (.cons (.tl (.tl .hd)) (.cons (.tl (.tl (.tl (.tl .hd)))) (.cons (.tl (.tl (.tl (.tl .hd)))) (.cons .hd (.drop (.drop (.drop .all)))))))⟩
    · rintro x2 w ⟨kv', keep', m', y1, y2, y3, y4, hx2, hst, hM', hs⟩
      simp only [List.cons.injEq, and_true] at hx2
      simp only [hx2.1, hx2.2.1, hx2.2.2.1, hx2.2.2.2.1, hx2.2.2.2.2]
      repeat (first
       | (with_reducible (first | refine st_lens ?_ | refine st_eqls ?_ | refine st_nels ?_ | refine tk_eqls ?_ | refine tk_nels ?_ | refine mv.mk ?_ | refine nk_p ?_ | refine gdT_i ?_ | refine gdT_ft ?_ | refine gdT_tf ?_ | refine gdT_u ?_ | refine gd_u ?_ | refine gd_ft ?_ | refine gd_tf ?_ | refine gd_i ?_ | refine pk_t ?_ | refine pk_f ?_ | refine br_t ?_ | refine br_f ?_ | refine sp_boxa hs fun g w hs => ?_))
       | (with_reducible ((first | apply st_bin | apply st_ext | apply st_len | apply st_un | apply st_conv | apply st_mki | apply st_fld | apply st_cap | apply st_max | apply st_min | apply st_ixv | apply st_mkf); intro k' hk; simp [go_sem, thenR_ok, bin]; refine hk _ _ ?_; clear hk k'))
       | ((with_reducible (first | apply tk_bin | apply tk_ext | apply tk_len | apply tk_un)); (· intro w; simp [go_sem, bin]; rfl))
       | ((with_reducible apply sp_newr hs); (· kernel_rfl); intro g w hs))
      rw [i64_succ (by omega)]
      exact ⟨⟨i + 1, _, _, _, _, _, _, _, rfl, hi', hst, hM', hs⟩, by simp; omega⟩
  · obtain rfl : i = ns.length := by have := of_decide_eq_false hq; omega
    rw [List.drop_length, startL] at hst
    replace hs := hs.sbl (L' := blkI gf T.files_FS (fsV gm z) :: mapI fileF gm m' :: L) (.drop (.drop .all))
    repeat (first
     | (with_reducible refine fs.a0 ?_)
     | ((with_reducible apply fs.r0 hs); (· (with_reducible (repeat (first | exact .blk | exact .rng | apply Rng.tl)))))
     | (with_reducible refine fs.c0 ?_)
     | ((with_reducible apply fs.e0); (· first | exact hS | exact hid); (· (with_reducible (repeat (first | exact .blk | exact .rng | apply Rng.tl)))))
     | (with_reducible refine fs.a1 ?_)
     | ((with_reducible apply fs.r1 hs); (· (with_reducible (repeat (first | exact .blk | exact .rng | apply Rng.tl)))))
     | (with_reducible refine fs.c1 ?_)
     | ((with_reducible apply fs.e1); (· first | exact hS | exact hid); (· (with_reducible (repeat (first | exact .blk | exact .rng | apply Rng.tl)))))
     | (with_reducible refine fs.a2 ?_)
     | ((with_reducible apply fs.r2 hs); (· (with_reducible (repeat (first | exact .blk | exact .rng | apply Rng.tl)))))
     | (with_reducible refine fs.c2 ?_)
     | ((with_reducible apply fs.e2); (· first | exact hS | exact hid); (· (with_reducible (repeat (first | exact .blk | exact .rng | apply Rng.tl)))))
     | (with_reducible refine fs.a3 ?_)
     | ((with_reducible apply fs.r3 hs); (· (with_reducible (repeat (first | exact .blk | exact .rng | apply Rng.tl)))))
     | (with_reducible refine fs.c3 ?_)
     | ((with_reducible apply fs.e3); (· first | exact hS | exact hid); (· (with_reducible (repeat (first | exact .blk | exact .rng | apply Rng.tl)))))
     | (with_reducible refine fs.a4 ?_)
     | ((with_reducible apply fs.r4 hs); (· (with_reducible (repeat (first | exact .blk | exact .rng | apply Rng.tl)))))
     | (with_reducible refine fs.c4 ?_)
     | ((with_reducible apply fs.e4); (· first | exact hS | exact hid); (· (with_reducible (repeat (first | exact .blk | exact .rng | apply Rng.tl)))))
     | (with_reducible (first | refine st_lens ?_ | refine st_eqls ?_ | refine st_nels ?_ | refine tk_eqls ?_ | refine tk_nels ?_ | refine mv.mk ?_ | refine nk_p ?_ | refine gdT_i ?_ | refine gdT_ft ?_ | refine gdT_tf ?_ | refine gdT_u ?_ | refine gd_u ?_ | refine gd_ft ?_ | refine gd_tf ?_ | refine gd_i ?_ | refine pk_t ?_ | refine pk_f ?_ | refine br_t ?_ | refine br_f ?_ | refine sp_boxa hs fun g w hs => ?_))
     | (with_reducible ((first | apply st_bin | apply st_ext | apply st_len | apply st_un | apply st_conv | apply st_mki | apply st_fld | apply st_cap | apply st_max | apply st_min | apply st_ixv | apply st_mkf); intro k' hk; simp [go_sem, thenR_ok, bin]; refine hk _ _ ?_; clear hk k'))
     | ((with_reducible (first | apply tk_bin | apply tk_ext | apply tk_len | apply tk_un)); (· intro w; simp [go_sem, bin]; rfl))
     | ((with_reducible apply sp_newr hs); (· kernel_rfl); intro g w hs))
    refine sx_st (p := 4) hs .hd (by kernel_rfl) ⟨rfl, rfl⟩ (by simp [fsC]) fun w hs => ?_
    replace hs : Sep b w (blkI gf T.files_FS (fsC (.map (some gm)) (.int .i64 z.steps) (.bool z.armed) (.int .i64 z.left) (.bool false)) :: mapI fileF gm m' :: L) := hs
    repeat (first
     | (with_reducible refine fs.a0 ?_)
     | ((with_reducible apply fs.r0 hs); (· (with_reducible (repeat (first | exact .blk | exact .rng | apply Rng.tl)))))
     | (with_reducible refine fs.c0 ?_)
     | ((with_reducible apply fs.e0); (· first | exact hS | exact hid); (· (with_reducible (repeat (first | exact .blk | exact .rng | apply Rng.tl)))))
     | (with_reducible refine fs.a1 ?_)
     | ((with_reducible apply fs.r1 hs); (· (with_reducible (repeat (first | exact .blk | exact .rng | apply Rng.tl)))))
     | (with_reducible refine fs.c1 ?_)
     | ((with_reducible apply fs.e1); (· first | exact hS | exact hid); (· (with_reducible (repeat (first | exact .blk | exact .rng | apply Rng.tl)))))
     | (with_reducible refine fs.a2 ?_)
     | ((with_reducible apply fs.r2 hs); (· (with_reducible (repeat (first | exact .blk | exact .rng | apply Rng.tl)))))
     | (with_reducible refine fs.c2 ?_)
     | ((with_reducible apply fs.e2); (· first | exact hS | exact hid); (· (with_reducible (repeat (first | exact .blk | exact .rng | apply Rng.tl)))))
     | (with_reducible refine fs.a3 ?_)
     | ((with_reducible apply fs.r3 hs); (· (with_reducible (repeat (first | exact .blk | exact .rng | apply Rng.tl)))))
     | (with_reducible refine fs.c3 ?_)
     | ((with_reducible apply fs.e3); (· first | exact hS | exact hid); (· (with_reducible (repeat (first | exact .blk | exact .rng | apply Rng.tl)))))
     | (with_reducible refine fs.a4 ?_)
     | ((with_reducible apply fs.r4 hs); (· (with_reducible (repeat (first | exact .blk | exact .rng | apply Rng.tl)))))
     | (with_reducible refine fs.c4 ?_)
     | ((with_reducible apply fs.e4); (· first | exact hS | exact hid); (· (with_reducible (repeat (first | exact .blk | exact .rng | apply Rng.tl)))))
     | (with_reducible (first | refine st_lens ?_ | refine st_eqls ?_ | refine st_nels ?_ | refine tk_eqls ?_ | refine tk_nels ?_ | refine mv.mk ?_ | refine nk_p ?_ | refine gdT_i ?_ | refine gdT_ft ?_ | refine gdT_tf ?_ | refine gdT_u ?_ | refine gd_u ?_ | refine gd_ft ?_ | refine gd_tf ?_ | refine gd_i ?_ | refine pk_t ?_ | refine pk_f ?_ | refine br_t ?_ | refine br_f ?_ | refine sp_boxa hs fun g w hs => ?_))
     | (with_reducible ((first | apply st_bin | apply st_ext | apply st_len | apply st_un | apply st_conv | apply st_mki | apply st_fld | apply st_cap | apply st_max | apply st_min | apply st_ixv | apply st_mkf); intro k' hk; simp [go_sem, thenR_ok, bin]; refine hk _ _ ?_; clear hk k'))
     | ((with_reducible (first | apply tk_bin | apply tk_ext | apply tk_len | apply tk_un)); (· intro w; simp [go_sem, bin]; rfl))
     | ((with_reducible apply sp_newr hs); (· kernel_rfl); intro g w hs))
    refine sx_st (p := 2) hs .hd (by kernel_rfl) ⟨rfl, rfl⟩ (by simp [fsC]) fun w hs => ?_
    refine ⟨trivial, ?_⟩
    rw [← hst] at hs
    exact hs
end
end Go.Proofs.YtiaiglgfangedaaDoor
