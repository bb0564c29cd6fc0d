/- files: the law's step: one thing done to both. -/
import Derived.Test.YtiaiglgfangedaaDoorGA
import Derived.Test.YtiaiglgfangedaaDoorFP
import Derived.Test.YtiaiglgfangedaaDoorFW
import Derived.Test.YtiaiglgfangedaaDoorG5
import Derived.Test.YtiaiglgfangedaaDoorG4
import Derived.Test.YtiaiglgfangedaaDoorG3
set_option linter.unusedVariables false
set_option linter.unusedSimpArgs false
set_option linter.unusedSectionVars false
namespace Go.Proofs.YtiaiglgfangedaaDoor
open Go Go.Isk Go.RowKit
set_option maxRecDepth 20000
/-! ### plain -/
def kindN (x : ActD) : Int := IntKind.u64.wrap x.kind % 8
def stepZ (z : FsD) (x : ActD) : FsD × Int :=
  if kindN x = 0 ∨ kindN x = 1 then appendF z x.name x.data else if kindN x = 2 then syncF z x.name else if kindN x = 3 then renameF z x.name x.now
  else if kindN x = 4 then removeF z x.name else if kindN x = 5 then cutZ z x.name x.n else if kindN x = 6 then armF z x.n else (startF z x.keep, 0)
def stepD (r : RFS) (x : ActD) : RFS × Int :=
  if kindN x = 0 ∨ kindN x = 1 then appendR r x.name x.data else if kindN x = 2 then changeR r 0 x.name [] 0 else if kindN x = 3 then changeR r 1 x.name x.now 0
  else if kindN x = 4 then changeR r 2 x.name [] 0 else if kindN x = 5 then changeR r 3 x.name [] x.n else if kindN x = 6 then armR r x.n else (startR r x.keep, 0)
theorem Rel.act {z : FsD} {r : RFS} (h : Rel z r) (x : ActD) : Rel (stepZ z x).1 (stepD r x).1 ∧ (stepD r x).2 = (stepZ z x).2 := by
  unfold stepZ stepD
  by_cases h0 : kindN x = 0 ∨ kindN x = 1
  · rw [if_pos h0, if_pos h0]; exact h.append _ _
  rw [if_neg h0, if_neg h0]
  by_cases h2 : kindN x = 2
  · rw [if_pos h2, if_pos h2]; exact h.sync _
  rw [if_neg h2, if_neg h2]
  by_cases h3 : kindN x = 3
  · rw [if_pos h3, if_pos h3]; exact h.rename _ _
  rw [if_neg h3, if_neg h3]
  by_cases h4 : kindN x = 4
  · rw [if_pos h4, if_pos h4]; exact h.remove _
  rw [if_neg h4, if_neg h4]
  by_cases h5 : kindN x = 5
  · rw [if_pos h5, if_pos h5]; exact h.cut _ _
  rw [if_neg h5, if_neg h5]
  by_cases h6 : kindN x = 6
  · rw [if_pos h6, if_pos h6]; exact h.arm _
  rw [if_neg h6, if_neg h6]
  exact ⟨h.start _, rfl⟩
/-- bounds of what comes in -/
def okA (x : ActD) : Prop := x.name.length ≤ 1048576 ∧ x.now.length ≤ 1048576 ∧ x.data.length ≤ 1048576 ∧ x.keep.length ≤ 1048576
def vt0 : List Value → Value | v :: _ => v | [] => undef
def vt1 : List Value → Value | _ :: v :: _ => v | _ => undef
section
variable {b : Base} {w : World} {L R M : List It} {g gf gm g4 g5 g6 : Nat} {v sv kv dv e : Value} {cs ds : List Value} {z Z : FsD} {r Q : RFS} {x : ActD} {l : List Int} {k : Value → World → Prop}
/-! ### lists of numbers -/
def nums (l : List Int) : List Value := l.map (.int .i64)
theorem nums_one (l : List Int) : ∀ u ∈ nums l, u.oneCell' = true := fun u hu => by
  obtain ⟨n, _, rfl⟩ := List.mem_map.1 hu
  rfl
theorem nl_cells (hs : Isk.Sep b w L) (hm : Ins L (listF iF 1 v l).it) : SlS (Stb w L) w v l.length 1 (nums l) := by
  obtain ⟨xss, h1, h2, h3⟩ := hs.get hm
  have : xss.flatten = nums l := by
    have : xss = l.map fun n => [.int .i64 n] := by
      apply List.ext_getElem
      · simp [h1.1]
      · intro i hi hj
        have hil : i < l.length := by rw [← h1.1]; exact hi
        have h4 : xss[i] = [.int .i64 l[i]] := h1.2 i hil _ (List.getElem?_eq_getElem hi)
        rw [List.getElem_map, h4]
    rw [this, nums]
    clear h1 h2 h3 this hm
    induction l with
    | nil => rfl
    | cons n l ih => simp only [List.map_cons, List.flatten_cons, ih]; rfl
  rw [this] at h3
  exact h3
theorem nl_of (hs : Isk.Sep b w L) (h : SlS (Stb w L) w v l.length 1 (nums l)) : Isk.Sep b w ((listF iF 1 v l).it :: L) :=
  hs.fact ⟨l.map fun n => [.int .i64 n], ⟨by simp, fun i hi x hx => by
    rw [List.getElem?_map, List.getElem?_eq_getElem hi] at hx
    simp only [Option.map_some, Option.some.injEq] at hx
    exact hx.symm⟩, fun x hx => by
    obtain ⟨y, _, rfl⟩ := List.mem_map.1 hx
    rfl, by
    have : (l.map fun n => [Value.int .i64 n]).flatten = nums l := by
      clear h
      induction l with
      | nil => rfl
      | cons n l ih => simp only [List.map_cons, List.flatten_cons, ih]; rfl
    rw [this]; exact h⟩
/-- numbers that came in are copied onto a row of one's own -/
theorem sp_copyN {T' : TypeId} (h : Isk.Sep b w L) (hx : Ins L (listF iF 1 v l).it) (hl : l.length ≤ 1099511627776)
    (hk : ∀ v' w', Isk.Sep b w' ((listF iF 1 v' l).it :: L) → k v' w') : ob Tryd.prog (fun _ => Builtin.append_ #[T.sl_int, T.sl_int] T' #[.slice none 0 0, v]) w k := by
  have h' := h.row0 T.int 1
  refine st_app fiT (h'.get .hd) (nl_cells h hx).1 (nums_one l) (by omega) (by omega) (Nat.zero_le _) fun v' w' ho hu hv => hk v' w' ?_
  have := h'.rerow .hd hu hv ho
  rw [Nat.zero_add, List.nil_append] at this
  have h2 := this.rowF .hd
  exact (nl_of h2 (h2.get .hd)).sbl (.cons .hd (.drop .all))
/-- what the document answers is put into the place of what was there -/
theorem rfs_store {A c} {m : Nat} (hs : Isk.Sep b w ((rfsF ds Q).it :: M)) (hr : Has M (blkI g4 T.isthmusref04_FS (rfsV r (.slice A m c))) R)
    (hk : ∀ A c w', Isk.Sep b w' (blkI g4 T.isthmusref04_FS (rfsV Q (.slice A Q.l.length c)) :: (listF rfF 3 (.slice A Q.l.length c) Q.l).it :: R) → k undef w') :
    o0 Tryd.prog (Instr.storeAt T.isthmusref04_FS (.pointer (some ⟨g4, 0, none⟩)) (.agg ds.toArray)) w k := by
  obtain ⟨A, c, rfl, hs⟩ := rfs_open hs .hd
  refine sp_whole hs (.tl (.tl hr)) (by kernel_rfl) rfl rfl (rfsV_one Q) fun w hs => hk A c w (hs.sbl (.cons .hd (.cons .hd (.drop .all))))
theorem facts2 {f f2 : Fact} (h : Isk.Sep b w L) (h1 : f.holds (Stb w L) w) (h2 : f2.holds (Stb w L) w) : Isk.Sep b w (f2.it :: f.it :: L) :=
  (h.fact h1).fact (f2.mono h2 fun k hk _ => ⟨hk.1, fun ⟨I, hI, hi⟩ => by
    cases hI with
    | head => cases hi
    | tail _ hI => exact hk.2 ⟨I, hI, hi⟩⟩)
def StepQ (b : Base) (L : List It) (gf gm g4 g6 : Nat) (Z : FsD × Int) (D : RFS × Int) (e kv : Value) (w : World) : Prop :=
  ∃ A c, kv = .int .i64 D.2 ∧ Isk.Sep b w ((errF e Z.2).it :: blkI g4 T.isthmusref04_FS (rfsV D.1 (.slice A D.1.l.length c)) :: (listF rfF 3 (.slice A D.1.l.length c) D.1.l).it :: resI Tryd.prog g6 T.isthmusref04_FS :: blkI gf T.files_FS (fsV gm Z.1) :: mapI fileF gm Z.1.m :: L)
theorem stepQ_of {X I1 I2 I3 I4 I5 : It} {A c} {Z Z' : FsD × Int} {D D' : RFS × Int} (eZ : Z = Z') (eD : D = D') (hs : Isk.Sep b w (blkI g4 T.isthmusref04_FS (rfsV D'.1 (.slice A D'.1.l.length c)) :: (listF rfF 3 (.slice A D'.1.l.length c) D'.1.l).it :: X :: (errF e Z'.2).it :: blkI gf T.files_FS (fsV gm Z'.1) :: mapI fileF gm Z'.1.m :: I1 :: resI Tryd.prog g6 T.isthmusref04_FS :: I2 :: I3 :: I4 :: I5 :: L)) :
    StepQ b L gf gm g4 g6 Z D e (.int .i64 D'.2) w := by
  subst eZ eD
  exact ⟨A, c, rfl, hs.sbl (.cons (.tl (.tl (.tl .hd))) (.cons .hd (.cons .hd (.cons (.tl (.tl (.tl (.tl .hd)))) (.drop (.cons .hd (.cons .hd (.drop (.drop (.drop (.drop (.drop .all))))))))))))⟩
theorem isthmuslaw04_step (hR : Rel z r) (hT : Ins L errT.it) (hs : Isk.Sep b w (blkI gf T.files_FS (fsV gm z) :: mapI fileF gm z.m :: L)) (ha : Ins L (actF cs x).it) (hm : Ins L (rfsF ds r).it) (hB : okA x) :
    C Tryd.prog N.isthmuslaw04_step #[.pointer (some ⟨gf, 0, none⟩), .agg ds.toArray, .agg cs.toArray] w fun v w' => ∃ ds2, v = .tuple #[.agg ds2.toArray, .bool true] ∧
      Isk.Sep b w' ((rfsF ds2 (stepD r x).1).it :: blkI gf T.files_FS (fsV gm (stepZ z x).1) :: mapI fileF gm (stepZ z x).1.m :: L) := by
  obtain ⟨A, c, rfl, hs⟩ := rfs_open hs (.tl (.tl hm))
  obtain ⟨hn3, hn4, hd, hk⟩ := hB
  obtain ⟨dv, kv, rfl, ⟨⟨hn1, hn2⟩, _, _⟩, h5, h6⟩ : ActS _ _ cs x := hs.get (.tl (.tl (.tl ha)))
  replace hs := facts2 (f := byF dv x.data) (f2 := listF iF 1 kv x.keep) hs h5 h6
  have hA := hR.act x
  have hok := hR.okR
  refine C.isthmuslaw04_step ?_
  unfold F.isthmuslaw04_step
  refine sp_boxa hs fun g4 w hs => ?_
  refine sp_boxa hs fun g5 w hs => ?_
  refine sp_newr hs (by kernel_rfl) fun g6 w hs => ?_
  repeat (first
   | (with_reducible refine act4.a0 ?_)
   | ((with_reducible apply act4.r0 hs); (· (with_reducible (repeat (first | exact .blk | exact .rng | apply Rng.tl)))))
   | (with_reducible refine act4.c0 ?_)
   | ((with_reducible apply act4.e0); (· first | exact hS | exact hid); (· (with_reducible (repeat (first | exact .blk | exact .rng | apply Rng.tl)))))
   | (with_reducible refine act4.a1 ?_)
   | ((with_reducible apply act4.r1 hs); (· (with_reducible (repeat (first | exact .blk | exact .rng | apply Rng.tl)))))
   | (with_reducible refine act4.c1 ?_)
   | ((with_reducible apply act4.e1); (· first | exact hS | exact hid); (· (with_reducible (repeat (first | exact .blk | exact .rng | apply Rng.tl)))))
   | (with_reducible refine act4.a2 ?_)
   | ((with_reducible apply act4.r2 hs); (· (with_reducible (repeat (first | exact .blk | exact .rng | apply Rng.tl)))))
   | (with_reducible refine act4.c2 ?_)
   | ((with_reducible apply act4.e2); (· first | exact hS | exact hid); (· (with_reducible (repeat (first | exact .blk | exact .rng | apply Rng.tl)))))
   | (with_reducible refine act4.a3 ?_)
   | ((with_reducible apply act4.r3 hs); (· (with_reducible (repeat (first | exact .blk | exact .rng | apply Rng.tl)))))
   | (with_reducible refine act4.c3 ?_)
   | ((with_reducible apply act4.e3); (· first | exact hS | exact hid); (· (with_reducible (repeat (first | exact .blk | exact .rng | apply Rng.tl)))))
   | (with_reducible refine act4.a4 ?_)
   | ((with_reducible apply act4.r4 hs); (· (with_reducible (repeat (first | exact .blk | exact .rng | apply Rng.tl)))))
   | (with_reducible refine act4.c4 ?_)
   | ((with_reducible apply act4.e4); (· first | exact hS | exact hid); (· (with_reducible (repeat (first | exact .blk | exact .rng | apply Rng.tl)))))
   | (with_reducible refine act4.a5 ?_)
   | ((with_reducible apply act4.r5 hs); (· (with_reducible (repeat (first | exact .blk | exact .rng | apply Rng.tl)))))
   | (with_reducible refine act4.c5 ?_)
   | ((with_reducible apply act4.e5); (· first | exact hS | exact hid); (· (with_reducible (repeat (first | exact .blk | exact .rng | apply Rng.tl)))))
   | (with_reducible (first | refine st_lens ?_ | refine st_eqls ?_ | refine st_nels ?_ | refine tk_eqls ?_ | refine tk_nels ?_ | refine mv.mk ?_ | refine nk_p ?_ | refine gdT_i ?_ | refine gdT_ft ?_ | refine gdT_tf ?_ | refine gdT_u ?_ | refine gd_u ?_ | refine gd_ft ?_ | refine gd_tf ?_ | refine gd_i ?_ | refine pk_t ?_ | refine pk_f ?_ | refine br_t ?_ | refine br_f ?_ | refine sp_boxa hs fun g w hs => ?_))
   | (with_reducible ((first | apply st_bin | apply st_ext | apply st_len | apply st_un | apply st_conv | apply st_mki | apply st_fld | apply st_cap | apply st_max | apply st_min | apply st_ixv | apply st_mkf); intro k' hk; simp [go_sem, thenR_ok, bin]; refine hk _ _ ?_; clear hk k'))
   | ((with_reducible (first | apply tk_bin | apply tk_ext | apply tk_len | apply tk_un)); (· intro w; simp [go_sem, bin]; rfl))
   | ((with_reducible apply sp_newr hs); (· kernel_rfl); intro g w hs))
  refine sp_app (hs.row0 T.uint8 1) .hd fbT (R := resI Tryd.prog g6 T.isthmusref04_FS :: blkI g5 T.isthmuslaw04_Act (actV x dv kv) :: blkI g4 T.isthmusref04_FS (rfsV r (.slice A r.l.length c)) :: (listF iF 1 kv x.keep).it :: (byF dv x.data).it :: (listF rfF 3 (.slice A r.l.length c) r.l).it :: blkI gf T.files_FS (fsV gm z) :: mapI fileF gm z.m :: L) (by repeat (first | with_reducible exact Rds.sl | with_reducible exact Rds.byt | with_reducible exact Rds.row | with_reducible apply Rds.tl)) (u8s_one x.data) (by omega) (by omega) fun nv w hs => ?_
  rw [Nat.zero_add, List.nil_append] at hs
  repeat (first
   | (with_reducible refine act4.a0 ?_)
   | ((with_reducible apply act4.r0 hs); (· (with_reducible (repeat (first | exact .blk | exact .rng | apply Rng.tl)))))
   | (with_reducible refine act4.c0 ?_)
   | ((with_reducible apply act4.e0); (· first | exact hS | exact hid); (· (with_reducible (repeat (first | exact .blk | exact .rng | apply Rng.tl)))))
   | (with_reducible refine act4.a1 ?_)
   | ((with_reducible apply act4.r1 hs); (· (with_reducible (repeat (first | exact .blk | exact .rng | apply Rng.tl)))))
   | (with_reducible refine act4.c1 ?_)
   | ((with_reducible apply act4.e1); (· first | exact hS | exact hid); (· (with_reducible (repeat (first | exact .blk | exact .rng | apply Rng.tl)))))
   | (with_reducible refine act4.a2 ?_)
   | ((with_reducible apply act4.r2 hs); (· (with_reducible (repeat (first | exact .blk | exact .rng | apply Rng.tl)))))
   | (with_reducible refine act4.c2 ?_)
   | ((with_reducible apply act4.e2); (· first | exact hS | exact hid); (· (with_reducible (repeat (first | exact .blk | exact .rng | apply Rng.tl)))))
   | (with_reducible refine act4.a3 ?_)
   | ((with_reducible apply act4.r3 hs); (· (with_reducible (repeat (first | exact .blk | exact .rng | apply Rng.tl)))))
   | (with_reducible refine act4.c3 ?_)
   | ((with_reducible apply act4.e3); (· first | exact hS | exact hid); (· (with_reducible (repeat (first | exact .blk | exact .rng | apply Rng.tl)))))
   | (with_reducible refine act4.a4 ?_)
   | ((with_reducible apply act4.r4 hs); (· (with_reducible (repeat (first | exact .blk | exact .rng | apply Rng.tl)))))
   | (with_reducible refine act4.c4 ?_)
   | ((with_reducible apply act4.e4); (· first | exact hS | exact hid); (· (with_reducible (repeat (first | exact .blk | exact .rng | apply Rng.tl)))))
   | (with_reducible refine act4.a5 ?_)
   | ((with_reducible apply act4.r5 hs); (· (with_reducible (repeat (first | exact .blk | exact .rng | apply Rng.tl)))))
   | (with_reducible refine act4.c5 ?_)
   | ((with_reducible apply act4.e5); (· first | exact hS | exact hid); (· (with_reducible (repeat (first | exact .blk | exact .rng | apply Rng.tl)))))
   | (with_reducible (first | refine st_lens ?_ | refine st_eqls ?_ | refine st_nels ?_ | refine tk_eqls ?_ | refine tk_nels ?_ | refine mv.mk ?_ | refine nk_p ?_ | refine gdT_i ?_ | refine gdT_ft ?_ | refine gdT_tf ?_ | refine gdT_u ?_ | refine gd_u ?_ | refine gd_ft ?_ | refine gd_tf ?_ | refine gd_i ?_ | refine pk_t ?_ | refine pk_f ?_ | refine br_t ?_ | refine br_f ?_ | refine sp_boxa hs fun g w hs => ?_))
   | (with_reducible ((first | apply st_bin | apply st_ext | apply st_len | apply st_un | apply st_conv | apply st_mki | apply st_fld | apply st_cap | apply st_max | apply st_min | apply st_ixv | apply st_mkf); intro k' hk; simp [go_sem, thenR_ok, bin]; refine hk _ _ ?_; clear hk k'))
   | ((with_reducible (first | apply tk_bin | apply tk_ext | apply tk_len | apply tk_un)); (· intro w; simp [go_sem, bin]; rfl))
   | ((with_reducible apply sp_newr hs); (· kernel_rfl); intro g w hs))
  have hK := (mod_pos x.kind 8 (by decide) (by decide)).2.2
  rw [show ((8 : Nat) : Int) = 8 from rfl] at hK
  replace hK : _ = kindN x := hK
  rw [hK]
  generalize hKK : kindN x = K at *
  clear hK
  replace hs := hs.sbl (L' := blkI gf T.files_FS (fsV gm z) :: mapI fileF gm z.m :: rowI nv T.uint8 1 x.data.length (u8s x.data) :: blkI g4 T.isthmusref04_FS (rfsV r (.slice A r.l.length c)) :: resI Tryd.prog g6 T.isthmusref04_FS :: blkI g5 T.isthmuslaw04_Act (actV x dv kv) :: (listF iF 1 kv x.keep).it :: (byF dv x.data).it :: (listF rfF 3 (.slice A r.l.length c) r.l).it :: L) (.cons (.tl (.tl (.tl (.tl (.tl (.tl (.tl .hd))))))) (.cons (.tl (.tl (.tl (.tl (.tl (.tl (.tl .hd))))))) (.cons .hd (.cons (.tl (.tl .hd)) (.cons .hd (.cons .hd .all))))))
  refine jn_by (fun us w' => us = [.bool (decide (K = 0 ∨ K = 1))] ∧ w' = w) ?_ ?_
  · by_cases c0 : K = 0
    · subst c0
      refine br_t ?_
      exact ⟨rfl, rfl⟩
    · have h0 : (K == 0) = false := by simpa using c0
      rw [h0]
      repeat (first
       | (with_reducible (first | refine st_lens ?_ | refine st_eqls ?_ | refine st_nels ?_ | refine tk_eqls ?_ | refine tk_nels ?_ | refine mv.mk ?_ | refine nk_p ?_ | refine gdT_i ?_ | refine gdT_ft ?_ | refine gdT_tf ?_ | refine gdT_u ?_ | refine gd_u ?_ | refine gd_ft ?_ | refine gd_tf ?_ | refine gd_i ?_ | refine pk_t ?_ | refine pk_f ?_ | refine br_t ?_ | refine br_f ?_ | refine sp_boxa hs fun g w hs => ?_))
       | (with_reducible ((first | apply st_bin | apply st_ext | apply st_len | apply st_un | apply st_conv | apply st_mki | apply st_fld | apply st_cap | apply st_max | apply st_min | apply st_ixv | apply st_mkf); intro k' hk; simp [go_sem, thenR_ok, bin]; refine hk _ _ ?_; clear hk k'))
       | ((with_reducible (first | apply tk_bin | apply tk_ext | apply tk_len | apply tk_un)); (· intro w; simp [go_sem, bin]; rfl))
       | ((with_reducible apply sp_newr hs); (· kernel_rfl); intro g w hs))
      refine ⟨?_, rfl⟩
      by_cases h : K = 1 <;> simp [c0, h]
  rintro x1 _ ⟨hx1, rfl⟩
  simp only [List.cons.injEq, and_true] at hx1
  simp only [hx1]
  refine jn_by (fun vs w => StepQ b L gf gm g4 g6 (stepZ z x) (stepD r x) (vt0 vs) (vt1 vs) w) ?_ ?_
  · by_cases c01 : K = 0 ∨ K = 1
    · rw [decide_eq_true c01]
      have eZ : stepZ z x = appendF z x.name x.data := by rw [stepZ, if_pos (hKK ▸ c01)]
      have eD : stepD r x = appendR r x.name x.data := by rw [stepD, if_pos (hKK ▸ c01)]
      repeat (first
       | (with_reducible refine act4.a0 ?_)
       | ((with_reducible apply act4.r0 hs); (· (with_reducible (repeat (first | exact .blk | exact .rng | apply Rng.tl)))))
       | (with_reducible refine act4.c0 ?_)
       | ((with_reducible apply act4.e0); (· first | exact hS | exact hid); (· (with_reducible (repeat (first | exact .blk | exact .rng | apply Rng.tl)))))
       | (with_reducible refine act4.a1 ?_)
       | ((with_reducible apply act4.r1 hs); (· (with_reducible (repeat (first | exact .blk | exact .rng | apply Rng.tl)))))
       | (with_reducible refine act4.c1 ?_)
       | ((with_reducible apply act4.e1); (· first | exact hS | exact hid); (· (with_reducible (repeat (first | exact .blk | exact .rng | apply Rng.tl)))))
       | (with_reducible refine act4.a2 ?_)
       | ((with_reducible apply act4.r2 hs); (· (with_reducible (repeat (first | exact .blk | exact .rng | apply Rng.tl)))))
       | (with_reducible refine act4.c2 ?_)
       | ((with_reducible apply act4.e2); (· first | exact hS | exact hid); (· (with_reducible (repeat (first | exact .blk | exact .rng | apply Rng.tl)))))
       | (with_reducible refine act4.a3 ?_)
       | ((with_reducible apply act4.r3 hs); (· (with_reducible (repeat (first | exact .blk | exact .rng | apply Rng.tl)))))
       | (with_reducible refine act4.c3 ?_)
       | ((with_reducible apply act4.e3); (· first | exact hS | exact hid); (· (with_reducible (repeat (first | exact .blk | exact .rng | apply Rng.tl)))))
       | (with_reducible refine act4.a4 ?_)
       | ((with_reducible apply act4.r4 hs); (· (with_reducible (repeat (first | exact .blk | exact .rng | apply Rng.tl)))))
       | (with_reducible refine act4.c4 ?_)
       | ((with_reducible apply act4.e4); (· first | exact hS | exact hid); (· (with_reducible (repeat (first | exact .blk | exact .rng | apply Rng.tl)))))
       | (with_reducible refine act4.a5 ?_)
       | ((with_reducible apply act4.r5 hs); (· (with_reducible (repeat (first | exact .blk | exact .rng | apply Rng.tl)))))
       | (with_reducible refine act4.c5 ?_)
       | ((with_reducible apply act4.e5); (· first | exact hS | exact hid); (· (with_reducible (repeat (first | exact .blk | exact .rng | apply Rng.tl)))))
       | (with_reducible (first | refine st_lens ?_ | refine st_eqls ?_ | refine st_nels ?_ | refine tk_eqls ?_ | refine tk_nels ?_ | refine mv.mk ?_ | refine nk_p ?_ | refine gdT_i ?_ | refine gdT_ft ?_ | refine gdT_tf ?_ | refine gdT_u ?_ | refine gd_u ?_ | refine gd_ft ?_ | refine gd_tf ?_ | refine gd_i ?_ | refine pk_t ?_ | refine pk_f ?_ | refine br_t ?_ | refine br_f ?_ | refine sp_boxa hs fun g w hs => ?_))
       | (with_reducible ((first | apply st_bin | apply st_ext | apply st_len | apply st_un | apply st_conv | apply st_mki | apply st_fld | apply st_cap | apply st_max | apply st_min | apply st_ixv | apply st_mkf); intro k' hk; simp [go_sem, thenR_ok, bin]; refine hk _ _ ?_; clear hk k'))
       | ((with_reducible (first | apply tk_bin | apply tk_ext | apply tk_len | apply tk_un)); (· intro w; simp [go_sem, bin]; rfl))
       | ((with_reducible apply sp_newr hs); (· kernel_rfl); intro g w hs))
      refine cl (files_Append (name := x.name) (bts := x.data) hs (by omega) (by repeat (first | with_reducible exact Rds.sl | with_reducible exact Rds.byt | with_reducible exact Rds.row | with_reducible apply Rds.tl)) (by omega) (Nat.le_trans hR.ok.n (by decide)) (okS_fl hR.ok)) ?_
      rintro e w hs
      repeat (first
       | (with_reducible (first | refine st_lens ?_ | refine st_eqls ?_ | refine st_nels ?_ | refine tk_eqls ?_ | refine tk_nels ?_ | refine mv.mk ?_ | refine nk_p ?_ | refine gdT_i ?_ | refine gdT_ft ?_ | refine gdT_tf ?_ | refine gdT_u ?_ | refine gd_u ?_ | refine gd_ft ?_ | refine gd_tf ?_ | refine gd_i ?_ | refine pk_t ?_ | refine pk_f ?_ | refine br_t ?_ | refine br_f ?_ | refine sp_boxa hs fun g w hs => ?_))
       | (with_reducible ((first | apply st_bin | apply st_ext | apply st_len | apply st_un | apply st_conv | apply st_mki | apply st_fld | apply st_cap | apply st_max | apply st_min | apply st_ixv | apply st_mkf); intro k' hk; simp [go_sem, thenR_ok, bin]; refine hk _ _ ?_; clear hk k'))
       | ((with_reducible (first | apply tk_bin | apply tk_ext | apply tk_len | apply tk_un)); (· intro w; simp [go_sem, bin]; rfl))
       | ((with_reducible apply sp_newr hs); (· kernel_rfl); intro g w hs))
      refine sp_loadall hs (.tl (.tl (.tl (.tl .hd)))) (by kernel_rfl) rfl ?_
      repeat (first
       | (with_reducible refine act4.a0 ?_)
       | ((with_reducible apply act4.r0 hs); (· (with_reducible (repeat (first | exact .blk | exact .rng | apply Rng.tl)))))
       | (with_reducible refine act4.c0 ?_)
       | ((with_reducible apply act4.e0); (· first | exact hS | exact hid); (· (with_reducible (repeat (first | exact .blk | exact .rng | apply Rng.tl)))))
       | (with_reducible refine act4.a1 ?_)
       | ((with_reducible apply act4.r1 hs); (· (with_reducible (repeat (first | exact .blk | exact .rng | apply Rng.tl)))))
       | (with_reducible refine act4.c1 ?_)
       | ((with_reducible apply act4.e1); (· first | exact hS | exact hid); (· (with_reducible (repeat (first | exact .blk | exact .rng | apply Rng.tl)))))
       | (with_reducible refine act4.a2 ?_)
       | ((with_reducible apply act4.r2 hs); (· (with_reducible (repeat (first | exact .blk | exact .rng | apply Rng.tl)))))
       | (with_reducible refine act4.c2 ?_)
       | ((with_reducible apply act4.e2); (· first | exact hS | exact hid); (· (with_reducible (repeat (first | exact .blk | exact .rng | apply Rng.tl)))))
       | (with_reducible refine act4.a3 ?_)
       | ((with_reducible apply act4.r3 hs); (· (with_reducible (repeat (first | exact .blk | exact .rng | apply Rng.tl)))))
       | (with_reducible refine act4.c3 ?_)
       | ((with_reducible apply act4.e3); (· first | exact hS | exact hid); (· (with_reducible (repeat (first | exact .blk | exact .rng | apply Rng.tl)))))
       | (with_reducible refine act4.a4 ?_)
       | ((with_reducible apply act4.r4 hs); (· (with_reducible (repeat (first | exact .blk | exact .rng | apply Rng.tl)))))
       | (with_reducible refine act4.c4 ?_)
       | ((with_reducible apply act4.e4); (· first | exact hS | exact hid); (· (with_reducible (repeat (first | exact .blk | exact .rng | apply Rng.tl)))))
       | (with_reducible refine act4.a5 ?_)
       | ((with_reducible apply act4.r5 hs); (· (with_reducible (repeat (first | exact .blk | exact .rng | apply Rng.tl)))))
       | (with_reducible refine act4.c5 ?_)
       | ((with_reducible apply act4.e5); (· first | exact hS | exact hid); (· (with_reducible (repeat (first | exact .blk | exact .rng | apply Rng.tl)))))
       | (with_reducible (first | refine st_lens ?_ | refine st_eqls ?_ | refine st_nels ?_ | refine tk_eqls ?_ | refine tk_nels ?_ | refine mv.mk ?_ | refine nk_p ?_ | refine gdT_i ?_ | refine gdT_ft ?_ | refine gdT_tf ?_ | refine gdT_u ?_ | refine gd_u ?_ | refine gd_ft ?_ | refine gd_tf ?_ | refine gd_i ?_ | refine pk_t ?_ | refine pk_f ?_ | refine br_t ?_ | refine br_f ?_ | refine sp_boxa hs fun g w hs => ?_))
       | (with_reducible ((first | apply st_bin | apply st_ext | apply st_len | apply st_un | apply st_conv | apply st_mki | apply st_fld | apply st_cap | apply st_max | apply st_min | apply st_ixv | apply st_mkf); intro k' hk; simp [go_sem, thenR_ok, bin]; refine hk _ _ ?_; clear hk k'))
       | ((with_reducible (first | apply tk_bin | apply tk_ext | apply tk_len | apply tk_un)); (· intro w; simp [go_sem, bin]; rfl))
       | ((with_reducible apply sp_newr hs); (· kernel_rfl); intro g w hs))
      refine sp_text (l := x.data) hs (by repeat (first | with_reducible exact Rds.sl | with_reducible exact Rds.byt | with_reducible exact Rds.row | with_reducible apply Rds.tl)) ?_
      replace hs := rfs_fact hs (.tl (.tl (.tl (.tl (.tl (.tl (.tl (.tl (.tl .hd)))))))))
      refine cl (isthmusref04_Append hs .hd hok (by omega) (by omega)) ?_
      rintro _ w ⟨ds2, rfl, hs⟩
      repeat (first
       | (with_reducible (first | refine st_lens ?_ | refine st_eqls ?_ | refine st_nels ?_ | refine tk_eqls ?_ | refine tk_nels ?_ | refine mv.mk ?_ | refine nk_p ?_ | refine gdT_i ?_ | refine gdT_ft ?_ | refine gdT_tf ?_ | refine gdT_u ?_ | refine gd_u ?_ | refine gd_ft ?_ | refine gd_tf ?_ | refine gd_i ?_ | refine pk_t ?_ | refine pk_f ?_ | refine br_t ?_ | refine br_f ?_ | refine sp_boxa hs fun g w hs => ?_))
       | (with_reducible ((first | apply st_bin | apply st_ext | apply st_len | apply st_un | apply st_conv | apply st_mki | apply st_fld | apply st_cap | apply st_max | apply st_min | apply st_ixv | apply st_mkf); intro k' hk; simp [go_sem, thenR_ok, bin]; refine hk _ _ ?_; clear hk k'))
       | ((with_reducible (first | apply tk_bin | apply tk_ext | apply tk_len | apply tk_un)); (· intro w; simp [go_sem, bin]; rfl))
       | ((with_reducible apply sp_newr hs); (· kernel_rfl); intro g w hs))
      refine rfs_store hs (.tl (.tl (.tl (.tl (.tl .hd))))) fun A2 c2 w hs => ?_
      obtain ⟨A3, c3, hnv⟩ := rds_slice hs (v := nv) (n := x.data.length) (m := 1) (xs := u8s x.data) (by repeat (first | with_reducible exact Rds.sl | with_reducible exact Rds.byt | with_reducible exact Rds.row | with_reducible apply Rds.tl))
      repeat with_reducible refine mv.mk ?_
      refine lp_by (fun us w' => ∃ (j : Nat) (xs : List Value), us = [.int .i64 (j : Int)] ∧ j ≤ x.data.length ∧ Isk.Sep b w' (rowI nv T.uint8 1 x.data.length xs :: blkI g4 T.isthmusref04_FS (rfsV (appendR r x.name x.data).1 (.slice A2 (appendR r x.name x.data).1.l.length c2)) :: (listF rfF 3 (.slice A2 (appendR r x.name x.data).1.l.length c2) (appendR r x.name x.data).1.l).it :: (rfsF (rfsV r (.slice A r.l.length c)) r).it :: (errF e (appendF z x.name x.data).2).it :: blkI gf T.files_FS (fsV gm (appendF z x.name x.data).1) :: mapI fileF gm (appendF z x.name x.data).1.m :: resI Tryd.prog g6 T.isthmusref04_FS :: blkI g5 T.isthmuslaw04_Act (actV x dv kv) :: (listF iF 1 kv x.keep).it :: (byF dv x.data).it :: (listF rfF 3 (.slice A r.l.length c) r.l).it :: L))
        (fun us _ => match us with | [.int _ m] => x.data.length - m.toNat | _ => 0) ⟨0, _, rfl, Nat.zero_le _, hs.sbl (.cons (.tl (.tl (.tl (.tl (.tl (.tl .hd)))))) .all)⟩ ?_
      clear hs
      rintro x3 w ⟨j, xs, hx3, hj, hs⟩
      simp only [List.cons.injEq, and_true] at hx3
      simp only [hx3, hnv]
      repeat (first
       | (with_reducible (first | refine st_lens ?_ | refine st_eqls ?_ | refine st_nels ?_ | refine tk_eqls ?_ | refine tk_nels ?_ | refine mv.mk ?_ | refine nk_p ?_ | refine gdT_i ?_ | refine gdT_ft ?_ | refine gdT_tf ?_ | refine gdT_u ?_ | refine gd_u ?_ | refine gd_ft ?_ | refine gd_tf ?_ | refine gd_i ?_ | refine pk_t ?_ | refine pk_f ?_ | refine br_t ?_ | refine br_f ?_ | refine sp_boxa hs fun g w hs => ?_))
       | (with_reducible ((first | apply st_bin | apply st_ext | apply st_len | apply st_un | apply st_conv | apply st_mki | apply st_fld | apply st_cap | apply st_max | apply st_min | apply st_ixv | apply st_mkf); intro k' hk; simp [go_sem, thenR_ok, bin]; refine hk _ _ ?_; clear hk k'))
       | ((with_reducible (first | apply tk_bin | apply tk_ext | apply tk_len | apply tk_un)); (· intro w; simp [go_sem, bin]; rfl))
       | ((with_reducible apply sp_newr hs); (· kernel_rfl); intro g w hs))
      refine br_split (fun hq => ?_) (fun hq => ?_)
      · have hj' : j < x.data.length := by have := of_decide_eq_true hq; omega
        repeat with_reducible refine mv.mk ?_
        rw [hnv] at hs
        refine sp_ixset hs .hd fbT (by kernel_rfl) j rfl hj' ⟨rfl, rfl⟩ fun w hs => ?_
        repeat (first
         | (with_reducible (first | refine st_lens ?_ | refine st_eqls ?_ | refine st_nels ?_ | refine tk_eqls ?_ | refine tk_nels ?_ | refine mv.mk ?_ | refine nk_p ?_ | refine gdT_i ?_ | refine gdT_ft ?_ | refine gdT_tf ?_ | refine gdT_u ?_ | refine gd_u ?_ | refine gd_ft ?_ | refine gd_tf ?_ | refine gd_i ?_ | refine pk_t ?_ | refine pk_f ?_ | refine br_t ?_ | refine br_f ?_ | refine sp_boxa hs fun g w hs => ?_))
         | (with_reducible ((first | apply st_bin | apply st_ext | apply st_len | apply st_un | apply st_conv | apply st_mki | apply st_fld | apply st_cap | apply st_max | apply st_min | apply st_ixv | apply st_mkf); intro k' hk; simp [go_sem, thenR_ok, bin]; refine hk _ _ ?_; clear hk k'))
         | ((with_reducible (first | apply tk_bin | apply tk_ext | apply tk_len | apply tk_un)); (· intro w; simp [go_sem, bin]; rfl))
         | ((with_reducible apply sp_newr hs); (· kernel_rfl); intro g w hs))
        rw [i64_succ (by omega)]
        exact ⟨⟨j + 1, xs.set j (.int .u8 33), rfl, hj', hs⟩, by simp; omega⟩
      · exact stepQ_of eZ eD (hs.sbl (.cons (.tl .hd) (.cons (.tl .hd) (.cons (.tl .hd) (.cons (.tl .hd) (.cons (.tl .hd) (.cons (.tl .hd) (.cons .hd .all))))))))
    rw [decide_eq_false c01]
    refine br_f ?_
    repeat (first
     | (with_reducible (first | refine st_lens ?_ | refine st_eqls ?_ | refine st_nels ?_ | refine tk_eqls ?_ | refine tk_nels ?_ | refine mv.mk ?_ | refine nk_p ?_ | refine gdT_i ?_ | refine gdT_ft ?_ | refine gdT_tf ?_ | refine gdT_u ?_ | refine gd_u ?_ | refine gd_ft ?_ | refine gd_tf ?_ | refine gd_i ?_ | refine pk_t ?_ | refine pk_f ?_ | refine br_t ?_ | refine br_f ?_ | refine sp_boxa hs fun g w hs => ?_))
     | (with_reducible ((first | apply st_bin | apply st_ext | apply st_len | apply st_un | apply st_conv | apply st_mki | apply st_fld | apply st_cap | apply st_max | apply st_min | apply st_ixv | apply st_mkf); intro k' hk; simp [go_sem, thenR_ok, bin]; refine hk _ _ ?_; clear hk k'))
     | ((with_reducible (first | apply tk_bin | apply tk_ext | apply tk_len | apply tk_un)); (· intro w; simp [go_sem, bin]; rfl))
     | ((with_reducible apply sp_newr hs); (· kernel_rfl); intro g w hs))
    refine jn_by (fun vs w => StepQ b L gf gm g4 g6 (stepZ z x) (stepD r x) (vt0 vs) (vt1 vs) w) ?_ (fun _ _ h => h)
    by_cases c2 : K = 2
    · have eZ : stepZ z x = syncF z x.name := by rw [stepZ, hKK, if_neg c01, if_pos c2]
      have eD : stepD r x = changeR r 0 x.name [] 0 := by rw [stepD, hKK, if_neg c01, if_pos c2]
      rw [show (K == 2) = true by simp [c2]]
      repeat (first
       | (with_reducible refine act4.a0 ?_)
       | ((with_reducible apply act4.r0 hs); (· (with_reducible (repeat (first | exact .blk | exact .rng | apply Rng.tl)))))
       | (with_reducible refine act4.c0 ?_)
       | ((with_reducible apply act4.e0); (· first | exact hS | exact hid); (· (with_reducible (repeat (first | exact .blk | exact .rng | apply Rng.tl)))))
       | (with_reducible refine act4.a1 ?_)
       | ((with_reducible apply act4.r1 hs); (· (with_reducible (repeat (first | exact .blk | exact .rng | apply Rng.tl)))))
       | (with_reducible refine act4.c1 ?_)
       | ((with_reducible apply act4.e1); (· first | exact hS | exact hid); (· (with_reducible (repeat (first | exact .blk | exact .rng | apply Rng.tl)))))
       | (with_reducible refine act4.a2 ?_)
       | ((with_reducible apply act4.r2 hs); (· (with_reducible (repeat (first | exact .blk | exact .rng | apply Rng.tl)))))
       | (with_reducible refine act4.c2 ?_)
       | ((with_reducible apply act4.e2); (· first | exact hS | exact hid); (· (with_reducible (repeat (first | exact .blk | exact .rng | apply Rng.tl)))))
       | (with_reducible refine act4.a3 ?_)
       | ((with_reducible apply act4.r3 hs); (· (with_reducible (repeat (first | exact .blk | exact .rng | apply Rng.tl)))))
       | (with_reducible refine act4.c3 ?_)
       | ((with_reducible apply act4.e3); (· first | exact hS | exact hid); (· (with_reducible (repeat (first | exact .blk | exact .rng | apply Rng.tl)))))
       | (with_reducible refine act4.a4 ?_)
       | ((with_reducible apply act4.r4 hs); (· (with_reducible (repeat (first | exact .blk | exact .rng | apply Rng.tl)))))
       | (with_reducible refine act4.c4 ?_)
       | ((with_reducible apply act4.e4); (· first | exact hS | exact hid); (· (with_reducible (repeat (first | exact .blk | exact .rng | apply Rng.tl)))))
       | (with_reducible refine act4.a5 ?_)
       | ((with_reducible apply act4.r5 hs); (· (with_reducible (repeat (first | exact .blk | exact .rng | apply Rng.tl)))))
       | (with_reducible refine act4.c5 ?_)
       | ((with_reducible apply act4.e5); (· first | exact hS | exact hid); (· (with_reducible (repeat (first | exact .blk | exact .rng | apply Rng.tl)))))
       | (with_reducible (first | refine st_lens ?_ | refine st_eqls ?_ | refine st_nels ?_ | refine tk_eqls ?_ | refine tk_nels ?_ | refine mv.mk ?_ | refine nk_p ?_ | refine gdT_i ?_ | refine gdT_ft ?_ | refine gdT_tf ?_ | refine gdT_u ?_ | refine gd_u ?_ | refine gd_ft ?_ | refine gd_tf ?_ | refine gd_i ?_ | refine pk_t ?_ | refine pk_f ?_ | refine br_t ?_ | refine br_f ?_ | refine sp_boxa hs fun g w hs => ?_))
       | (with_reducible ((first | apply st_bin | apply st_ext | apply st_len | apply st_un | apply st_conv | apply st_mki | apply st_fld | apply st_cap | apply st_max | apply st_min | apply st_ixv | apply st_mkf); intro k' hk; simp [go_sem, thenR_ok, bin]; refine hk _ _ ?_; clear hk k'))
       | ((with_reducible (first | apply tk_bin | apply tk_ext | apply tk_len | apply tk_un)); (· intro w; simp [go_sem, bin]; rfl))
       | ((with_reducible apply sp_newr hs); (· kernel_rfl); intro g w hs))
      refine cl (files_Sync (name := x.name) hs (by omega)) ?_
      rintro e w hs
      repeat (first
       | (with_reducible (first | refine st_lens ?_ | refine st_eqls ?_ | refine st_nels ?_ | refine tk_eqls ?_ | refine tk_nels ?_ | refine mv.mk ?_ | refine nk_p ?_ | refine gdT_i ?_ | refine gdT_ft ?_ | refine gdT_tf ?_ | refine gdT_u ?_ | refine gd_u ?_ | refine gd_ft ?_ | refine gd_tf ?_ | refine gd_i ?_ | refine pk_t ?_ | refine pk_f ?_ | refine br_t ?_ | refine br_f ?_ | refine sp_boxa hs fun g w hs => ?_))
       | (with_reducible ((first | apply st_bin | apply st_ext | apply st_len | apply st_un | apply st_conv | apply st_mki | apply st_fld | apply st_cap | apply st_max | apply st_min | apply st_ixv | apply st_mkf); intro k' hk; simp [go_sem, thenR_ok, bin]; refine hk _ _ ?_; clear hk k'))
       | ((with_reducible (first | apply tk_bin | apply tk_ext | apply tk_len | apply tk_un)); (· intro w; simp [go_sem, bin]; rfl))
       | ((with_reducible apply sp_newr hs); (· kernel_rfl); intro g w hs))
      refine sp_loadall hs (.tl (.tl (.tl (.tl .hd)))) (by kernel_rfl) rfl ?_
      repeat (first
       | (with_reducible refine act4.a0 ?_)
       | ((with_reducible apply act4.r0 hs); (· (with_reducible (repeat (first | exact .blk | exact .rng | apply Rng.tl)))))
       | (with_reducible refine act4.c0 ?_)
       | ((with_reducible apply act4.e0); (· first | exact hS | exact hid); (· (with_reducible (repeat (first | exact .blk | exact .rng | apply Rng.tl)))))
       | (with_reducible refine act4.a1 ?_)
       | ((with_reducible apply act4.r1 hs); (· (with_reducible (repeat (first | exact .blk | exact .rng | apply Rng.tl)))))
       | (with_reducible refine act4.c1 ?_)
       | ((with_reducible apply act4.e1); (· first | exact hS | exact hid); (· (with_reducible (repeat (first | exact .blk | exact .rng | apply Rng.tl)))))
       | (with_reducible refine act4.a2 ?_)
       | ((with_reducible apply act4.r2 hs); (· (with_reducible (repeat (first | exact .blk | exact .rng | apply Rng.tl)))))
       | (with_reducible refine act4.c2 ?_)
       | ((with_reducible apply act4.e2); (· first | exact hS | exact hid); (· (with_reducible (repeat (first | exact .blk | exact .rng | apply Rng.tl)))))
       | (with_reducible refine act4.a3 ?_)
       | ((with_reducible apply act4.r3 hs); (· (with_reducible (repeat (first | exact .blk | exact .rng | apply Rng.tl)))))
       | (with_reducible refine act4.c3 ?_)
       | ((with_reducible apply act4.e3); (· first | exact hS | exact hid); (· (with_reducible (repeat (first | exact .blk | exact .rng | apply Rng.tl)))))
       | (with_reducible refine act4.a4 ?_)
       | ((with_reducible apply act4.r4 hs); (· (with_reducible (repeat (first | exact .blk | exact .rng | apply Rng.tl)))))
       | (with_reducible refine act4.c4 ?_)
       | ((with_reducible apply act4.e4); (· first | exact hS | exact hid); (· (with_reducible (repeat (first | exact .blk | exact .rng | apply Rng.tl)))))
       | (with_reducible refine act4.a5 ?_)
       | ((with_reducible apply act4.r5 hs); (· (with_reducible (repeat (first | exact .blk | exact .rng | apply Rng.tl)))))
       | (with_reducible refine act4.c5 ?_)
       | ((with_reducible apply act4.e5); (· first | exact hS | exact hid); (· (with_reducible (repeat (first | exact .blk | exact .rng | apply Rng.tl)))))
       | (with_reducible (first | refine st_lens ?_ | refine st_eqls ?_ | refine st_nels ?_ | refine tk_eqls ?_ | refine tk_nels ?_ | refine mv.mk ?_ | refine nk_p ?_ | refine gdT_i ?_ | refine gdT_ft ?_ | refine gdT_tf ?_ | refine gdT_u ?_ | refine gd_u ?_ | refine gd_ft ?_ | refine gd_tf ?_ | refine gd_i ?_ | refine pk_t ?_ | refine pk_f ?_ | refine br_t ?_ | refine br_f ?_ | refine sp_boxa hs fun g w hs => ?_))
       | (with_reducible ((first | apply st_bin | apply st_ext | apply st_len | apply st_un | apply st_conv | apply st_mki | apply st_fld | apply st_cap | apply st_max | apply st_min | apply st_ixv | apply st_mkf); intro k' hk; simp [go_sem, thenR_ok, bin]; refine hk _ _ ?_; clear hk k'))
       | ((with_reducible (first | apply tk_bin | apply tk_ext | apply tk_len | apply tk_un)); (· intro w; simp [go_sem, bin]; rfl))
       | ((with_reducible apply sp_newr hs); (· kernel_rfl); intro g w hs))
      replace hs := rfs_fact hs (.tl (.tl (.tl (.tl (.tl (.tl (.tl (.tl (.tl .hd)))))))))
      refine cl (isthmusref04_Change (n := x.name) (now := []) (kind := 0) (kk := 0) hs .hd hok (by omega) (by decide) (.inl rfl)) ?_
      rintro _ w ⟨ds2, rfl, hs⟩
      repeat (first
       | (with_reducible (first | refine st_lens ?_ | refine st_eqls ?_ | refine st_nels ?_ | refine tk_eqls ?_ | refine tk_nels ?_ | refine mv.mk ?_ | refine nk_p ?_ | refine gdT_i ?_ | refine gdT_ft ?_ | refine gdT_tf ?_ | refine gdT_u ?_ | refine gd_u ?_ | refine gd_ft ?_ | refine gd_tf ?_ | refine gd_i ?_ | refine pk_t ?_ | refine pk_f ?_ | refine br_t ?_ | refine br_f ?_ | refine sp_boxa hs fun g w hs => ?_))
       | (with_reducible ((first | apply st_bin | apply st_ext | apply st_len | apply st_un | apply st_conv | apply st_mki | apply st_fld | apply st_cap | apply st_max | apply st_min | apply st_ixv | apply st_mkf); intro k' hk; simp [go_sem, thenR_ok, bin]; refine hk _ _ ?_; clear hk k'))
       | ((with_reducible (first | apply tk_bin | apply tk_ext | apply tk_len | apply tk_un)); (· intro w; simp [go_sem, bin]; rfl))
       | ((with_reducible apply sp_newr hs); (· kernel_rfl); intro g w hs))
      refine rfs_store hs (.tl (.tl (.tl (.tl (.tl .hd))))) fun A2 c2 w hs => ?_
      repeat with_reducible refine mv.mk ?_
      exact stepQ_of eZ eD (hs.sbl (.cons .hd (.cons .hd (.cons .hd (.cons .hd (.cons .hd (.cons .hd (.cons .hd .all))))))))
    rw [show (K == 2) = false by simp [c2]]
    refine br_f ?_
    repeat (first
     | (with_reducible (first | refine st_lens ?_ | refine st_eqls ?_ | refine st_nels ?_ | refine tk_eqls ?_ | refine tk_nels ?_ | refine mv.mk ?_ | refine nk_p ?_ | refine gdT_i ?_ | refine gdT_ft ?_ | refine gdT_tf ?_ | refine gdT_u ?_ | refine gd_u ?_ | refine gd_ft ?_ | refine gd_tf ?_ | refine gd_i ?_ | refine pk_t ?_ | refine pk_f ?_ | refine br_t ?_ | refine br_f ?_ | refine sp_boxa hs fun g w hs => ?_))
     | (with_reducible ((first | apply st_bin | apply st_ext | apply st_len | apply st_un | apply st_conv | apply st_mki | apply st_fld | apply st_cap | apply st_max | apply st_min | apply st_ixv | apply st_mkf); intro k' hk; simp [go_sem, thenR_ok, bin]; refine hk _ _ ?_; clear hk k'))
     | ((with_reducible (first | apply tk_bin | apply tk_ext | apply tk_len | apply tk_un)); (· intro w; simp [go_sem, bin]; rfl))
     | ((with_reducible apply sp_newr hs); (· kernel_rfl); intro g w hs))
    refine jn_by (fun vs w => StepQ b L gf gm g4 g6 (stepZ z x) (stepD r x) (vt0 vs) (vt1 vs) w) ?_ (fun _ _ h => h)
    by_cases c3 : K = 3
    · have eZ : stepZ z x = renameF z x.name x.now := by rw [stepZ, hKK, if_neg c01, if_neg c2, if_pos c3]
      have eD : stepD r x = changeR r 1 x.name x.now 0 := by rw [stepD, hKK, if_neg c01, if_neg c2, if_pos c3]
      rw [show (K == 3) = true by simp [c3]]
      repeat (first
       | (with_reducible refine act4.a0 ?_)
       | ((with_reducible apply act4.r0 hs); (· (with_reducible (repeat (first | exact .blk | exact .rng | apply Rng.tl)))))
       | (with_reducible refine act4.c0 ?_)
       | ((with_reducible apply act4.e0); (· first | exact hS | exact hid); (· (with_reducible (repeat (first | exact .blk | exact .rng | apply Rng.tl)))))
       | (with_reducible refine act4.a1 ?_)
       | ((with_reducible apply act4.r1 hs); (· (with_reducible (repeat (first | exact .blk | exact .rng | apply Rng.tl)))))
       | (with_reducible refine act4.c1 ?_)
       | ((with_reducible apply act4.e1); (· first | exact hS | exact hid); (· (with_reducible (repeat (first | exact .blk | exact .rng | apply Rng.tl)))))
       | (with_reducible refine act4.a2 ?_)
       | ((with_reducible apply act4.r2 hs); (· (with_reducible (repeat (first | exact .blk | exact .rng | apply Rng.tl)))))
       | (with_reducible refine act4.c2 ?_)
       | ((with_reducible apply act4.e2); (· first | exact hS | exact hid); (· (with_reducible (repeat (first | exact .blk | exact .rng | apply Rng.tl)))))
       | (with_reducible refine act4.a3 ?_)
       | ((with_reducible apply act4.r3 hs); (· (with_reducible (repeat (first | exact .blk | exact .rng | apply Rng.tl)))))
       | (with_reducible refine act4.c3 ?_)
       | ((with_reducible apply act4.e3); (· first | exact hS | exact hid); (· (with_reducible (repeat (first | exact .blk | exact .rng | apply Rng.tl)))))
       | (with_reducible refine act4.a4 ?_)
       | ((with_reducible apply act4.r4 hs); (· (with_reducible (repeat (first | exact .blk | exact .rng | apply Rng.tl)))))
       | (with_reducible refine act4.c4 ?_)
       | ((with_reducible apply act4.e4); (· first | exact hS | exact hid); (· (with_reducible (repeat (first | exact .blk | exact .rng | apply Rng.tl)))))
       | (with_reducible refine act4.a5 ?_)
       | ((with_reducible apply act4.r5 hs); (· (with_reducible (repeat (first | exact .blk | exact .rng | apply Rng.tl)))))
       | (with_reducible refine act4.c5 ?_)
       | ((with_reducible apply act4.e5); (· first | exact hS | exact hid); (· (with_reducible (repeat (first | exact .blk | exact .rng | apply Rng.tl)))))
       | (with_reducible (first | refine st_lens ?_ | refine st_eqls ?_ | refine st_nels ?_ | refine tk_eqls ?_ | refine tk_nels ?_ | refine mv.mk ?_ | refine nk_p ?_ | refine gdT_i ?_ | refine gdT_ft ?_ | refine gdT_tf ?_ | refine gdT_u ?_ | refine gd_u ?_ | refine gd_ft ?_ | refine gd_tf ?_ | refine gd_i ?_ | refine pk_t ?_ | refine pk_f ?_ | refine br_t ?_ | refine br_f ?_ | refine sp_boxa hs fun g w hs => ?_))
       | (with_reducible ((first | apply st_bin | apply st_ext | apply st_len | apply st_un | apply st_conv | apply st_mki | apply st_fld | apply st_cap | apply st_max | apply st_min | apply st_ixv | apply st_mkf); intro k' hk; simp [go_sem, thenR_ok, bin]; refine hk _ _ ?_; clear hk k'))
       | ((with_reducible (first | apply tk_bin | apply tk_ext | apply tk_len | apply tk_un)); (· intro w; simp [go_sem, bin]; rfl))
       | ((with_reducible apply sp_newr hs); (· kernel_rfl); intro g w hs))
      refine cl (files_Rename (old := x.name) (now := x.now) hs (by omega) (by omega)) ?_
      rintro e w hs
      repeat (first
       | (with_reducible (first | refine st_lens ?_ | refine st_eqls ?_ | refine st_nels ?_ | refine tk_eqls ?_ | refine tk_nels ?_ | refine mv.mk ?_ | refine nk_p ?_ | refine gdT_i ?_ | refine gdT_ft ?_ | refine gdT_tf ?_ | refine gdT_u ?_ | refine gd_u ?_ | refine gd_ft ?_ | refine gd_tf ?_ | refine gd_i ?_ | refine pk_t ?_ | refine pk_f ?_ | refine br_t ?_ | refine br_f ?_ | refine sp_boxa hs fun g w hs => ?_))
       | (with_reducible ((first | apply st_bin | apply st_ext | apply st_len | apply st_un | apply st_conv | apply st_mki | apply st_fld | apply st_cap | apply st_max | apply st_min | apply st_ixv | apply st_mkf); intro k' hk; simp [go_sem, thenR_ok, bin]; refine hk _ _ ?_; clear hk k'))
       | ((with_reducible (first | apply tk_bin | apply tk_ext | apply tk_len | apply tk_un)); (· intro w; simp [go_sem, bin]; rfl))
       | ((with_reducible apply sp_newr hs); (· kernel_rfl); intro g w hs))
      refine sp_loadall hs (.tl (.tl (.tl (.tl .hd)))) (by kernel_rfl) rfl ?_
      repeat (first
       | (with_reducible refine act4.a0 ?_)
       | ((with_reducible apply act4.r0 hs); (· (with_reducible (repeat (first | exact .blk | exact .rng | apply Rng.tl)))))
       | (with_reducible refine act4.c0 ?_)
       | ((with_reducible apply act4.e0); (· first | exact hS | exact hid); (· (with_reducible (repeat (first | exact .blk | exact .rng | apply Rng.tl)))))
       | (with_reducible refine act4.a1 ?_)
       | ((with_reducible apply act4.r1 hs); (· (with_reducible (repeat (first | exact .blk | exact .rng | apply Rng.tl)))))
       | (with_reducible refine act4.c1 ?_)
       | ((with_reducible apply act4.e1); (· first | exact hS | exact hid); (· (with_reducible (repeat (first | exact .blk | exact .rng | apply Rng.tl)))))
       | (with_reducible refine act4.a2 ?_)
       | ((with_reducible apply act4.r2 hs); (· (with_reducible (repeat (first | exact .blk | exact .rng | apply Rng.tl)))))
       | (with_reducible refine act4.c2 ?_)
       | ((with_reducible apply act4.e2); (· first | exact hS | exact hid); (· (with_reducible (repeat (first | exact .blk | exact .rng | apply Rng.tl)))))
       | (with_reducible refine act4.a3 ?_)
       | ((with_reducible apply act4.r3 hs); (· (with_reducible (repeat (first | exact .blk | exact .rng | apply Rng.tl)))))
       | (with_reducible refine act4.c3 ?_)
       | ((with_reducible apply act4.e3); (· first | exact hS | exact hid); (· (with_reducible (repeat (first | exact .blk | exact .rng | apply Rng.tl)))))
       | (with_reducible refine act4.a4 ?_)
       | ((with_reducible apply act4.r4 hs); (· (with_reducible (repeat (first | exact .blk | exact .rng | apply Rng.tl)))))
       | (with_reducible refine act4.c4 ?_)
       | ((with_reducible apply act4.e4); (· first | exact hS | exact hid); (· (with_reducible (repeat (first | exact .blk | exact .rng | apply Rng.tl)))))
       | (with_reducible refine act4.a5 ?_)
       | ((with_reducible apply act4.r5 hs); (· (with_reducible (repeat (first | exact .blk | exact .rng | apply Rng.tl)))))
       | (with_reducible refine act4.c5 ?_)
       | ((with_reducible apply act4.e5); (· first | exact hS | exact hid); (· (with_reducible (repeat (first | exact .blk | exact .rng | apply Rng.tl)))))
       | (with_reducible (first | refine st_lens ?_ | refine st_eqls ?_ | refine st_nels ?_ | refine tk_eqls ?_ | refine tk_nels ?_ | refine mv.mk ?_ | refine nk_p ?_ | refine gdT_i ?_ | refine gdT_ft ?_ | refine gdT_tf ?_ | refine gdT_u ?_ | refine gd_u ?_ | refine gd_ft ?_ | refine gd_tf ?_ | refine gd_i ?_ | refine pk_t ?_ | refine pk_f ?_ | refine br_t ?_ | refine br_f ?_ | refine sp_boxa hs fun g w hs => ?_))
       | (with_reducible ((first | apply st_bin | apply st_ext | apply st_len | apply st_un | apply st_conv | apply st_mki | apply st_fld | apply st_cap | apply st_max | apply st_min | apply st_ixv | apply st_mkf); intro k' hk; simp [go_sem, thenR_ok, bin]; refine hk _ _ ?_; clear hk k'))
       | ((with_reducible (first | apply tk_bin | apply tk_ext | apply tk_len | apply tk_un)); (· intro w; simp [go_sem, bin]; rfl))
       | ((with_reducible apply sp_newr hs); (· kernel_rfl); intro g w hs))
      replace hs := rfs_fact hs (.tl (.tl (.tl (.tl (.tl (.tl (.tl (.tl (.tl .hd)))))))))
      refine cl (isthmusref04_Change (n := x.name) (now := x.now) (kind := 1) (kk := 0) hs .hd hok (by omega) (by omega) (.inr (.inl rfl))) ?_
      rintro _ w ⟨ds2, rfl, hs⟩
      repeat (first
       | (with_reducible (first | refine st_lens ?_ | refine st_eqls ?_ | refine st_nels ?_ | refine tk_eqls ?_ | refine tk_nels ?_ | refine mv.mk ?_ | refine nk_p ?_ | refine gdT_i ?_ | refine gdT_ft ?_ | refine gdT_tf ?_ | refine gdT_u ?_ | refine gd_u ?_ | refine gd_ft ?_ | refine gd_tf ?_ | refine gd_i ?_ | refine pk_t ?_ | refine pk_f ?_ | refine br_t ?_ | refine br_f ?_ | refine sp_boxa hs fun g w hs => ?_))
       | (with_reducible ((first | apply st_bin | apply st_ext | apply st_len | apply st_un | apply st_conv | apply st_mki | apply st_fld | apply st_cap | apply st_max | apply st_min | apply st_ixv | apply st_mkf); intro k' hk; simp [go_sem, thenR_ok, bin]; refine hk _ _ ?_; clear hk k'))
       | ((with_reducible (first | apply tk_bin | apply tk_ext | apply tk_len | apply tk_un)); (· intro w; simp [go_sem, bin]; rfl))
       | ((with_reducible apply sp_newr hs); (· kernel_rfl); intro g w hs))
      refine rfs_store hs (.tl (.tl (.tl (.tl (.tl .hd))))) fun A2 c2 w hs => ?_
      repeat with_reducible refine mv.mk ?_
      exact stepQ_of eZ eD (hs.sbl (.cons .hd (.cons .hd (.cons .hd (.cons .hd (.cons .hd (.cons .hd (.cons .hd .all))))))))
    rw [show (K == 3) = false by simp [c3]]
    refine br_f ?_
    repeat (first
     | (with_reducible (first | refine st_lens ?_ | refine st_eqls ?_ | refine st_nels ?_ | refine tk_eqls ?_ | refine tk_nels ?_ | refine mv.mk ?_ | refine nk_p ?_ | refine gdT_i ?_ | refine gdT_ft ?_ | refine gdT_tf ?_ | refine gdT_u ?_ | refine gd_u ?_ | refine gd_ft ?_ | refine gd_tf ?_ | refine gd_i ?_ | refine pk_t ?_ | refine pk_f ?_ | refine br_t ?_ | refine br_f ?_ | refine sp_boxa hs fun g w hs => ?_))
     | (with_reducible ((first | apply st_bin | apply st_ext | apply st_len | apply st_un | apply st_conv | apply st_mki | apply st_fld | apply st_cap | apply st_max | apply st_min | apply st_ixv | apply st_mkf); intro k' hk; simp [go_sem, thenR_ok, bin]; refine hk _ _ ?_; clear hk k'))
     | ((with_reducible (first | apply tk_bin | apply tk_ext | apply tk_len | apply tk_un)); (· intro w; simp [go_sem, bin]; rfl))
     | ((with_reducible apply sp_newr hs); (· kernel_rfl); intro g w hs))
    refine jn_by (fun vs w => StepQ b L gf gm g4 g6 (stepZ z x) (stepD r x) (vt0 vs) (vt1 vs) w) ?_ (fun _ _ h => h)
    by_cases c4 : K = 4
    · have eZ : stepZ z x = removeF z x.name := by rw [stepZ, hKK, if_neg c01, if_neg c2, if_neg c3, if_pos c4]
      have eD : stepD r x = changeR r 2 x.name [] 0 := by rw [stepD, hKK, if_neg c01, if_neg c2, if_neg c3, if_pos c4]
      rw [show (K == 4) = true by simp [c4]]
      repeat (first
       | (with_reducible refine act4.a0 ?_)
       | ((with_reducible apply act4.r0 hs); (· (with_reducible (repeat (first | exact .blk | exact .rng | apply Rng.tl)))))
       | (with_reducible refine act4.c0 ?_)
       | ((with_reducible apply act4.e0); (· first | exact hS | exact hid); (· (with_reducible (repeat (first | exact .blk | exact .rng | apply Rng.tl)))))
       | (with_reducible refine act4.a1 ?_)
       | ((with_reducible apply act4.r1 hs); (· (with_reducible (repeat (first | exact .blk | exact .rng | apply Rng.tl)))))
       | (with_reducible refine act4.c1 ?_)
       | ((with_reducible apply act4.e1); (· first | exact hS | exact hid); (· (with_reducible (repeat (first | exact .blk | exact .rng | apply Rng.tl)))))
       | (with_reducible refine act4.a2 ?_)
       | ((with_reducible apply act4.r2 hs); (· (with_reducible (repeat (first | exact .blk | exact .rng | apply Rng.tl)))))
       | (with_reducible refine act4.c2 ?_)
       | ((with_reducible apply act4.e2); (· first | exact hS | exact hid); (· (with_reducible (repeat (first | exact .blk | exact .rng | apply Rng.tl)))))
       | (with_reducible refine act4.a3 ?_)
       | ((with_reducible apply act4.r3 hs); (· (with_reducible (repeat (first | exact .blk | exact .rng | apply Rng.tl)))))
       | (with_reducible refine act4.c3 ?_)
       | ((with_reducible apply act4.e3); (· first | exact hS | exact hid); (· (with_reducible (repeat (first | exact .blk | exact .rng | apply Rng.tl)))))
       | (with_reducible refine act4.a4 ?_)
       | ((with_reducible apply act4.r4 hs); (· (with_reducible (repeat (first | exact .blk | exact .rng | apply Rng.tl)))))
       | (with_reducible refine act4.c4 ?_)
       | ((with_reducible apply act4.e4); (· first | exact hS | exact hid); (· (with_reducible (repeat (first | exact .blk | exact .rng | apply Rng.tl)))))
       | (with_reducible refine act4.a5 ?_)
       | ((with_reducible apply act4.r5 hs); (· (with_reducible (repeat (first | exact .blk | exact .rng | apply Rng.tl)))))
       | (with_reducible refine act4.c5 ?_)
       | ((with_reducible apply act4.e5); (· first | exact hS | exact hid); (· (with_reducible (repeat (first | exact .blk | exact .rng | apply Rng.tl)))))
       | (with_reducible (first | refine st_lens ?_ | refine st_eqls ?_ | refine st_nels ?_ | refine tk_eqls ?_ | refine tk_nels ?_ | refine mv.mk ?_ | refine nk_p ?_ | refine gdT_i ?_ | refine gdT_ft ?_ | refine gdT_tf ?_ | refine gdT_u ?_ | refine gd_u ?_ | refine gd_ft ?_ | refine gd_tf ?_ | refine gd_i ?_ | refine pk_t ?_ | refine pk_f ?_ | refine br_t ?_ | refine br_f ?_ | refine sp_boxa hs fun g w hs => ?_))
       | (with_reducible ((first | apply st_bin | apply st_ext | apply st_len | apply st_un | apply st_conv | apply st_mki | apply st_fld | apply st_cap | apply st_max | apply st_min | apply st_ixv | apply st_mkf); intro k' hk; simp [go_sem, thenR_ok, bin]; refine hk _ _ ?_; clear hk k'))
       | ((with_reducible (first | apply tk_bin | apply tk_ext | apply tk_len | apply tk_un)); (· intro w; simp [go_sem, bin]; rfl))
       | ((with_reducible apply sp_newr hs); (· kernel_rfl); intro g w hs))
      refine cl (files_Remove (name := x.name) hs (by omega)) ?_
      rintro e w hs
      repeat (first
       | (with_reducible (first | refine st_lens ?_ | refine st_eqls ?_ | refine st_nels ?_ | refine tk_eqls ?_ | refine tk_nels ?_ | refine mv.mk ?_ | refine nk_p ?_ | refine gdT_i ?_ | refine gdT_ft ?_ | refine gdT_tf ?_ | refine gdT_u ?_ | refine gd_u ?_ | refine gd_ft ?_ | refine gd_tf ?_ | refine gd_i ?_ | refine pk_t ?_ | refine pk_f ?_ | refine br_t ?_ | refine br_f ?_ | refine sp_boxa hs fun g w hs => ?_))
       | (with_reducible ((first | apply st_bin | apply st_ext | apply st_len | apply st_un | apply st_conv | apply st_mki | apply st_fld | apply st_cap | apply st_max | apply st_min | apply st_ixv | apply st_mkf); intro k' hk; simp [go_sem, thenR_ok, bin]; refine hk _ _ ?_; clear hk k'))
       | ((with_reducible (first | apply tk_bin | apply tk_ext | apply tk_len | apply tk_un)); (· intro w; simp [go_sem, bin]; rfl))
       | ((with_reducible apply sp_newr hs); (· kernel_rfl); intro g w hs))
      refine sp_loadall hs (.tl (.tl (.tl (.tl .hd)))) (by kernel_rfl) rfl ?_
      repeat (first
       | (with_reducible refine act4.a0 ?_)
       | ((with_reducible apply act4.r0 hs); (· (with_reducible (repeat (first | exact .blk | exact .rng | apply Rng.tl)))))
       | (with_reducible refine act4.c0 ?_)
       | ((with_reducible apply act4.e0); (· first | exact hS | exact hid); (· (with_reducible (repeat (first | exact .blk | exact .rng | apply Rng.tl)))))
       | (with_reducible refine act4.a1 ?_)
       | ((with_reducible apply act4.r1 hs); (· (with_reducible (repeat (first | exact .blk | exact .rng | apply Rng.tl)))))
       | (with_reducible refine act4.c1 ?_)
       | ((with_reducible apply act4.e1); (· first | exact hS | exact hid); (· (with_reducible (repeat (first | exact .blk | exact .rng | apply Rng.tl)))))
       | (with_reducible refine act4.a2 ?_)
       | ((with_reducible apply act4.r2 hs); (· (with_reducible (repeat (first | exact .blk | exact .rng | apply Rng.tl)))))
       | (with_reducible refine act4.c2 ?_)
       | ((with_reducible apply act4.e2); (· first | exact hS | exact hid); (· (with_reducible (repeat (first | exact .blk | exact .rng | apply Rng.tl)))))
       | (with_reducible refine act4.a3 ?_)
       | ((with_reducible apply act4.r3 hs); (· (with_reducible (repeat (first | exact .blk | exact .rng | apply Rng.tl)))))
       | (with_reducible refine act4.c3 ?_)
       | ((with_reducible apply act4.e3); (· first | exact hS | exact hid); (· (with_reducible (repeat (first | exact .blk | exact .rng | apply Rng.tl)))))
       | (with_reducible refine act4.a4 ?_)
       | ((with_reducible apply act4.r4 hs); (· (with_reducible (repeat (first | exact .blk | exact .rng | apply Rng.tl)))))
       | (with_reducible refine act4.c4 ?_)
       | ((with_reducible apply act4.e4); (· first | exact hS | exact hid); (· (with_reducible (repeat (first | exact .blk | exact .rng | apply Rng.tl)))))
       | (with_reducible refine act4.a5 ?_)
       | ((with_reducible apply act4.r5 hs); (· (with_reducible (repeat (first | exact .blk | exact .rng | apply Rng.tl)))))
       | (with_reducible refine act4.c5 ?_)
       | ((with_reducible apply act4.e5); (· first | exact hS | exact hid); (· (with_reducible (repeat (first | exact .blk | exact .rng | apply Rng.tl)))))
       | (with_reducible (first | refine st_lens ?_ | refine st_eqls ?_ | refine st_nels ?_ | refine tk_eqls ?_ | refine tk_nels ?_ | refine mv.mk ?_ | refine nk_p ?_ | refine gdT_i ?_ | refine gdT_ft ?_ | refine gdT_tf ?_ | refine gdT_u ?_ | refine gd_u ?_ | refine gd_ft ?_ | refine gd_tf ?_ | refine gd_i ?_ | refine pk_t ?_ | refine pk_f ?_ | refine br_t ?_ | refine br_f ?_ | refine sp_boxa hs fun g w hs => ?_))
       | (with_reducible ((first | apply st_bin | apply st_ext | apply st_len | apply st_un | apply st_conv | apply st_mki | apply st_fld | apply st_cap | apply st_max | apply st_min | apply st_ixv | apply st_mkf); intro k' hk; simp [go_sem, thenR_ok, bin]; refine hk _ _ ?_; clear hk k'))
       | ((with_reducible (first | apply tk_bin | apply tk_ext | apply tk_len | apply tk_un)); (· intro w; simp [go_sem, bin]; rfl))
       | ((with_reducible apply sp_newr hs); (· kernel_rfl); intro g w hs))
      replace hs := rfs_fact hs (.tl (.tl (.tl (.tl (.tl (.tl (.tl (.tl (.tl .hd)))))))))
      refine cl (isthmusref04_Change (n := x.name) (now := []) (kind := 2) (kk := 0) hs .hd hok (by omega) (by decide) (.inr (.inr (.inl rfl)))) ?_
      rintro _ w ⟨ds2, rfl, hs⟩
      repeat (first
       | (with_reducible (first | refine st_lens ?_ | refine st_eqls ?_ | refine st_nels ?_ | refine tk_eqls ?_ | refine tk_nels ?_ | refine mv.mk ?_ | refine nk_p ?_ | refine gdT_i ?_ | refine gdT_ft ?_ | refine gdT_tf ?_ | refine gdT_u ?_ | refine gd_u ?_ | refine gd_ft ?_ | refine gd_tf ?_ | refine gd_i ?_ | refine pk_t ?_ | refine pk_f ?_ | refine br_t ?_ | refine br_f ?_ | refine sp_boxa hs fun g w hs => ?_))
       | (with_reducible ((first | apply st_bin | apply st_ext | apply st_len | apply st_un | apply st_conv | apply st_mki | apply st_fld | apply st_cap | apply st_max | apply st_min | apply st_ixv | apply st_mkf); intro k' hk; simp [go_sem, thenR_ok, bin]; refine hk _ _ ?_; clear hk k'))
       | ((with_reducible (first | apply tk_bin | apply tk_ext | apply tk_len | apply tk_un)); (· intro w; simp [go_sem, bin]; rfl))
       | ((with_reducible apply sp_newr hs); (· kernel_rfl); intro g w hs))
      refine rfs_store hs (.tl (.tl (.tl (.tl (.tl .hd))))) fun A2 c2 w hs => ?_
      repeat with_reducible refine mv.mk ?_
      exact stepQ_of eZ eD (hs.sbl (.cons .hd (.cons .hd (.cons .hd (.cons .hd (.cons .hd (.cons .hd (.cons .hd .all))))))))
    rw [show (K == 4) = false by simp [c4]]
    refine br_f ?_
    repeat (first
     | (with_reducible (first | refine st_lens ?_ | refine st_eqls ?_ | refine st_nels ?_ | refine tk_eqls ?_ | refine tk_nels ?_ | refine mv.mk ?_ | refine nk_p ?_ | refine gdT_i ?_ | refine gdT_ft ?_ | refine gdT_tf ?_ | refine gdT_u ?_ | refine gd_u ?_ | refine gd_ft ?_ | refine gd_tf ?_ | refine gd_i ?_ | refine pk_t ?_ | refine pk_f ?_ | refine br_t ?_ | refine br_f ?_ | refine sp_boxa hs fun g w hs => ?_))
     | (with_reducible ((first | apply st_bin | apply st_ext | apply st_len | apply st_un | apply st_conv | apply st_mki | apply st_fld | apply st_cap | apply st_max | apply st_min | apply st_ixv | apply st_mkf); intro k' hk; simp [go_sem, thenR_ok, bin]; refine hk _ _ ?_; clear hk k'))
     | ((with_reducible (first | apply tk_bin | apply tk_ext | apply tk_len | apply tk_un)); (· intro w; simp [go_sem, bin]; rfl))
     | ((with_reducible apply sp_newr hs); (· kernel_rfl); intro g w hs))
    refine jn_by (fun vs w => StepQ b L gf gm g4 g6 (stepZ z x) (stepD r x) (vt0 vs) (vt1 vs) w) ?_ (fun _ _ h => h)
    by_cases c5 : K = 5
    · have eZ : stepZ z x = cutZ z x.name x.n := by rw [stepZ, hKK, if_neg c01, if_neg c2, if_neg c3, if_neg c4, if_pos c5]
      have eD : stepD r x = changeR r 3 x.name [] x.n := by rw [stepD, hKK, if_neg c01, if_neg c2, if_neg c3, if_neg c4, if_pos c5]
      rw [show (K == 5) = true by simp [c5]]
      repeat (first
       | (with_reducible refine act4.a0 ?_)
       | ((with_reducible apply act4.r0 hs); (· (with_reducible (repeat (first | exact .blk | exact .rng | apply Rng.tl)))))
       | (with_reducible refine act4.c0 ?_)
       | ((with_reducible apply act4.e0); (· first | exact hS | exact hid); (· (with_reducible (repeat (first | exact .blk | exact .rng | apply Rng.tl)))))
       | (with_reducible refine act4.a1 ?_)
       | ((with_reducible apply act4.r1 hs); (· (with_reducible (repeat (first | exact .blk | exact .rng | apply Rng.tl)))))
       | (with_reducible refine act4.c1 ?_)
       | ((with_reducible apply act4.e1); (· first | exact hS | exact hid); (· (with_reducible (repeat (first | exact .blk | exact .rng | apply Rng.tl)))))
       | (with_reducible refine act4.a2 ?_)
       | ((with_reducible apply act4.r2 hs); (· (with_reducible (repeat (first | exact .blk | exact .rng | apply Rng.tl)))))
       | (with_reducible refine act4.c2 ?_)
       | ((with_reducible apply act4.e2); (· first | exact hS | exact hid); (· (with_reducible (repeat (first | exact .blk | exact .rng | apply Rng.tl)))))
       | (with_reducible refine act4.a3 ?_)
       | ((with_reducible apply act4.r3 hs); (· (with_reducible (repeat (first | exact .blk | exact .rng | apply Rng.tl)))))
       | (with_reducible refine act4.c3 ?_)
       | ((with_reducible apply act4.e3); (· first | exact hS | exact hid); (· (with_reducible (repeat (first | exact .blk | exact .rng | apply Rng.tl)))))
       | (with_reducible refine act4.a4 ?_)
       | ((with_reducible apply act4.r4 hs); (· (with_reducible (repeat (first | exact .blk | exact .rng | apply Rng.tl)))))
       | (with_reducible refine act4.c4 ?_)
       | ((with_reducible apply act4.e4); (· first | exact hS | exact hid); (· (with_reducible (repeat (first | exact .blk | exact .rng | apply Rng.tl)))))
       | (with_reducible refine act4.a5 ?_)
       | ((with_reducible apply act4.r5 hs); (· (with_reducible (repeat (first | exact .blk | exact .rng | apply Rng.tl)))))
       | (with_reducible refine act4.c5 ?_)
       | ((with_reducible apply act4.e5); (· first | exact hS | exact hid); (· (with_reducible (repeat (first | exact .blk | exact .rng | apply Rng.tl)))))
       | (with_reducible (first | refine st_lens ?_ | refine st_eqls ?_ | refine st_nels ?_ | refine tk_eqls ?_ | refine tk_nels ?_ | refine mv.mk ?_ | refine nk_p ?_ | refine gdT_i ?_ | refine gdT_ft ?_ | refine gdT_tf ?_ | refine gdT_u ?_ | refine gd_u ?_ | refine gd_ft ?_ | refine gd_tf ?_ | refine gd_i ?_ | refine pk_t ?_ | refine pk_f ?_ | refine br_t ?_ | refine br_f ?_ | refine sp_boxa hs fun g w hs => ?_))
       | (with_reducible ((first | apply st_bin | apply st_ext | apply st_len | apply st_un | apply st_conv | apply st_mki | apply st_fld | apply st_cap | apply st_max | apply st_min | apply st_ixv | apply st_mkf); intro k' hk; simp [go_sem, thenR_ok, bin]; refine hk _ _ ?_; clear hk k'))
       | ((with_reducible (first | apply tk_bin | apply tk_ext | apply tk_len | apply tk_un)); (· intro w; simp [go_sem, bin]; rfl))
       | ((with_reducible apply sp_newr hs); (· kernel_rfl); intro g w hs))
      refine cl (files_Cut (name := x.name) (n := x.n) hs (by omega)) ?_
      rintro e w hs
      repeat (first
       | (with_reducible (first | refine st_lens ?_ | refine st_eqls ?_ | refine st_nels ?_ | refine tk_eqls ?_ | refine tk_nels ?_ | refine mv.mk ?_ | refine nk_p ?_ | refine gdT_i ?_ | refine gdT_ft ?_ | refine gdT_tf ?_ | refine gdT_u ?_ | refine gd_u ?_ | refine gd_ft ?_ | refine gd_tf ?_ | refine gd_i ?_ | refine pk_t ?_ | refine pk_f ?_ | refine br_t ?_ | refine br_f ?_ | refine sp_boxa hs fun g w hs => ?_))
       | (with_reducible ((first | apply st_bin | apply st_ext | apply st_len | apply st_un | apply st_conv | apply st_mki | apply st_fld | apply st_cap | apply st_max | apply st_min | apply st_ixv | apply st_mkf); intro k' hk; simp [go_sem, thenR_ok, bin]; refine hk _ _ ?_; clear hk k'))
       | ((with_reducible (first | apply tk_bin | apply tk_ext | apply tk_len | apply tk_un)); (· intro w; simp [go_sem, bin]; rfl))
       | ((with_reducible apply sp_newr hs); (· kernel_rfl); intro g w hs))
      refine sp_loadall hs (.tl (.tl (.tl (.tl .hd)))) (by kernel_rfl) rfl ?_
      repeat (first
       | (with_reducible refine act4.a0 ?_)
       | ((with_reducible apply act4.r0 hs); (· (with_reducible (repeat (first | exact .blk | exact .rng | apply Rng.tl)))))
       | (with_reducible refine act4.c0 ?_)
       | ((with_reducible apply act4.e0); (· first | exact hS | exact hid); (· (with_reducible (repeat (first | exact .blk | exact .rng | apply Rng.tl)))))
       | (with_reducible refine act4.a1 ?_)
       | ((with_reducible apply act4.r1 hs); (· (with_reducible (repeat (first | exact .blk | exact .rng | apply Rng.tl)))))
       | (with_reducible refine act4.c1 ?_)
       | ((with_reducible apply act4.e1); (· first | exact hS | exact hid); (· (with_reducible (repeat (first | exact .blk | exact .rng | apply Rng.tl)))))
       | (with_reducible refine act4.a2 ?_)
       | ((with_reducible apply act4.r2 hs); (· (with_reducible (repeat (first | exact .blk | exact .rng | apply Rng.tl)))))
       | (with_reducible refine act4.c2 ?_)
       | ((with_reducible apply act4.e2); (· first | exact hS | exact hid); (· (with_reducible (repeat (first | exact .blk | exact .rng | apply Rng.tl)))))
       | (with_reducible refine act4.a3 ?_)
       | ((with_reducible apply act4.r3 hs); (· (with_reducible (repeat (first | exact .blk | exact .rng | apply Rng.tl)))))
       | (with_reducible refine act4.c3 ?_)
       | ((with_reducible apply act4.e3); (· first | exact hS | exact hid); (· (with_reducible (repeat (first | exact .blk | exact .rng | apply Rng.tl)))))
       | (with_reducible refine act4.a4 ?_)
       | ((with_reducible apply act4.r4 hs); (· (with_reducible (repeat (first | exact .blk | exact .rng | apply Rng.tl)))))
       | (with_reducible refine act4.c4 ?_)
       | ((with_reducible apply act4.e4); (· first | exact hS | exact hid); (· (with_reducible (repeat (first | exact .blk | exact .rng | apply Rng.tl)))))
       | (with_reducible refine act4.a5 ?_)
       | ((with_reducible apply act4.r5 hs); (· (with_reducible (repeat (first | exact .blk | exact .rng | apply Rng.tl)))))
       | (with_reducible refine act4.c5 ?_)
       | ((with_reducible apply act4.e5); (· first | exact hS | exact hid); (· (with_reducible (repeat (first | exact .blk | exact .rng | apply Rng.tl)))))
       | (with_reducible (first | refine st_lens ?_ | refine st_eqls ?_ | refine st_nels ?_ | refine tk_eqls ?_ | refine tk_nels ?_ | refine mv.mk ?_ | refine nk_p ?_ | refine gdT_i ?_ | refine gdT_ft ?_ | refine gdT_tf ?_ | refine gdT_u ?_ | refine gd_u ?_ | refine gd_ft ?_ | refine gd_tf ?_ | refine gd_i ?_ | refine pk_t ?_ | refine pk_f ?_ | refine br_t ?_ | refine br_f ?_ | refine sp_boxa hs fun g w hs => ?_))
       | (with_reducible ((first | apply st_bin | apply st_ext | apply st_len | apply st_un | apply st_conv | apply st_mki | apply st_fld | apply st_cap | apply st_max | apply st_min | apply st_ixv | apply st_mkf); intro k' hk; simp [go_sem, thenR_ok, bin]; refine hk _ _ ?_; clear hk k'))
       | ((with_reducible (first | apply tk_bin | apply tk_ext | apply tk_len | apply tk_un)); (· intro w; simp [go_sem, bin]; rfl))
       | ((with_reducible apply sp_newr hs); (· kernel_rfl); intro g w hs))
      replace hs := rfs_fact hs (.tl (.tl (.tl (.tl (.tl (.tl (.tl (.tl (.tl .hd)))))))))
      refine cl (isthmusref04_Change (n := x.name) (now := []) (kind := 3) (kk := x.n) hs .hd hok (by omega) (by decide) (.inr (.inr (.inr rfl)))) ?_
      rintro _ w ⟨ds2, rfl, hs⟩
      repeat (first
       | (with_reducible (first | refine st_lens ?_ | refine st_eqls ?_ | refine st_nels ?_ | refine tk_eqls ?_ | refine tk_nels ?_ | refine mv.mk ?_ | refine nk_p ?_ | refine gdT_i ?_ | refine gdT_ft ?_ | refine gdT_tf ?_ | refine gdT_u ?_ | refine gd_u ?_ | refine gd_ft ?_ | refine gd_tf ?_ | refine gd_i ?_ | refine pk_t ?_ | refine pk_f ?_ | refine br_t ?_ | refine br_f ?_ | refine sp_boxa hs fun g w hs => ?_))
       | (with_reducible ((first | apply st_bin | apply st_ext | apply st_len | apply st_un | apply st_conv | apply st_mki | apply st_fld | apply st_cap | apply st_max | apply st_min | apply st_ixv | apply st_mkf); intro k' hk; simp [go_sem, thenR_ok, bin]; refine hk _ _ ?_; clear hk k'))
       | ((with_reducible (first | apply tk_bin | apply tk_ext | apply tk_len | apply tk_un)); (· intro w; simp [go_sem, bin]; rfl))
       | ((with_reducible apply sp_newr hs); (· kernel_rfl); intro g w hs))
      refine rfs_store hs (.tl (.tl (.tl (.tl (.tl .hd))))) fun A2 c2 w hs => ?_
      repeat with_reducible refine mv.mk ?_
      exact stepQ_of eZ eD (hs.sbl (.cons .hd (.cons .hd (.cons .hd (.cons .hd (.cons .hd (.cons .hd (.cons .hd .all))))))))
    rw [show (K == 5) = false by simp [c5]]
    refine br_f ?_
    repeat (first
     | (with_reducible (first | refine st_lens ?_ | refine st_eqls ?_ | refine st_nels ?_ | refine tk_eqls ?_ | refine tk_nels ?_ | refine mv.mk ?_ | refine nk_p ?_ | refine gdT_i ?_ | refine gdT_ft ?_ | refine gdT_tf ?_ | refine gdT_u ?_ | refine gd_u ?_ | refine gd_ft ?_ | refine gd_tf ?_ | refine gd_i ?_ | refine pk_t ?_ | refine pk_f ?_ | refine br_t ?_ | refine br_f ?_ | refine sp_boxa hs fun g w hs => ?_))
     | (with_reducible ((first | apply st_bin | apply st_ext | apply st_len | apply st_un | apply st_conv | apply st_mki | apply st_fld | apply st_cap | apply st_max | apply st_min | apply st_ixv | apply st_mkf); intro k' hk; simp [go_sem, thenR_ok, bin]; refine hk _ _ ?_; clear hk k'))
     | ((with_reducible (first | apply tk_bin | apply tk_ext | apply tk_len | apply tk_un)); (· intro w; simp [go_sem, bin]; rfl))
     | ((with_reducible apply sp_newr hs); (· kernel_rfl); intro g w hs))
    refine jn_by (fun vs w => StepQ b L gf gm g4 g6 (stepZ z x) (stepD r x) (vt0 vs) (vt1 vs) w) ?_ (fun _ _ h => h)
    by_cases c6 : K = 6
    · have eZ : stepZ z x = armF z x.n := by rw [stepZ, hKK, if_neg c01, if_neg c2, if_neg c3, if_neg c4, if_neg c5, if_pos c6]
      have eD : stepD r x = armR r x.n := by rw [stepD, hKK, if_neg c01, if_neg c2, if_neg c3, if_neg c4, if_neg c5, if_pos c6]
      have el : (armR r x.n).1.l = r.l := by
        unfold armR
        split
        · rfl
        · split <;> rfl
      have em : (armF z x.n).1.m = z.m := by
        unfold armF
        split
        · rfl
        · split <;> rfl
      rw [show (K == 6) = true by simp [c6]]
      repeat (first
       | (with_reducible refine act4.a0 ?_)
       | ((with_reducible apply act4.r0 hs); (· (with_reducible (repeat (first | exact .blk | exact .rng | apply Rng.tl)))))
       | (with_reducible refine act4.c0 ?_)
       | ((with_reducible apply act4.e0); (· first | exact hS | exact hid); (· (with_reducible (repeat (first | exact .blk | exact .rng | apply Rng.tl)))))
       | (with_reducible refine act4.a1 ?_)
       | ((with_reducible apply act4.r1 hs); (· (with_reducible (repeat (first | exact .blk | exact .rng | apply Rng.tl)))))
       | (with_reducible refine act4.c1 ?_)
       | ((with_reducible apply act4.e1); (· first | exact hS | exact hid); (· (with_reducible (repeat (first | exact .blk | exact .rng | apply Rng.tl)))))
       | (with_reducible refine act4.a2 ?_)
       | ((with_reducible apply act4.r2 hs); (· (with_reducible (repeat (first | exact .blk | exact .rng | apply Rng.tl)))))
       | (with_reducible refine act4.c2 ?_)
       | ((with_reducible apply act4.e2); (· first | exact hS | exact hid); (· (with_reducible (repeat (first | exact .blk | exact .rng | apply Rng.tl)))))
       | (with_reducible refine act4.a3 ?_)
       | ((with_reducible apply act4.r3 hs); (· (with_reducible (repeat (first | exact .blk | exact .rng | apply Rng.tl)))))
       | (with_reducible refine act4.c3 ?_)
       | ((with_reducible apply act4.e3); (· first | exact hS | exact hid); (· (with_reducible (repeat (first | exact .blk | exact .rng | apply Rng.tl)))))
       | (with_reducible refine act4.a4 ?_)
       | ((with_reducible apply act4.r4 hs); (· (with_reducible (repeat (first | exact .blk | exact .rng | apply Rng.tl)))))
       | (with_reducible refine act4.c4 ?_)
       | ((with_reducible apply act4.e4); (· first | exact hS | exact hid); (· (with_reducible (repeat (first | exact .blk | exact .rng | apply Rng.tl)))))
       | (with_reducible refine act4.a5 ?_)
       | ((with_reducible apply act4.r5 hs); (· (with_reducible (repeat (first | exact .blk | exact .rng | apply Rng.tl)))))
       | (with_reducible refine act4.c5 ?_)
       | ((with_reducible apply act4.e5); (· first | exact hS | exact hid); (· (with_reducible (repeat (first | exact .blk | exact .rng | apply Rng.tl)))))
       | (with_reducible (first | refine st_lens ?_ | refine st_eqls ?_ | refine st_nels ?_ | refine tk_eqls ?_ | refine tk_nels ?_ | refine mv.mk ?_ | refine nk_p ?_ | refine gdT_i ?_ | refine gdT_ft ?_ | refine gdT_tf ?_ | refine gdT_u ?_ | refine gd_u ?_ | refine gd_ft ?_ | refine gd_tf ?_ | refine gd_i ?_ | refine pk_t ?_ | refine pk_f ?_ | refine br_t ?_ | refine br_f ?_ | refine sp_boxa hs fun g w hs => ?_))
       | (with_reducible ((first | apply st_bin | apply st_ext | apply st_len | apply st_un | apply st_conv | apply st_mki | apply st_fld | apply st_cap | apply st_max | apply st_min | apply st_ixv | apply st_mkf); intro k' hk; simp [go_sem, thenR_ok, bin]; refine hk _ _ ?_; clear hk k'))
       | ((with_reducible (first | apply tk_bin | apply tk_ext | apply tk_len | apply tk_un)); (· intro w; simp [go_sem, bin]; rfl))
       | ((with_reducible apply sp_newr hs); (· kernel_rfl); intro g w hs))
      refine cl (files_Arm (n := x.n) hs) ?_
      rintro e w hs
      repeat (first
       | (with_reducible refine act4.a0 ?_)
       | ((with_reducible apply act4.r0 hs); (· (with_reducible (repeat (first | exact .blk | exact .rng | apply Rng.tl)))))
       | (with_reducible refine act4.c0 ?_)
       | ((with_reducible apply act4.e0); (· first | exact hS | exact hid); (· (with_reducible (repeat (first | exact .blk | exact .rng | apply Rng.tl)))))
       | (with_reducible refine act4.a1 ?_)
       | ((with_reducible apply act4.r1 hs); (· (with_reducible (repeat (first | exact .blk | exact .rng | apply Rng.tl)))))
       | (with_reducible refine act4.c1 ?_)
       | ((with_reducible apply act4.e1); (· first | exact hS | exact hid); (· (with_reducible (repeat (first | exact .blk | exact .rng | apply Rng.tl)))))
       | (with_reducible refine act4.a2 ?_)
       | ((with_reducible apply act4.r2 hs); (· (with_reducible (repeat (first | exact .blk | exact .rng | apply Rng.tl)))))
       | (with_reducible refine act4.c2 ?_)
       | ((with_reducible apply act4.e2); (· first | exact hS | exact hid); (· (with_reducible (repeat (first | exact .blk | exact .rng | apply Rng.tl)))))
       | (with_reducible refine act4.a3 ?_)
       | ((with_reducible apply act4.r3 hs); (· (with_reducible (repeat (first | exact .blk | exact .rng | apply Rng.tl)))))
       | (with_reducible refine act4.c3 ?_)
       | ((with_reducible apply act4.e3); (· first | exact hS | exact hid); (· (with_reducible (repeat (first | exact .blk | exact .rng | apply Rng.tl)))))
       | (with_reducible refine act4.a4 ?_)
       | ((with_reducible apply act4.r4 hs); (· (with_reducible (repeat (first | exact .blk | exact .rng | apply Rng.tl)))))
       | (with_reducible refine act4.c4 ?_)
       | ((with_reducible apply act4.e4); (· first | exact hS | exact hid); (· (with_reducible (repeat (first | exact .blk | exact .rng | apply Rng.tl)))))
       | (with_reducible refine act4.a5 ?_)
       | ((with_reducible apply act4.r5 hs); (· (with_reducible (repeat (first | exact .blk | exact .rng | apply Rng.tl)))))
       | (with_reducible refine act4.c5 ?_)
       | ((with_reducible apply act4.e5); (· first | exact hS | exact hid); (· (with_reducible (repeat (first | exact .blk | exact .rng | apply Rng.tl)))))
       | (with_reducible (first | refine st_lens ?_ | refine st_eqls ?_ | refine st_nels ?_ | refine tk_eqls ?_ | refine tk_nels ?_ | refine mv.mk ?_ | refine nk_p ?_ | refine gdT_i ?_ | refine gdT_ft ?_ | refine gdT_tf ?_ | refine gdT_u ?_ | refine gd_u ?_ | refine gd_ft ?_ | refine gd_tf ?_ | refine gd_i ?_ | refine pk_t ?_ | refine pk_f ?_ | refine br_t ?_ | refine br_f ?_ | refine sp_boxa hs fun g w hs => ?_))
       | (with_reducible ((first | apply st_bin | apply st_ext | apply st_len | apply st_un | apply st_conv | apply st_mki | apply st_fld | apply st_cap | apply st_max | apply st_min | apply st_ixv | apply st_mkf); intro k' hk; simp [go_sem, thenR_ok, bin]; refine hk _ _ ?_; clear hk k'))
       | ((with_reducible (first | apply tk_bin | apply tk_ext | apply tk_len | apply tk_un)); (· intro w; simp [go_sem, bin]; rfl))
       | ((with_reducible apply sp_newr hs); (· kernel_rfl); intro g w hs))
      refine jn_by (fun vs w => vt0 vs = .int .i64 (armR r x.n).2 ∧ Isk.Sep b w (blkI g4 T.isthmusref04_FS (rfsV (armR r x.n).1 (.slice A r.l.length c)) :: (errF e (armF z x.n).2).it :: blkI gf T.files_FS (fsV gm (armF z x.n).1) :: mapI fileF gm z.m :: rowI nv T.uint8 1 x.data.length (u8s x.data) :: resI Tryd.prog g6 T.isthmusref04_FS :: blkI g5 T.isthmuslaw04_Act (actV x dv kv) :: (listF iF 1 kv x.keep).it :: (byF dv x.data).it :: (listF rfF 3 (.slice A r.l.length c) r.l).it :: L)) ?_ ?_
      · by_cases c7 : x.n < 0
        · have eA : armR r x.n = (r, 1) := by rw [armR, if_pos c7]
          rw [decide_eq_true c7, eA]
          repeat (first
           | (with_reducible (first | refine st_lens ?_ | refine st_eqls ?_ | refine st_nels ?_ | refine tk_eqls ?_ | refine tk_nels ?_ | refine mv.mk ?_ | refine nk_p ?_ | refine gdT_i ?_ | refine gdT_ft ?_ | refine gdT_tf ?_ | refine gdT_u ?_ | refine gd_u ?_ | refine gd_ft ?_ | refine gd_tf ?_ | refine gd_i ?_ | refine pk_t ?_ | refine pk_f ?_ | refine br_t ?_ | refine br_f ?_ | refine sp_boxa hs fun g w hs => ?_))
           | (with_reducible ((first | apply st_bin | apply st_ext | apply st_len | apply st_un | apply st_conv | apply st_mki | apply st_fld | apply st_cap | apply st_max | apply st_min | apply st_ixv | apply st_mkf); intro k' hk; simp [go_sem, thenR_ok, bin]; refine hk _ _ ?_; clear hk k'))
           | ((with_reducible (first | apply tk_bin | apply tk_ext | apply tk_len | apply tk_un)); (· intro w; simp [go_sem, bin]; rfl))
           | ((with_reducible apply sp_newr hs); (· kernel_rfl); intro g w hs))
          exact ⟨rfl, hs.sbl (.cons (.tl (.tl (.tl (.tl .hd)))) .all)⟩
        rw [decide_eq_false c7]
        repeat (first
         | (with_reducible refine rfs.a0 ?_)
         | ((with_reducible apply rfs.r0 hs); (· (with_reducible (repeat (first | exact .blk | exact .rng | apply Rng.tl)))))
         | (with_reducible refine rfs.c0 ?_)
         | ((with_reducible apply rfs.e0); (· first | exact hS | exact hid); (· (with_reducible (repeat (first | exact .blk | exact .rng | apply Rng.tl)))))
         | (with_reducible refine rfs.a1 ?_)
         | ((with_reducible apply rfs.r1 hs); (· (with_reducible (repeat (first | exact .blk | exact .rng | apply Rng.tl)))))
         | (with_reducible refine rfs.c1 ?_)
         | ((with_reducible apply rfs.e1); (· first | exact hS | exact hid); (· (with_reducible (repeat (first | exact .blk | exact .rng | apply Rng.tl)))))
         | (with_reducible refine rfs.a2 ?_)
         | ((with_reducible apply rfs.r2 hs); (· (with_reducible (repeat (first | exact .blk | exact .rng | apply Rng.tl)))))
         | (with_reducible refine rfs.c2 ?_)
         | ((with_reducible apply rfs.e2); (· first | exact hS | exact hid); (· (with_reducible (repeat (first | exact .blk | exact .rng | apply Rng.tl)))))
         | (with_reducible refine rfs.a3 ?_)
         | ((with_reducible apply rfs.r3 hs); (· (with_reducible (repeat (first | exact .blk | exact .rng | apply Rng.tl)))))
         | (with_reducible refine rfs.c3 ?_)
         | ((with_reducible apply rfs.e3); (· first | exact hS | exact hid); (· (with_reducible (repeat (first | exact .blk | exact .rng | apply Rng.tl)))))
         | (with_reducible refine rfs.a4 ?_)
         | ((with_reducible apply rfs.r4 hs); (· (with_reducible (repeat (first | exact .blk | exact .rng | apply Rng.tl)))))
         | (with_reducible refine rfs.c4 ?_)
         | ((with_reducible apply rfs.e4); (· first | exact hS | exact hid); (· (with_reducible (repeat (first | exact .blk | exact .rng | apply Rng.tl)))))
         | (with_reducible (first | refine st_lens ?_ | refine st_eqls ?_ | refine st_nels ?_ | refine tk_eqls ?_ | refine tk_nels ?_ | refine mv.mk ?_ | refine nk_p ?_ | refine gdT_i ?_ | refine gdT_ft ?_ | refine gdT_tf ?_ | refine gdT_u ?_ | refine gd_u ?_ | refine gd_ft ?_ | refine gd_tf ?_ | refine gd_i ?_ | refine pk_t ?_ | refine pk_f ?_ | refine br_t ?_ | refine br_f ?_ | refine sp_boxa hs fun g w hs => ?_))
         | (with_reducible ((first | apply st_bin | apply st_ext | apply st_len | apply st_un | apply st_conv | apply st_mki | apply st_fld | apply st_cap | apply st_max | apply st_min | apply st_ixv | apply st_mkf); intro k' hk; simp [go_sem, thenR_ok, bin]; refine hk _ _ ?_; clear hk k'))
         | ((with_reducible (first | apply tk_bin | apply tk_ext | apply tk_len | apply tk_un)); (· intro w; simp [go_sem, bin]; rfl))
         | ((with_reducible apply sp_newr hs); (· kernel_rfl); intro g w hs))
        refine jn_by (fun vs w => vt0 vs = .int .i64 (armR r x.n).2 ∧ Isk.Sep b w (blkI g4 T.isthmusref04_FS (rfsV (armR r x.n).1 (.slice A r.l.length c)) :: (errF e (armF z x.n).2).it :: blkI gf T.files_FS (fsV gm (armF z x.n).1) :: mapI fileF gm z.m :: rowI nv T.uint8 1 x.data.length (u8s x.data) :: resI Tryd.prog g6 T.isthmusref04_FS :: blkI g5 T.isthmuslaw04_Act (actV x dv kv) :: (listF iF 1 kv x.keep).it :: (byF dv x.data).it :: (listF rfF 3 (.slice A r.l.length c) r.l).it :: L)) ?_ (fun _ _ h => h)
        cases h8 : r.down with
        | true =>
          have eA : armR r x.n = (r, 13) := by rw [armR, if_neg c7, if_pos h8]
          rw [eA]
          repeat (first
           | (with_reducible (first | refine st_lens ?_ | refine st_eqls ?_ | refine st_nels ?_ | refine tk_eqls ?_ | refine tk_nels ?_ | refine mv.mk ?_ | refine nk_p ?_ | refine gdT_i ?_ | refine gdT_ft ?_ | refine gdT_tf ?_ | refine gdT_u ?_ | refine gd_u ?_ | refine gd_ft ?_ | refine gd_tf ?_ | refine gd_i ?_ | refine pk_t ?_ | refine pk_f ?_ | refine br_t ?_ | refine br_f ?_ | refine sp_boxa hs fun g w hs => ?_))
           | (with_reducible ((first | apply st_bin | apply st_ext | apply st_len | apply st_un | apply st_conv | apply st_mki | apply st_fld | apply st_cap | apply st_max | apply st_min | apply st_ixv | apply st_mkf); intro k' hk; simp [go_sem, thenR_ok, bin]; refine hk _ _ ?_; clear hk k'))
           | ((with_reducible (first | apply tk_bin | apply tk_ext | apply tk_len | apply tk_un)); (· intro w; simp [go_sem, bin]; rfl))
           | ((with_reducible apply sp_newr hs); (· kernel_rfl); intro g w hs))
          exact ⟨rfl, hs.sbl (.cons (.tl (.tl (.tl (.tl .hd)))) .all)⟩
        | false =>
          have eA : armR r x.n = ({ r with armed := true, left := x.n }, 0) := by rw [armR, if_neg c7, if_neg (by simp [h8])]
          rw [eA]
          refine br_f ?_
          replace hs := hs.drew
          refine dr_can (R := [blkI g5 T.isthmuslaw04_Act (actV x dv kv)]) hs (.cons (.tl (.tl (.tl (.tl (.tl (.tl .hd)))))) .nil) ?_
          have hS : ∀ w, Mayr [blkI g5 T.isthmuslaw04_Act (actV x dv kv)] w → Mayr [blkI g5 T.isthmuslaw04_Act (actV x dv kv)] w := fun _ h => h
          repeat (first
           | (with_reducible refine act4.a0 ?_)
           | ((with_reducible apply act4.r0 hs); (· (with_reducible (repeat (first | exact .blk | exact .rng | apply Rng.tl)))))
           | (with_reducible refine act4.c0 ?_)
           | ((with_reducible apply act4.e0); (· first | exact hS | exact hid); (· (with_reducible (repeat (first | exact .blk | exact .rng | apply Rng.tl)))))
           | (with_reducible refine act4.a1 ?_)
           | ((with_reducible apply act4.r1 hs); (· (with_reducible (repeat (first | exact .blk | exact .rng | apply Rng.tl)))))
           | (with_reducible refine act4.c1 ?_)
           | ((with_reducible apply act4.e1); (· first | exact hS | exact hid); (· (with_reducible (repeat (first | exact .blk | exact .rng | apply Rng.tl)))))
           | (with_reducible refine act4.a2 ?_)
           | ((with_reducible apply act4.r2 hs); (· (with_reducible (repeat (first | exact .blk | exact .rng | apply Rng.tl)))))
           | (with_reducible refine act4.c2 ?_)
           | ((with_reducible apply act4.e2); (· first | exact hS | exact hid); (· (with_reducible (repeat (first | exact .blk | exact .rng | apply Rng.tl)))))
           | (with_reducible refine act4.a3 ?_)
           | ((with_reducible apply act4.r3 hs); (· (with_reducible (repeat (first | exact .blk | exact .rng | apply Rng.tl)))))
           | (with_reducible refine act4.c3 ?_)
           | ((with_reducible apply act4.e3); (· first | exact hS | exact hid); (· (with_reducible (repeat (first | exact .blk | exact .rng | apply Rng.tl)))))
           | (with_reducible refine act4.a4 ?_)
           | ((with_reducible apply act4.r4 hs); (· (with_reducible (repeat (first | exact .blk | exact .rng | apply Rng.tl)))))
           | (with_reducible refine act4.c4 ?_)
           | ((with_reducible apply act4.e4); (· first | exact hS | exact hid); (· (with_reducible (repeat (first | exact .blk | exact .rng | apply Rng.tl)))))
           | (with_reducible refine act4.a5 ?_)
           | ((with_reducible apply act4.r5 hs); (· (with_reducible (repeat (first | exact .blk | exact .rng | apply Rng.tl)))))
           | (with_reducible refine act4.c5 ?_)
           | ((with_reducible apply act4.e5); (· first | exact hS | exact hid); (· (with_reducible (repeat (first | exact .blk | exact .rng | apply Rng.tl)))))
           | (with_reducible refine rfs.a0 ?_)
           | ((with_reducible apply rfs.r0 hs); (· (with_reducible (repeat (first | exact .blk | exact .rng | apply Rng.tl)))))
           | (with_reducible refine rfs.c0 ?_)
           | ((with_reducible apply rfs.e0); (· first | exact hS | exact hid); (· (with_reducible (repeat (first | exact .blk | exact .rng | apply Rng.tl)))))
           | (with_reducible refine rfs.a1 ?_)
           | ((with_reducible apply rfs.r1 hs); (· (with_reducible (repeat (first | exact .blk | exact .rng | apply Rng.tl)))))
           | (with_reducible refine rfs.c1 ?_)
           | ((with_reducible apply rfs.e1); (· first | exact hS | exact hid); (· (with_reducible (repeat (first | exact .blk | exact .rng | apply Rng.tl)))))
           | (with_reducible refine rfs.a2 ?_)
           | ((with_reducible apply rfs.r2 hs); (· (with_reducible (repeat (first | exact .blk | exact .rng | apply Rng.tl)))))
           | (with_reducible refine rfs.c2 ?_)
           | ((with_reducible apply rfs.e2); (· first | exact hS | exact hid); (· (with_reducible (repeat (first | exact .blk | exact .rng | apply Rng.tl)))))
           | (with_reducible refine rfs.a3 ?_)
           | ((with_reducible apply rfs.r3 hs); (· (with_reducible (repeat (first | exact .blk | exact .rng | apply Rng.tl)))))
           | (with_reducible refine rfs.c3 ?_)
           | ((with_reducible apply rfs.e3); (· first | exact hS | exact hid); (· (with_reducible (repeat (first | exact .blk | exact .rng | apply Rng.tl)))))
           | (with_reducible refine rfs.a4 ?_)
           | ((with_reducible apply rfs.r4 hs); (· (with_reducible (repeat (first | exact .blk | exact .rng | apply Rng.tl)))))
           | (with_reducible refine rfs.c4 ?_)
           | ((with_reducible apply rfs.e4); (· first | exact hS | exact hid); (· (with_reducible (repeat (first | exact .blk | exact .rng | apply Rng.tl)))))
           | (with_reducible (first | refine st_lens ?_ | refine st_eqls ?_ | refine st_nels ?_ | refine tk_eqls ?_ | refine tk_nels ?_ | refine mv.mk ?_ | refine nk_p ?_ | refine gdT_i ?_ | refine gdT_ft ?_ | refine gdT_tf ?_ | refine gdT_u ?_ | refine gd_u ?_ | refine gd_ft ?_ | refine gd_tf ?_ | refine gd_i ?_ | refine pk_t ?_ | refine pk_f ?_ | refine br_t ?_ | refine br_f ?_ | refine sp_boxa hs fun g w hs => ?_))
           | (with_reducible ((first | apply st_bin | apply st_ext | apply st_len | apply st_un | apply st_conv | apply st_mki | apply st_fld | apply st_cap | apply st_max | apply st_min | apply st_ixv | apply st_mkf); intro k' hk; simp [go_sem, thenR_ok, bin]; refine hk _ _ ?_; clear hk k'))
           | ((with_reducible (first | apply tk_bin | apply tk_ext | apply tk_len | apply tk_un)); (· intro w; simp [go_sem, bin]; rfl))
           | ((with_reducible apply sp_newr hs); (· kernel_rfl); intro g w hs))
          refine sx_st (p := 2) hs (.tl (.tl (.tl (.tl .hd)))) (by kernel_rfl) ⟨rfl, rfl⟩ (by simp [rfsC]) fun w hs => ?_
          refine ⟨hs.mayr (.cons (.tl (.tl (.tl (.tl (.tl (.tl .hd)))))) .nil), ?_⟩
          repeat (first
           | (with_reducible refine act4.a0 ?_)
           | ((with_reducible apply act4.r0 hs); (· (with_reducible (repeat (first | exact .blk | exact .rng | apply Rng.tl)))))
           | (with_reducible refine act4.c0 ?_)
           | ((with_reducible apply act4.e0); (· first | exact hS | exact hid); (· (with_reducible (repeat (first | exact .blk | exact .rng | apply Rng.tl)))))
           | (with_reducible refine act4.a1 ?_)
           | ((with_reducible apply act4.r1 hs); (· (with_reducible (repeat (first | exact .blk | exact .rng | apply Rng.tl)))))
           | (with_reducible refine act4.c1 ?_)
           | ((with_reducible apply act4.e1); (· first | exact hS | exact hid); (· (with_reducible (repeat (first | exact .blk | exact .rng | apply Rng.tl)))))
           | (with_reducible refine act4.a2 ?_)
           | ((with_reducible apply act4.r2 hs); (· (with_reducible (repeat (first | exact .blk | exact .rng | apply Rng.tl)))))
           | (with_reducible refine act4.c2 ?_)
           | ((with_reducible apply act4.e2); (· first | exact hS | exact hid); (· (with_reducible (repeat (first | exact .blk | exact .rng | apply Rng.tl)))))
           | (with_reducible refine act4.a3 ?_)
           | ((with_reducible apply act4.r3 hs); (· (with_reducible (repeat (first | exact .blk | exact .rng | apply Rng.tl)))))
           | (with_reducible refine act4.c3 ?_)
           | ((with_reducible apply act4.e3); (· first | exact hS | exact hid); (· (with_reducible (repeat (first | exact .blk | exact .rng | apply Rng.tl)))))
           | (with_reducible refine act4.a4 ?_)
           | ((with_reducible apply act4.r4 hs); (· (with_reducible (repeat (first | exact .blk | exact .rng | apply Rng.tl)))))
           | (with_reducible refine act4.c4 ?_)
           | ((with_reducible apply act4.e4); (· first | exact hS | exact hid); (· (with_reducible (repeat (first | exact .blk | exact .rng | apply Rng.tl)))))
           | (with_reducible refine act4.a5 ?_)
           | ((with_reducible apply act4.r5 hs); (· (with_reducible (repeat (first | exact .blk | exact .rng | apply Rng.tl)))))
           | (with_reducible refine act4.c5 ?_)
           | ((with_reducible apply act4.e5); (· first | exact hS | exact hid); (· (with_reducible (repeat (first | exact .blk | exact .rng | apply Rng.tl)))))
           | (with_reducible refine rfs.a0 ?_)
           | ((with_reducible apply rfs.r0 hs); (· (with_reducible (repeat (first | exact .blk | exact .rng | apply Rng.tl)))))
           | (with_reducible refine rfs.c0 ?_)
           | ((with_reducible apply rfs.e0); (· first | exact hS | exact hid); (· (with_reducible (repeat (first | exact .blk | exact .rng | apply Rng.tl)))))
           | (with_reducible refine rfs.a1 ?_)
           | ((with_reducible apply rfs.r1 hs); (· (with_reducible (repeat (first | exact .blk | exact .rng | apply Rng.tl)))))
           | (with_reducible refine rfs.c1 ?_)
           | ((with_reducible apply rfs.e1); (· first | exact hS | exact hid); (· (with_reducible (repeat (first | exact .blk | exact .rng | apply Rng.tl)))))
           | (with_reducible refine rfs.a2 ?_)
           | ((with_reducible apply rfs.r2 hs); (· (with_reducible (repeat (first | exact .blk | exact .rng | apply Rng.tl)))))
           | (with_reducible refine rfs.c2 ?_)
           | ((with_reducible apply rfs.e2); (· first | exact hS | exact hid); (· (with_reducible (repeat (first | exact .blk | exact .rng | apply Rng.tl)))))
           | (with_reducible refine rfs.a3 ?_)
           | ((with_reducible apply rfs.r3 hs); (· (with_reducible (repeat (first | exact .blk | exact .rng | apply Rng.tl)))))
           | (with_reducible refine rfs.c3 ?_)
           | ((with_reducible apply rfs.e3); (· first | exact hS | exact hid); (· (with_reducible (repeat (first | exact .blk | exact .rng | apply Rng.tl)))))
           | (with_reducible refine rfs.a4 ?_)
           | ((with_reducible apply rfs.r4 hs); (· (with_reducible (repeat (first | exact .blk | exact .rng | apply Rng.tl)))))
           | (with_reducible refine rfs.c4 ?_)
           | ((with_reducible apply rfs.e4); (· first | exact hS | exact hid); (· (with_reducible (repeat (first | exact .blk | exact .rng | apply Rng.tl)))))
           | (with_reducible (first | refine st_lens ?_ | refine st_eqls ?_ | refine st_nels ?_ | refine tk_eqls ?_ | refine tk_nels ?_ | refine mv.mk ?_ | refine nk_p ?_ | refine gdT_i ?_ | refine gdT_ft ?_ | refine gdT_tf ?_ | refine gdT_u ?_ | refine gd_u ?_ | refine gd_ft ?_ | refine gd_tf ?_ | refine gd_i ?_ | refine pk_t ?_ | refine pk_f ?_ | refine br_t ?_ | refine br_f ?_ | refine sp_boxa hs fun g w hs => ?_))
           | (with_reducible ((first | apply st_bin | apply st_ext | apply st_len | apply st_un | apply st_conv | apply st_mki | apply st_fld | apply st_cap | apply st_max | apply st_min | apply st_ixv | apply st_mkf); intro k' hk; simp [go_sem, thenR_ok, bin]; refine hk _ _ ?_; clear hk k'))
           | ((with_reducible (first | apply tk_bin | apply tk_ext | apply tk_len | apply tk_un)); (· intro w; simp [go_sem, bin]; rfl))
           | ((with_reducible apply sp_newr hs); (· kernel_rfl); intro g w hs))
          refine sx_st (p := 3) hs .hd (by kernel_rfl) ⟨rfl, rfl⟩ (by simp [rfsC]) fun w hs => ?_
          exact ⟨rfl, hs.sbl (.cons .hd .all)⟩
      · rintro x9 w ⟨h9, hs⟩
        simp only [vt0] at h9
        simp only [h9]
        have hs2 := hs.sbl (L' := (errF e (armF z x.n).2).it :: blkI g4 T.isthmusref04_FS (rfsV (armR r x.n).1 (.slice A r.l.length c)) :: (listF rfF 3 (.slice A r.l.length c) r.l).it :: resI Tryd.prog g6 T.isthmusref04_FS :: blkI gf T.files_FS (fsV gm (armF z x.n).1) :: mapI fileF gm z.m :: L) (.cons (.tl .hd) (.cons .hd (.cons (.tl (.tl (.tl (.tl (.tl (.tl (.tl .hd))))))) (.cons (.tl (.tl (.tl .hd))) (.cons .hd (.cons .hd (.drop (.drop (.drop (.drop .all))))))))))
        rw [← el, ← em] at hs2
        show StepQ b L gf gm g4 g6 (stepZ z x) (stepD r x) e (.int .i64 (armR r x.n).2) w
        rw [eZ, eD]
        exact ⟨A, c, rfl, hs2⟩
    have eZ : stepZ z x = (startF z x.keep, 0) := by rw [stepZ, hKK, if_neg c01, if_neg c2, if_neg c3, if_neg c4, if_neg c5, if_neg c6]
    have eD : stepD r x = (startR r x.keep, 0) := by rw [stepD, hKK, if_neg c01, if_neg c2, if_neg c3, if_neg c4, if_neg c5, if_neg c6]
    rw [show (K == 6) = false by simp [c6]]
    repeat (first
     | (with_reducible refine act4.a0 ?_)
     | ((with_reducible apply act4.r0 hs); (· (with_reducible (repeat (first | exact .blk | exact .rng | apply Rng.tl)))))
     | (with_reducible refine act4.c0 ?_)
     | ((with_reducible apply act4.e0); (· first | exact hS | exact hid); (· (with_reducible (repeat (first | exact .blk | exact .rng | apply Rng.tl)))))
     | (with_reducible refine act4.a1 ?_)
     | ((with_reducible apply act4.r1 hs); (· (with_reducible (repeat (first | exact .blk | exact .rng | apply Rng.tl)))))
     | (with_reducible refine act4.c1 ?_)
     | ((with_reducible apply act4.e1); (· first | exact hS | exact hid); (· (with_reducible (repeat (first | exact .blk | exact .rng | apply Rng.tl)))))
     | (with_reducible refine act4.a2 ?_)
     | ((with_reducible apply act4.r2 hs); (· (with_reducible (repeat (first | exact .blk | exact .rng | apply Rng.tl)))))
     | (with_reducible refine act4.c2 ?_)
     | ((with_reducible apply act4.e2); (· first | exact hS | exact hid); (· (with_reducible (repeat (first | exact .blk | exact .rng | apply Rng.tl)))))
     | (with_reducible refine act4.a3 ?_)
     | ((with_reducible apply act4.r3 hs); (· (with_reducible (repeat (first | exact .blk | exact .rng | apply Rng.tl)))))
     | (with_reducible refine act4.c3 ?_)
     | ((with_reducible apply act4.e3); (· first | exact hS | exact hid); (· (with_reducible (repeat (first | exact .blk | exact .rng | apply Rng.tl)))))
     | (with_reducible refine act4.a4 ?_)
     | ((with_reducible apply act4.r4 hs); (· (with_reducible (repeat (first | exact .blk | exact .rng | apply Rng.tl)))))
     | (with_reducible refine act4.c4 ?_)
     | ((with_reducible apply act4.e4); (· first | exact hS | exact hid); (· (with_reducible (repeat (first | exact .blk | exact .rng | apply Rng.tl)))))
     | (with_reducible refine act4.a5 ?_)
     | ((with_reducible apply act4.r5 hs); (· (with_reducible (repeat (first | exact .blk | exact .rng | apply Rng.tl)))))
     | (with_reducible refine act4.c5 ?_)
     | ((with_reducible apply act4.e5); (· first | exact hS | exact hid); (· (with_reducible (repeat (first | exact .blk | exact .rng | apply Rng.tl)))))
     | (with_reducible (first | refine st_lens ?_ | refine st_eqls ?_ | refine st_nels ?_ | refine tk_eqls ?_ | refine tk_nels ?_ | refine mv.mk ?_ | refine nk_p ?_ | refine gdT_i ?_ | refine gdT_ft ?_ | refine gdT_tf ?_ | refine gdT_u ?_ | refine gd_u ?_ | refine gd_ft ?_ | refine gd_tf ?_ | refine gd_i ?_ | refine pk_t ?_ | refine pk_f ?_ | refine br_t ?_ | refine br_f ?_ | refine sp_boxa hs fun g w hs => ?_))
     | (with_reducible ((first | apply st_bin | apply st_ext | apply st_len | apply st_un | apply st_conv | apply st_mki | apply st_fld | apply st_cap | apply st_max | apply st_min | apply st_ixv | apply st_mkf); intro k' hk; simp [go_sem, thenR_ok, bin]; refine hk _ _ ?_; clear hk k'))
     | ((with_reducible (first | apply tk_bin | apply tk_ext | apply tk_len | apply tk_un)); (· intro w; simp [go_sem, bin]; rfl))
     | ((with_reducible apply sp_newr hs); (· kernel_rfl); intro g w hs))
    refine sp_copyN hs (.tl (.tl (.tl (.tl (.tl (.tl .hd)))))) (by omega) fun k2 w hs => ?_
    repeat with_reducible refine mv.mk ?_
    refine cl (files_Start (keep := x.keep) (hs.sbl (.cons (.tl .hd) (.cons (.tl .hd) .all))) .hd hR.ok.m (Nat.le_trans hR.ok.n (by decide))) ?_
    rintro _ w ⟨rfl, hs⟩
    repeat with_reducible refine mv.mk ?_
    refine sp_loadall hs (.tl (.tl (.tl (.tl .hd)))) (by kernel_rfl) rfl ?_
    repeat (first
     | (with_reducible refine act4.a0 ?_)
     | ((with_reducible apply act4.r0 hs); (· (with_reducible (repeat (first | exact .blk | exact .rng | apply Rng.tl)))))
     | (with_reducible refine act4.c0 ?_)
     | ((with_reducible apply act4.e0); (· first | exact hS | exact hid); (· (with_reducible (repeat (first | exact .blk | exact .rng | apply Rng.tl)))))
     | (with_reducible refine act4.a1 ?_)
     | ((with_reducible apply act4.r1 hs); (· (with_reducible (repeat (first | exact .blk | exact .rng | apply Rng.tl)))))
     | (with_reducible refine act4.c1 ?_)
     | ((with_reducible apply act4.e1); (· first | exact hS | exact hid); (· (with_reducible (repeat (first | exact .blk | exact .rng | apply Rng.tl)))))
     | (with_reducible refine act4.a2 ?_)
     | ((with_reducible apply act4.r2 hs); (· (with_reducible (repeat (first | exact .blk | exact .rng | apply Rng.tl)))))
     | (with_reducible refine act4.c2 ?_)
     | ((with_reducible apply act4.e2); (· first | exact hS | exact hid); (· (with_reducible (repeat (first | exact .blk | exact .rng | apply Rng.tl)))))
     | (with_reducible refine act4.a3 ?_)
     | ((with_reducible apply act4.r3 hs); (· (with_reducible (repeat (first | exact .blk | exact .rng | apply Rng.tl)))))
     | (with_reducible refine act4.c3 ?_)
     | ((with_reducible apply act4.e3); (· first | exact hS | exact hid); (· (with_reducible (repeat (first | exact .blk | exact .rng | apply Rng.tl)))))
     | (with_reducible refine act4.a4 ?_)
     | ((with_reducible apply act4.r4 hs); (· (with_reducible (repeat (first | exact .blk | exact .rng | apply Rng.tl)))))
     | (with_reducible refine act4.c4 ?_)
     | ((with_reducible apply act4.e4); (· first | exact hS | exact hid); (· (with_reducible (repeat (first | exact .blk | exact .rng | apply Rng.tl)))))
     | (with_reducible refine act4.a5 ?_)
     | ((with_reducible apply act4.r5 hs); (· (with_reducible (repeat (first | exact .blk | exact .rng | apply Rng.tl)))))
     | (with_reducible refine act4.c5 ?_)
     | ((with_reducible apply act4.e5); (· first | exact hS | exact hid); (· (with_reducible (repeat (first | exact .blk | exact .rng | apply Rng.tl)))))
     | (with_reducible (first | refine st_lens ?_ | refine st_eqls ?_ | refine st_nels ?_ | refine tk_eqls ?_ | refine tk_nels ?_ | refine mv.mk ?_ | refine nk_p ?_ | refine gdT_i ?_ | refine gdT_ft ?_ | refine gdT_tf ?_ | refine gdT_u ?_ | refine gd_u ?_ | refine gd_ft ?_ | refine gd_tf ?_ | refine gd_i ?_ | refine pk_t ?_ | refine pk_f ?_ | refine br_t ?_ | refine br_f ?_ | refine sp_boxa hs fun g w hs => ?_))
     | (with_reducible ((first | apply st_bin | apply st_ext | apply st_len | apply st_un | apply st_conv | apply st_mki | apply st_fld | apply st_cap | apply st_max | apply st_min | apply st_ixv | apply st_mkf); intro k' hk; simp [go_sem, thenR_ok, bin]; refine hk _ _ ?_; clear hk k'))
     | ((with_reducible (first | apply tk_bin | apply tk_ext | apply tk_len | apply tk_un)); (· intro w; simp [go_sem, bin]; rfl))
     | ((with_reducible apply sp_newr hs); (· kernel_rfl); intro g w hs))
    replace hs := rfs_fact hs (.tl (.tl (.tl (.tl (.tl (.tl (.tl (.tl (.tl .hd)))))))))
    refine cl (isthmusref04_Start (keep := x.keep) hs .hd (.tl (.tl (.tl (.tl (.tl (.tl (.tl (.tl .hd)))))))) hok) ?_
    rintro _ w ⟨ds2, rfl, hs⟩
    repeat (first
     | (with_reducible (first | refine st_lens ?_ | refine st_eqls ?_ | refine st_nels ?_ | refine tk_eqls ?_ | refine tk_nels ?_ | refine mv.mk ?_ | refine nk_p ?_ | refine gdT_i ?_ | refine gdT_ft ?_ | refine gdT_tf ?_ | refine gdT_u ?_ | refine gd_u ?_ | refine gd_ft ?_ | refine gd_tf ?_ | refine gd_i ?_ | refine pk_t ?_ | refine pk_f ?_ | refine br_t ?_ | refine br_f ?_ | refine sp_boxa hs fun g w hs => ?_))
     | (with_reducible ((first | apply st_bin | apply st_ext | apply st_len | apply st_un | apply st_conv | apply st_mki | apply st_fld | apply st_cap | apply st_max | apply st_min | apply st_ixv | apply st_mkf); intro k' hk; simp [go_sem, thenR_ok, bin]; refine hk _ _ ?_; clear hk k'))
     | ((with_reducible (first | apply tk_bin | apply tk_ext | apply tk_len | apply tk_un)); (· intro w; simp [go_sem, bin]; rfl))
     | ((with_reducible apply sp_newr hs); (· kernel_rfl); intro g w hs))
    refine rfs_store hs (.tl (.tl (.tl (.tl (.tl .hd))))) fun A2 c2 w hs => ?_
    show StepQ b L gf gm g4 g6 (stepZ z x) (stepD r x) .nilIface (.int .i64 0) w
    rw [eZ, eD]
    exact ⟨A2, c2, rfl, (errF_nil hs).sbl (.cons .hd (.cons .hd (.cons .hd (.cons (.tl (.tl (.tl (.tl (.tl .hd))))) (.drop (.cons .hd (.cons .hd (.drop (.drop (.drop (.drop (.drop (.drop .all)))))))))))))⟩
  · rintro x2 w ⟨A2, c2, hk2, hs⟩
    have hA2 : (stepD r x).2 = (stepZ z x).2 := hA.2
    generalize stepZ z x = Z at *
    generalize stepD r x = D at *
    simp only [vt0, vt1] at hk2 hs
    generalize x2 9 = e at *
    rw [hk2, hA2]
    replace hs := hs.drew
    refine dr_can (R := [blkI g4 T.isthmusref04_FS (rfsV D.1 (.slice A2 D.1.l.length c2))]) hs (.drop (.cons .hd .nil)) ?_
    refine tk_ldn hid .blk (by kernel_rfl) rfl ?_
    repeat with_reducible refine mv.mk ?_
    refine cl (isthmuslaw04_num hs (.tl (.tl (.tl (.tl (.tl (.tl hT)))))) .hd) ?_
    rintro _ w ⟨rfl, hs⟩
    refine ⟨hs.mayr (.drop (.cons .hd .nil)), ?_⟩
    repeat (first
     | (with_reducible (first | refine st_lens ?_ | refine st_eqls ?_ | refine st_nels ?_ | refine tk_eqls ?_ | refine tk_nels ?_ | refine mv.mk ?_ | refine nk_p ?_ | refine gdT_i ?_ | refine gdT_ft ?_ | refine gdT_tf ?_ | refine gdT_u ?_ | refine gd_u ?_ | refine gd_ft ?_ | refine gd_tf ?_ | refine gd_i ?_ | refine pk_t ?_ | refine pk_f ?_ | refine br_t ?_ | refine br_f ?_ | refine sp_boxa hs fun g w hs => ?_))
     | (with_reducible ((first | apply st_bin | apply st_ext | apply st_len | apply st_un | apply st_conv | apply st_mki | apply st_fld | apply st_cap | apply st_max | apply st_min | apply st_ixv | apply st_mkf); intro k' hk; simp [go_sem, thenR_ok, bin]; refine hk _ _ ?_; clear hk k'))
     | ((with_reducible (first | apply tk_bin | apply tk_ext | apply tk_len | apply tk_un)); (· intro w; simp [go_sem, bin]; rfl))
     | ((with_reducible apply sp_newr hs); (· kernel_rfl); intro g w hs))
    refine sp_setr (ds := rfsV D.1 (.slice A2 D.1.l.length c2)) hs (.tl (.tl (.tl .hd))) (by kernel_rfl) rfl (rfsV_one D.1) fun w hs => ?_
    refine ⟨hs.mayr (.drop (.drop (.cons .hd .nil))), ?_⟩
    repeat with_reducible refine mv.mk ?_
    refine sp_rc hs .hd (by kernel_rfl) rfl ?_
    replace hs := rfs_fact hs (.tl (.tl (.tl .hd)))
    exact ⟨_, by simp, hs.sbl (.cons .hd (.drop (.drop (.drop (.drop .all)))))⟩
end
end Go.Proofs.YtiaiglgfangedaaDoor
