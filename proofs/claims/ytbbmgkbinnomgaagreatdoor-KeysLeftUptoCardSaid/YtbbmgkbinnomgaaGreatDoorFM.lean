/- files: the methods of a file system. -/
import Derived.Test.YtbbmgkbinnomgaaGreatDoorFS
set_option linter.unusedVariables false
set_option linter.unusedSimpArgs false
set_option linter.unusedSectionVars false
namespace Go.Proofs.YtbbmgkbinnomgaaGreatDoor
open Go Go.Isk Go.RowKit
set_option maxRecDepth 20000
section
variable {b : Base} {w : World} {L R : List It} {g gf gm : Nat} {v sv nv : Value} {s l name : Bytes} {cs : List Value} {z : FsD} {names : List Bytes}
theorem files_ready (hs : Sep b w (blkI gf T.files_FS (fsV gm z) :: L)) (hn : Ins L (listF nameF 1 nv names).it) (hnm : ∀ n ∈ names, n.length ≤ 4611686018427387904) (hlen : names.length ≤ 1000) :
    C Tryz.prog N.files_FS_ready #[(.pointer (some ⟨gf, 0, none⟩)), nv] w fun r w' => Sep b w' ((errF r (readyE z names)).it :: blkI gf T.files_FS (fsV gm z) :: L) := by
  obtain ⟨A, c, rfl⟩ := hs.lst_len (Ins.tl hn).lst
  refine C.files_FS_ready ?_
  unfold F.files_FS_ready
  repeat (first
   | (with_reducible (first | refine st_lens ?_ | refine st_eqls ?_ | refine mv.mk ?_ | refine nk_p ?_ | refine gd_u ?_ | refine gd_ft ?_ | refine gd_tf ?_ | refine gd_i ?_ | refine pk_t ?_ | refine pk_f ?_ | refine br_t ?_ | refine br_f ?_))
   | (with_reducible ((first | apply st_bin | apply st_len | apply st_un); intro k' hk; simp [go_sem, thenR_ok, bin]; refine hk _ _ ?_; clear hk k')))
  refine lp_by (fun us w' => ∃ (i : Nat) (y1 y2 : Value), us = [y1, y2, .int .i64 (i : Int)] ∧ i ≤ names.length ∧ (∀ j (h : j < names.length), j < i → namedF names[j] = true) ∧ Sep b w' (blkI gf T.files_FS (fsV gm z) :: L)) (fun us _ => match us with | [_, _, .int _ m] => names.length - m.toNat | _ => 0) ⟨0, _, _, rfl, Nat.zero_le _, fun j h hj => by omega, hs⟩ ?_
  clear hs
  rintro x1 w ⟨i, y1, y2, hx1, hi, hok, hs⟩
  simp only [List.cons.injEq, and_true] at hx1
  simp only [hx1.1, hx1.2.1, hx1.2.2]
  repeat (first
   | (with_reducible (first | refine st_lens ?_ | refine st_eqls ?_ | refine mv.mk ?_ | refine nk_p ?_ | refine gd_u ?_ | refine gd_ft ?_ | refine gd_tf ?_ | refine gd_i ?_ | refine pk_t ?_ | refine pk_f ?_ | refine br_t ?_ | refine br_f ?_))
   | (with_reducible ((first | apply st_bin | apply st_len | apply st_un); intro k' hk; simp [go_sem, thenR_ok, bin]; refine hk _ _ ?_; clear hk k')))
  refine br_split (fun hq => ?_) (fun hq => ?_)
  · have hi' : i < names.length := by have := of_decide_eq_true hq; omega
    have hni := hnm _ (List.getElem_mem hi')
    refine sp_el1 hs (Ins.tl hn).lst fsT (by kernel_rfl) i rfl hi' fun x hs => ?_
    have hx : [x] = [str names[i]] := hs.get .hd
    simp only [List.cons.injEq, and_true] at hx
    subst hx
    replace hs := hs.drop .hd
    repeat (first
     | (with_reducible (first | refine st_lens ?_ | refine st_eqls ?_ | refine mv.mk ?_ | refine nk_p ?_ | refine gd_u ?_ | refine gd_ft ?_ | refine gd_tf ?_ | refine gd_i ?_ | refine pk_t ?_ | refine pk_f ?_ | refine br_t ?_ | refine br_f ?_))
     | (with_reducible ((first | apply st_bin | apply st_len | apply st_un); intro k' hk; simp [go_sem, thenR_ok, bin]; refine hk _ _ ?_; clear hk k')))
    refine cl (files_named hs hni) ?_
    rintro _ w ⟨rfl, hs⟩
    cases hnd : namedF names[i] with
    | false =>
      repeat (first
       | (with_reducible (first | refine st_lens ?_ | refine st_eqls ?_ | refine mv.mk ?_ | refine nk_p ?_ | refine gd_u ?_ | refine gd_ft ?_ | refine gd_tf ?_ | refine gd_i ?_ | refine pk_t ?_ | refine pk_f ?_ | refine br_t ?_ | refine br_f ?_))
       | (with_reducible ((first | apply st_bin | apply st_len | apply st_un); intro k' hk; simp [go_sem, thenR_ok, bin]; refine hk _ _ ?_; clear hk k')))
      refine cl (faultS hni (by decide) (by decide) (by decide) hs) ?_
      rintro r w hs
      repeat with_reducible refine mv.mk ?_
      have e : readyE z names = 1 := by
        rw [readyE, if_pos]
        exact List.any_eq_true.2 ⟨_, List.getElem_mem hi', by simp [hnd]⟩
      rw [e]
      exact hs
    | true =>
      repeat (first
       | (with_reducible (first | refine st_lens ?_ | refine st_eqls ?_ | refine mv.mk ?_ | refine nk_p ?_ | refine gd_u ?_ | refine gd_ft ?_ | refine gd_tf ?_ | refine gd_i ?_ | refine pk_t ?_ | refine pk_f ?_ | refine br_t ?_ | refine br_f ?_))
       | (with_reducible ((first | apply st_bin | apply st_len | apply st_un); intro k' hk; simp [go_sem, thenR_ok, bin]; refine hk _ _ ?_; clear hk k')))
      rw [i64_succ (by omega)]
      refine ⟨⟨i + 1, _, _, rfl, hi', fun j h hj => ?_, hs⟩, by simp; omega⟩
      rcases Nat.lt_or_ge j i with h1 | h1
      · exact hok j h h1
      · obtain rfl : j = i := by omega
        exact hnd
  · obtain rfl : i = names.length := by have := of_decide_eq_false hq; omega
    have e : names.any (fun n => !namedF n) = false := by
      rw [List.any_eq_false]
      intro x hx
      obtain ⟨j, hj, rfl⟩ := List.mem_iff_getElem.1 hx
      simp [hok j hj hj]
    repeat (first
     | (with_reducible refine fs.a4 ?_)
     | ((with_reducible apply fs.r4 hs); (· (with_reducible (repeat (first | exact .blk | exact .rng | apply Rng.tl)))))
     | (with_reducible (first | refine st_lens ?_ | refine st_eqls ?_ | refine mv.mk ?_ | refine nk_p ?_ | refine gd_u ?_ | refine gd_ft ?_ | refine gd_tf ?_ | refine gd_i ?_ | refine pk_t ?_ | refine pk_f ?_ | refine br_t ?_ | refine br_f ?_))
     | (with_reducible ((first | apply st_bin | apply st_len | apply st_un); intro k' hk; simp [go_sem, thenR_ok, bin]; refine hk _ _ ?_; clear hk k')))
    cases hd : z.down with
    | true =>
      repeat (first
       | (with_reducible (first | refine st_lens ?_ | refine st_eqls ?_ | refine mv.mk ?_ | refine nk_p ?_ | refine gd_u ?_ | refine gd_ft ?_ | refine gd_tf ?_ | refine gd_i ?_ | refine pk_t ?_ | refine pk_f ?_ | refine br_t ?_ | refine br_f ?_))
       | (with_reducible ((first | apply st_bin | apply st_len | apply st_un); intro k' hk; simp [go_sem, thenR_ok, bin]; refine hk _ _ ?_; clear hk k')))
      refine cl (files_fault (x := ⟨#[]⟩) (e := 13) (by decide) (by decide) (by decide) (by decide) hs) ?_
      rintro r w hs
      repeat with_reducible refine mv.mk ?_
      rw [readyE, if_neg (by simp [e]), if_pos hd]
      exact hs
    | false =>
      repeat (first
       | (with_reducible (first | refine st_lens ?_ | refine st_eqls ?_ | refine mv.mk ?_ | refine nk_p ?_ | refine gd_u ?_ | refine gd_ft ?_ | refine gd_tf ?_ | refine gd_i ?_ | refine pk_t ?_ | refine pk_f ?_ | refine br_t ?_ | refine br_f ?_))
       | (with_reducible ((first | apply st_bin | apply st_len | apply st_un); intro k' hk; simp [go_sem, thenR_ok, bin]; refine hk _ _ ?_; clear hk k')))
      rw [readyE, if_neg (by simp [e]), if_neg (by simp [hd])]
      exact errF_nil hs
theorem files_step (hs : Sep b w (blkI gf T.files_FS (fsV gm z) :: L)) : C Tryz.prog N.files_FS_step #[(.pointer (some ⟨gf, 0, none⟩))] w fun r w' => Sep b w' ((errF r (stepF z).2).it :: blkI gf T.files_FS (fsV gm (stepF z).1) :: L) := by
  refine C.files_FS_step ?_
  unfold F.files_FS_step
  have hgo : ∀ (w : World), ¬ (z.armed = true ∧ z.left = 0) → Sep b w (blkI gf T.files_FS (fsV gm z) :: L) →
      o1 Tryz.prog (Instr.fieldAt T.files_FS (.pointer (some ⟨gf, 0, none⟩)) 3) w fun t20 w => o1 Tryz.prog (Instr.loadAt T.int t20) w fun t21 w =>
      o1 Tryz.prog (bin .sub T.int (.tmp 21) (.const (.int .i64 1)) t21 (.int .i64 1)) w fun t22 w => nilOk (.pointer (some ⟨gf, 0, none⟩)) = true ∧ mv (.pointer (some ⟨gf, 0, none⟩)) fun t23 =>
      o1 Tryz.prog (Instr.fieldAt T.files_FS t23 3) w fun t24 w => o0 Tryz.prog (Instr.storeAt T.int t24 t22) w fun _ w => mv (.pointer (some ⟨gf, 0, none⟩)) fun t25 => nilOk t25 = true ∧ mv t25 fun t26 =>
      o1 Tryz.prog (Instr.fieldAt T.files_FS t26 1) w fun t27 w => o1 Tryz.prog (Instr.loadAt T.int t27) w fun t28 w =>
      o1 Tryz.prog (bin .add T.int (.tmp 28) (.const (.int .i64 1)) t28 (.int .i64 1)) w fun t29 w => nilOk t25 = true ∧ mv t25 fun t30 =>
      o1 Tryz.prog (Instr.fieldAt T.files_FS t30 1) w fun t31 w => o0 Tryz.prog (Instr.storeAt T.int t31 t29) w fun _ w => mv .nilIface fun t2 => Sep b w ((errF t2 (stepF z).2).it :: blkI gf T.files_FS (fsV gm (stepF z).1) :: L) := by
    intro w hn hs
    have e : stepF z = ({ z with left := IntKind.i64.wrap (z.left - 1), steps := IntKind.i64.wrap (z.steps + 1) }, 0) := by rw [stepF, if_neg hn]
    rw [e]
    repeat (first
     | (with_reducible refine fs.a1 ?_)
     | ((with_reducible apply fs.r1 hs); (· (with_reducible (repeat (first | exact .blk | exact .rng | apply Rng.tl)))))
     | (with_reducible refine fs.a2 ?_)
     | ((with_reducible apply fs.r2 hs); (· (with_reducible (repeat (first | exact .blk | exact .rng | apply Rng.tl)))))
     | (with_reducible refine fs.a3 ?_)
     | ((with_reducible apply fs.r3 hs); (· (with_reducible (repeat (first | exact .blk | exact .rng | apply Rng.tl)))))
     | (with_reducible refine fs.a4 ?_)
     | ((with_reducible apply fs.r4 hs); (· (with_reducible (repeat (first | exact .blk | exact .rng | apply Rng.tl)))))
     | (with_reducible (first | refine st_eqls ?_ | refine mv.mk ?_ | refine nk_p ?_ | refine gd_u ?_ | refine gd_ft ?_ | refine gd_tf ?_ | refine gd_i ?_ | refine pk_t ?_ | refine pk_f ?_ | refine br_t ?_ | refine br_f ?_))
     | (with_reducible ((first | apply st_bin); intro k' hk; simp [go_sem, thenR_ok, bin]; refine hk _ _ ?_; clear hk k')))
    refine sx_st (p := 3) hs .hd (by kernel_rfl) ⟨rfl, rfl⟩ (by simp [fsC]) fun w hs => ?_
    replace hs : Sep b w (blkI gf T.files_FS (fsC (.map (some gm)) (.int .i64 z.steps) (.bool z.armed) (.int .i64 (IntKind.i64.wrap (z.left - 1))) (.bool z.down)) :: L) := hs
    repeat (first
     | (with_reducible refine fs.a1 ?_)
     | ((with_reducible apply fs.r1 hs); (· (with_reducible (repeat (first | exact .blk | exact .rng | apply Rng.tl)))))
     | (with_reducible refine fs.a2 ?_)
     | ((with_reducible apply fs.r2 hs); (· (with_reducible (repeat (first | exact .blk | exact .rng | apply Rng.tl)))))
     | (with_reducible refine fs.a3 ?_)
     | ((with_reducible apply fs.r3 hs); (· (with_reducible (repeat (first | exact .blk | exact .rng | apply Rng.tl)))))
     | (with_reducible refine fs.a4 ?_)
     | ((with_reducible apply fs.r4 hs); (· (with_reducible (repeat (first | exact .blk | exact .rng | apply Rng.tl)))))
     | (with_reducible (first | refine st_eqls ?_ | refine mv.mk ?_ | refine nk_p ?_ | refine gd_u ?_ | refine gd_ft ?_ | refine gd_tf ?_ | refine gd_i ?_ | refine pk_t ?_ | refine pk_f ?_ | refine br_t ?_ | refine br_f ?_))
     | (with_reducible ((first | apply st_bin); intro k' hk; simp [go_sem, thenR_ok, bin]; refine hk _ _ ?_; clear hk k')))
    refine sx_st (p := 1) hs .hd (by kernel_rfl) ⟨rfl, rfl⟩ (by simp [fsC]) fun w hs => ?_
    repeat with_reducible refine mv.mk ?_
    exact errF_nil hs
  repeat (first
   | (with_reducible refine fs.a1 ?_)
   | ((with_reducible apply fs.r1 hs); (· (with_reducible (repeat (first | exact .blk | exact .rng | apply Rng.tl)))))
   | (with_reducible refine fs.a2 ?_)
   | ((with_reducible apply fs.r2 hs); (· (with_reducible (repeat (first | exact .blk | exact .rng | apply Rng.tl)))))
   | (with_reducible refine fs.a3 ?_)
   | ((with_reducible apply fs.r3 hs); (· (with_reducible (repeat (first | exact .blk | exact .rng | apply Rng.tl)))))
   | (with_reducible refine fs.a4 ?_)
   | ((with_reducible apply fs.r4 hs); (· (with_reducible (repeat (first | exact .blk | exact .rng | apply Rng.tl)))))
   | (with_reducible (first | refine st_eqls ?_ | refine mv.mk ?_ | refine nk_p ?_ | refine gd_u ?_ | refine gd_ft ?_ | refine gd_tf ?_ | refine gd_i ?_ | refine pk_t ?_ | refine pk_f ?_ | refine br_t ?_ | refine br_f ?_))
   | (with_reducible ((first | apply st_bin); intro k' hk; simp [go_sem, thenR_ok, bin]; refine hk _ _ ?_; clear hk k')))
  cases ha : z.armed with
  | false =>
    repeat (first
     | (with_reducible (first | refine st_eqls ?_ | refine mv.mk ?_ | refine nk_p ?_ | refine gd_u ?_ | refine gd_ft ?_ | refine gd_tf ?_ | refine gd_i ?_ | refine pk_t ?_ | refine pk_f ?_ | refine br_t ?_ | refine br_f ?_))
     | (with_reducible ((first | apply st_bin); intro k' hk; simp [go_sem, thenR_ok, bin]; refine hk _ _ ?_; clear hk k')))
    exact hgo w (by simp [ha]) hs
  | true =>
  repeat (first
   | (with_reducible refine fs.a1 ?_)
   | ((with_reducible apply fs.r1 hs); (· (with_reducible (repeat (first | exact .blk | exact .rng | apply Rng.tl)))))
   | (with_reducible refine fs.a2 ?_)
   | ((with_reducible apply fs.r2 hs); (· (with_reducible (repeat (first | exact .blk | exact .rng | apply Rng.tl)))))
   | (with_reducible refine fs.a3 ?_)
   | ((with_reducible apply fs.r3 hs); (· (with_reducible (repeat (first | exact .blk | exact .rng | apply Rng.tl)))))
   | (with_reducible refine fs.a4 ?_)
   | ((with_reducible apply fs.r4 hs); (· (with_reducible (repeat (first | exact .blk | exact .rng | apply Rng.tl)))))
   | (with_reducible (first | refine st_eqls ?_ | refine mv.mk ?_ | refine nk_p ?_ | refine gd_u ?_ | refine gd_ft ?_ | refine gd_tf ?_ | refine gd_i ?_ | refine pk_t ?_ | refine pk_f ?_ | refine br_t ?_ | refine br_f ?_))
   | (with_reducible ((first | apply st_bin); intro k' hk; simp [go_sem, thenR_ok, bin]; refine hk _ _ ?_; clear hk k')))
  by_cases h0 : z.left = 0
  rotate_left
  · rw [show (z.left == 0) = false by simpa using h0]
    repeat (first
     | (with_reducible (first | refine st_eqls ?_ | refine mv.mk ?_ | refine nk_p ?_ | refine gd_u ?_ | refine gd_ft ?_ | refine gd_tf ?_ | refine gd_i ?_ | refine pk_t ?_ | refine pk_f ?_ | refine br_t ?_ | refine br_f ?_))
     | (with_reducible ((first | apply st_bin); intro k' hk; simp [go_sem, thenR_ok, bin]; refine hk _ _ ?_; clear hk k')))
    exact hgo w (fun h => h0 h.2) hs
  rw [show (z.left == 0) = true by simpa using h0]
  have e : stepF z = ({ z with down := true }, 13) := by rw [stepF, if_pos ⟨ha, h0⟩]
  rw [e]
  repeat (first
   | (with_reducible refine fs.a1 ?_)
   | ((with_reducible apply fs.r1 hs); (· (with_reducible (repeat (first | exact .blk | exact .rng | apply Rng.tl)))))
   | (with_reducible refine fs.a2 ?_)
   | ((with_reducible apply fs.r2 hs); (· (with_reducible (repeat (first | exact .blk | exact .rng | apply Rng.tl)))))
   | (with_reducible refine fs.a3 ?_)
   | ((with_reducible apply fs.r3 hs); (· (with_reducible (repeat (first | exact .blk | exact .rng | apply Rng.tl)))))
   | (with_reducible refine fs.a4 ?_)
   | ((with_reducible apply fs.r4 hs); (· (with_reducible (repeat (first | exact .blk | exact .rng | apply Rng.tl)))))
   | (with_reducible (first | refine st_eqls ?_ | refine mv.mk ?_ | refine nk_p ?_ | refine gd_u ?_ | refine gd_ft ?_ | refine gd_tf ?_ | refine gd_i ?_ | refine pk_t ?_ | refine pk_f ?_ | refine br_t ?_ | refine br_f ?_))
   | (with_reducible ((first | apply st_bin); intro k' hk; simp [go_sem, thenR_ok, bin]; refine hk _ _ ?_; clear hk k')))
  refine sx_st (p := 4) hs .hd (by kernel_rfl) ⟨rfl, rfl⟩ (by simp [fsC]) fun w hs => ?_
  replace hs : Sep b w (blkI gf T.files_FS (fsV gm { z with down := true }) :: L) := hs
  refine cl (files_fault (x := ⟨#[]⟩) (e := 13) (by decide) (by decide) (by decide) (by decide) hs) ?_
  rintro r w hs
  repeat with_reducible refine mv.mk ?_
  exact hs
/-- a file, and the error's number -/
def findE (z : FsD) (name : Bytes) : Int := if readyE z [name] ≠ 0 then readyE z [name] else if (lookM name z.m).isNone then 8 else 0
def findF (z : FsD) (name : Bytes) : FileD := if findE z name ≠ 0 then ([], 0) else (lookM name z.m).getD ([], 0)
theorem fileT : Tryz.prog.underlying T.map_string_files_file = some (.map T.string T.files_file) := by kernel_rfl
theorem strT : Tryz.prog.underlying T.string = some .string := by kernel_rfl
theorem zeroFile (w : World) : (zeroValue T.files_file).run Tryz.prog w = .ok (.agg (fileC (.slice none 0 0) (.int .i64 0)).toArray) w := by
  have h : (Tryz.prog.info? T.files_file).bind (·.zero) = some (.agg #[.slice none 0 0, .int .i64 0]) := by kernel_rfl
  obtain ⟨i, h1, h2⟩ := Option.bind_eq_some_iff.1 h
  simp [zeroValue, typeInfo, h1, h2, Result.andThen]
  rfl
theorem nameL (hs : Sep b w L) {k : Value → World → Prop} (hk : ∀ v w', Sep b w' ((listF nameF 1 v [name]).it :: L) → k v w') : o1 Tryz.prog (Instr.buildSlice T.sl_string 1 #[(0, str name)]) w k :=
  sp_litv hs fsT rfl fun v w' h => hk v w' ((h.fact (f := listF nameF 1 v [name]) ⟨[[str name]], ⟨rfl, fun i hi x hx => by
    match i, hi, hx with
    | 0, _, hx => simp only [List.getElem?_cons_zero, Option.some.injEq] at hx; exact hx.symm⟩, fun x hx => by simp at hx; subst hx; rfl, h.get .hd⟩).sbl (.cons .hd (.drop .all)))
theorem fileF_ok : FamOk fileF 2 := ⟨fun {cs x S w} (h : FileS _ _ _ _) => by
  obtain ⟨sv, rfl, h⟩ := h
  refine ⟨rfl, ?_⟩
  intro u hu
  simp only [fileC, List.mem_cons, List.not_mem_nil, or_false] at hu
  rcases hu with rfl | rfl
  · exact (sl_cells h.1).2
  · rfl⟩
theorem zeroFileF (hs : Sep b w L) : Sep b w ((fileF (fileC (.slice none 0 0) (.int .i64 0)) ([], 0)).it :: L) := hs.fact (f := fileF _ ([], 0)) ⟨_, rfl, SlS.nil 1⟩
theorem files_find (hs : Sep b w (blkI gf T.files_FS (fsV gm z) :: mapI fileF gm z.m :: L)) (hnl : name.length ≤ 4611686018427387904) :
    C Tryz.prog N.files_FS_find #[.pointer (some ⟨gf, 0, none⟩), str name] w fun r w' => ∃ cs e, r = .tuple #[.agg cs.toArray, e] ∧ Sep b w' ((errF e (findE z name)).it :: (fileF cs (findF z name)).it :: blkI gf T.files_FS (fsV gm z) :: mapI fileF gm z.m :: L) := by
  refine C.files_FS_find ?_
  unfold F.files_FS_find
  refine sp_newr hs (by kernel_rfl) fun g4 w hs => ?_
  repeat with_reducible refine mv.mk ?_
  refine nameL (name := name) hs fun nv w hs => ?_
  replace hs := hs.sbl (.cons (.tl (.tl .hd)) .all)
  refine cl (files_ready (names := [name]) hs .hd (by simpa using hnl) (by simp)) ?_
  rintro e w hs
  repeat with_reducible refine mv.mk ?_
  refine st_of (err_neqF hs .hd) ?_
  by_cases h1 : readyE z [name] = 0
  rotate_left
  · rw [decide_eq_false h1]
    refine br_t ?_
    refine st_build (cells := (fileC (.slice none 0 0) (.int .i64 0)).toArray) (by kernel_rfl) ?_
    repeat with_reducible refine mv.mk ?_
    refine sp_setr (ds := fileC (.slice none 0 0) (.int .i64 0)) hs (.tl (.tl (.tl .hd))) (by kernel_rfl) rfl (by simp [fileC, Value.oneCell']) fun w hs => mv.mk (sp_rc hs .hd (by kernel_rfl) rfl ?_)
    have e1 : findE z name = readyE z [name] := by rw [findE, if_pos h1]
    have e2 : findF z name = ([], 0) := by rw [findF, if_pos (by rw [e1]; exact h1)]
    rw [e1, e2]
    exact ⟨_, _, rfl, (zeroFileF hs).sbl (.cons (.tl (.tl .hd)) (.cons .hd (.drop (.cons .hd (.drop .all)))))⟩
  rw [decide_eq_true h1]
  refine br_f ?_
  repeat (first
   | (with_reducible refine fs.a0 ?_)
   | ((with_reducible apply fs.r0 hs); (· (with_reducible (repeat (first | exact .blk | exact .rng | apply Rng.tl)))))
   | (with_reducible (first | refine st_nels ?_ | refine mv.mk ?_ | refine nk_p ?_ | refine br_t ?_ | refine br_f ?_))
   | (with_reducible ((first | apply st_bin | apply st_ext | apply st_un); intro k' hk; simp [go_sem, thenR_ok, bin]; refine hk _ _ ?_; clear hk k'))
   | ((with_reducible apply sp_newr hs); (· kernel_rfl); intro g w hs))
  rcases map_look hs (.tl (.tl (.tl (.tl .hd)))) fileT strT (zeroFile w) name with ⟨q1, q2, q3⟩ | ⟨a, cs, q1, q2, q3, hs⟩
  · refine st_of q2 ?_
    repeat (first
     | (with_reducible (first | refine st_nels ?_ | refine mv.mk ?_ | refine nk_p ?_ | refine br_t ?_ | refine br_f ?_))
     | (with_reducible ((first | apply st_bin | apply st_ext | apply st_un); intro k' hk; simp [go_sem, thenR_ok, bin]; refine hk _ _ ?_; clear hk k'))
     | ((with_reducible apply sp_newr hs); (· kernel_rfl); intro g w hs))
    refine sp_setr (ds := fileC (.slice none 0 0) (.int .i64 0)) hs .hd (by kernel_rfl) rfl (by simp [fileC, Value.oneCell']) fun w hs => ?_
    repeat (first
     | (with_reducible (first | refine st_nels ?_ | refine mv.mk ?_ | refine nk_p ?_ | refine br_t ?_ | refine br_f ?_))
     | (with_reducible ((first | apply st_bin | apply st_ext | apply st_un); intro k' hk; simp [go_sem, thenR_ok, bin]; refine hk _ _ ?_; clear hk k'))
     | ((with_reducible apply sp_newr hs); (· kernel_rfl); intro g w hs))
    refine st_build (cells := (fileC (.slice none 0 0) (.int .i64 0)).toArray) (by kernel_rfl) ?_
    repeat with_reducible refine mv.mk ?_
    refine cl (faultS hnl (by decide) (by decide) (by decide) hs) ?_
    rintro r w hs
    refine sp_setr (ds := fileC (.slice none 0 0) (.int .i64 0)) hs (.tl (.tl (.tl (.tl (.tl .hd))))) (by kernel_rfl) rfl (by simp [fileC, Value.oneCell']) fun w hs => mv.mk (sp_rc hs .hd (by kernel_rfl) rfl ?_)
    have e1 : findE z name = 8 := by rw [findE, if_neg (by simpa using h1), if_pos (by simp [q1])]
    have e2 : findF z name = ([], 0) := by rw [findF, if_pos (by rw [e1]; decide)]
    rw [e1, e2]
    exact ⟨_, _, rfl, (zeroFileF hs).sbl (.cons (.tl (.tl .hd)) (.cons .hd (.drop (.drop (.drop (.cons .hd (.drop .all)))))))⟩
  · have hok := hs.ok fileF_ok (cs := cs) .hd
    refine st_of q2 ?_
    repeat (first
     | (with_reducible (first | refine st_nels ?_ | refine mv.mk ?_ | refine nk_p ?_ | refine br_t ?_ | refine br_f ?_))
     | (with_reducible ((first | apply st_bin | apply st_ext | apply st_un); intro k' hk; simp [go_sem, thenR_ok, bin]; refine hk _ _ ?_; clear hk k'))
     | ((with_reducible apply sp_newr hs); (· kernel_rfl); intro g w hs))
    refine sp_setr (ds := cs) hs .hd (by kernel_rfl) hok.1 hok.2 fun w hs => ?_
    repeat (first
     | (with_reducible (first | refine st_nels ?_ | refine mv.mk ?_ | refine nk_p ?_ | refine br_t ?_ | refine br_f ?_))
     | (with_reducible ((first | apply st_bin | apply st_ext | apply st_un); intro k' hk; simp [go_sem, thenR_ok, bin]; refine hk _ _ ?_; clear hk k'))
     | ((with_reducible apply sp_newr hs); (· kernel_rfl); intro g w hs))
    refine sp_loadall hs .hd (by kernel_rfl) hok.1 ?_
    refine sp_setr (ds := cs) hs (.tl (.tl (.tl (.tl (.tl .hd))))) (by kernel_rfl) hok.1 hok.2 fun w hs => mv.mk (sp_rc hs .hd (by kernel_rfl) hok.1 ?_)
    have e1 : findE z name = 0 := by rw [findE, if_neg (by simpa using h1), if_neg (by simp [q1])]
    have e2 : findF z name = a := by rw [findF, if_neg (by rw [e1]; simp), q1]; rfl
    rw [e1, e2]
    exact ⟨_, _, rfl, (errF_nil hs).sbl (.cons .hd (.cons (.tl (.tl .hd)) (.drop (.drop (.drop (.cons .hd (.drop .all)))))))⟩
end
end Go.Proofs.YtbbmgkbinnomgaaGreatDoor
