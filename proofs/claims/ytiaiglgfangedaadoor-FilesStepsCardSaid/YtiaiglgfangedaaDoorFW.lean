/- files: FilesSteps. -/
import Derived.Test.YtiaiglgfangedaaDoorFV
import Derived.Test.YtiaiglgfangedaaDoorKF
set_option linter.unusedVariables false
set_option linter.unusedSimpArgs false
set_option linter.unusedSectionVars false
namespace Go.Proofs.YtiaiglgfangedaaDoor
open Go Go.Isk Go.RowKit
set_option maxRecDepth 20000
/-! ### the plain law -/
def aN : Bytes := [97]
def mapA (b : Bytes) (i : Nat) : AMap FileD := if i = 0 then [] else [(aN, (rep i b, 0))]
def stepsZ (b : Bytes) (k i : Nat) : FsD := if i ≤ k then ⟨mapA b i, i, true, (k : Int) - i, false⟩ else ⟨mapA b (k + 1), k, true, 0, true⟩
theorem mapA_look (b : Bytes) (i : Nat) : (lookM aN (mapA b i)).getD ([], 0) = (rep i b, 0) := by
  unfold mapA
  split
  · rename_i h; subst h; rfl
  · rfl
theorem mapA_put (b : Bytes) (i : Nat) (x : FileD) : putM aN x (mapA b i) = [(aN, x)] := by
  unfold mapA
  split <;> rfl
theorem mapA_len (b : Bytes) (i : Nat) : (mapA b i).length ≤ 1 := by
  unfold mapA
  split
  · exact Nat.zero_le _
  · exact Nat.le_refl _
theorem wrapS (n : Int) (h1 : -1000 ≤ n) (h2 : n ≤ 1000) : IntKind.i64.wrap n = n := by
  simp [IntKind.wrap, IntKind.signed, IntKind.bits]; omega
theorem ready_a (m : AMap FileD) (s l : Int) (a d : Bool) : readyE ⟨m, s, a, l, d⟩ [aN] = if d = true then 13 else 0 := by
  unfold readyE
  rw [if_neg (by decide)]
theorem steps_append {b : Bytes} {k i : Nat} (hb : b.length ≤ 1000) (hk : k ≤ 11) (hi : i ≤ 15) : appendF (stepsZ b k i) aN b = (stepsZ b k (i + 1), if i < k then 0 else 13) := by
  by_cases h : i ≤ k
  · have e : stepsZ b k i = ⟨mapA b i, i, true, (k : Int) - i, false⟩ := by rw [stepsZ, if_pos h]
    rw [e]
    unfold appendF
    rw [ready_a, if_neg (by simp), if_neg (fun h2 => by
      have h3 := mapA_len b i
      have h4 : 64 ≤ (mapA b i).length := h2.2
      omega)]
    simp only [mapA_look]
    rw [if_neg (by rw [rep_len]; have := Nat.mul_le_mul (show i ≤ 11 by omega) hb; omega), mapA_put]
    rw [show rep i b ++ b = rep (i + 1) b from rfl, show [(aN, (rep (i + 1) b, (0 : Int)))] = mapA b (i + 1) from rfl]
    unfold stepF
    by_cases h2 : i = k
    · subst h2
      rw [if_pos ⟨rfl, by simp⟩, if_neg (by omega), stepsZ, if_neg (by omega)]
      simp
    · rw [if_neg (fun h3 => h2 (by have : (k : Int) - i = 0 := h3.2; omega)), if_pos (by omega), stepsZ, if_pos (by omega)]
      simp only [Prod.mk.injEq, and_true, FsD.mk.injEq, true_and]
      rw [wrapS _ (by omega) (by omega), wrapS _ (by omega) (by omega)]
      exact ⟨by omega, by omega⟩
  · have e : stepsZ b k i = ⟨mapA b (k + 1), k, true, 0, true⟩ := by rw [stepsZ, if_neg h]
    have e2 : stepsZ b k (i + 1) = ⟨mapA b (k + 1), k, true, 0, true⟩ := by rw [stepsZ, if_neg (by omega)]
    rw [e, e2, if_neg (by omega)]
    unfold appendF
    rw [ready_a, if_pos (by simp)]
    rfl
theorem steps_down (b : Bytes) (k i : Nat) : (stepsZ b k (i + 1)).down = decide (k ≤ i) := by
  unfold stepsZ
  split
  · rename_i h; simp; omega
  · rename_i h; simp; omega
theorem steps_steps (b : Bytes) (k i : Nat) : (stepsZ b k (i + 1)).steps = min ((i : Int) + 1) k := by
  unfold stepsZ
  split
  · rename_i h; simp; omega
  · rename_i h; simp; omega
theorem steps_arm (b : Bytes) (k : Nat) : armF newF k = (stepsZ b k 0, 0) := by
  unfold armF
  rw [if_neg (by omega), stepsZ, if_pos (Nat.zero_le _)]
  simp [newF, readyE, mapA]
theorem steps_last (b : Bytes) (k : Nat) (hk : k ≤ 11) : stepsZ b k 15 = ⟨[(aN, (rep (k + 1) b, 0))], k, true, 0, true⟩ := by
  rw [stepsZ, if_neg (by omega)]; rfl
def lastZ (b : Bytes) (k : Nat) : FsD := ⟨[(aN, (rep (k + 1) b, 0))], k, true, 0, true⟩
theorem last_find (b : Bytes) (k : Nat) : findE (lastZ b k) aN = 13 := rfl
theorem last_findF (b : Bytes) (k : Nat) : findF (lastZ b k) aN = ([], 0) := rfl
theorem last_sync (b : Bytes) (k : Nat) : syncF (lastZ b k) aN = (lastZ b k, 13) := rfl
theorem last_start {b : Bytes} {k : Nat} (hb : b.length ≤ 1000) (hk : k ≤ 11) : ∃ s : Int, startF (lastZ b k) [1099511627776] = ⟨[(aN, (rep (k + 1) b, s))], k, false, 0, false⟩ := by
  have hl : (rep (k + 1) b).length ≤ 12000 := by
    rw [rep_len]
    exact Nat.mul_le_mul (show k + 1 ≤ 12 by omega) hb
  simp only [startF, lastZ, sortM, List.map_cons, List.map_nil, List.mergeSort_singleton]
  have hlk : (lookM aN [(aN, (rep (k + 1) b, (0 : Int)))]).getD ([], 0) = (rep (k + 1) b, 0) := rfl
  unfold startL
  rw [hlk]
  split
  · exact ⟨0, rfl⟩
  · rename_i h
    simp only at h
    have e : (cutF (rep (k + 1) b, 0) [1099511627776]).1 = (rep (k + 1) b, ((rep (k + 1) b).length : Int)) := by
      simp only [cutF, Prod.mk.injEq]
      refine ⟨List.take_of_length_le ?_, ?_⟩ <;> omega
    refine ⟨((rep (k + 1) b).length : Int), ?_⟩
    rw [e]
    rfl
theorem start_find (t : Bytes) (k : Nat) (s : Int) : findE ⟨[(aN, (t, s))], k, false, 0, false⟩ aN = 0 ∧ findF ⟨[(aN, (t, s))], k, false, 0, false⟩ aN = (t, s) ∧ (syncF ⟨[(aN, (t, s))], k, false, 0, false⟩ aN).2 = 0 := ⟨rfl, rfl, rfl⟩
/-! ### the walk -/
section
variable {b : Base} {w : World} {L R : List It} {g gf gm : Nat} {v sv bv kv av e : Value} {s l name bts : Bytes} {cs : List Value} {z : FsD} {n : Int}
theorem isthmuslaw04_num (hs : Sep b w L) (hT : Ins L errT.it) (hv : Ins L (errF e n).it) : C Tryd.prog N.isthmuslaw04_num #[e] w fun r w' => r = .int .i64 n ∧ Sep b w' L :=
  C.isthmuslaw04_num (num_call (F := F.isthmuslaw04_num) hs hT hv (fun _ _ _ => rfl) fun w hs => ⟨rfl, hs⟩)
theorem files_Steps (hs : Sep b w (blkI gf T.files_FS (fsV gm z) :: L)) :
    C Tryd.prog N.files_FS_Steps #[.pointer (some ⟨gf, 0, none⟩)] w fun r w' => r = .int .i64 z.steps ∧ Sep b w' (blkI gf T.files_FS (fsV gm z) :: L) := by
  refine C.files_FS_Steps ?_
  unfold F.files_FS_Steps
  repeat (first
   | (with_reducible refine fs.a0 ?_)
   | ((with_reducible apply fs.r0 hs); (· (with_reducible (repeat (first | exact .blk | exact .rng | apply Rng.tl)))))
   | (with_reducible refine fs.c0 ?_)
   | ((with_reducible apply fs.e0); (· first | exact hS | exact hid); (· (with_reducible (repeat (first | exact .blk | exact .rng | apply Rng.tl)))))
   | (with_reducible refine fs.a1 ?_)
   | ((with_reducible apply fs.r1 hs); (· (with_reducible (repeat (first | exact .blk | exact .rng | apply Rng.tl)))))
   | (with_reducible refine fs.c1 ?_)
   | ((with_reducible apply fs.e1); (· first | exact hS | exact hid); (· (with_reducible (repeat (first | exact .blk | exact .rng | apply Rng.tl)))))
   | (with_reducible refine fs.a2 ?_)
   | ((with_reducible apply fs.r2 hs); (· (with_reducible (repeat (first | exact .blk | exact .rng | apply Rng.tl)))))
   | (with_reducible refine fs.c2 ?_)
   | ((with_reducible apply fs.e2); (· first | exact hS | exact hid); (· (with_reducible (repeat (first | exact .blk | exact .rng | apply Rng.tl)))))
   | (with_reducible refine fs.a3 ?_)
   | ((with_reducible apply fs.r3 hs); (· (with_reducible (repeat (first | exact .blk | exact .rng | apply Rng.tl)))))
   | (with_reducible refine fs.c3 ?_)
   | ((with_reducible apply fs.e3); (· first | exact hS | exact hid); (· (with_reducible (repeat (first | exact .blk | exact .rng | apply Rng.tl)))))
   | (with_reducible refine fs.a4 ?_)
   | ((with_reducible apply fs.r4 hs); (· (with_reducible (repeat (first | exact .blk | exact .rng | apply Rng.tl)))))
   | (with_reducible refine fs.c4 ?_)
   | ((with_reducible apply fs.e4); (· first | exact hS | exact hid); (· (with_reducible (repeat (first | exact .blk | exact .rng | apply Rng.tl)))))
   | (with_reducible (first | refine st_lens ?_ | refine st_eqls ?_ | refine st_nels ?_ | refine tk_eqls ?_ | refine tk_nels ?_ | refine mv.mk ?_ | refine nk_p ?_ | refine gdT_i ?_ | refine gdT_ft ?_ | refine gdT_tf ?_ | refine gdT_u ?_ | refine gd_u ?_ | refine gd_ft ?_ | refine gd_tf ?_ | refine gd_i ?_ | refine pk_t ?_ | refine pk_f ?_ | refine br_t ?_ | refine br_f ?_ | refine sp_boxa hs fun g w hs => ?_))
   | (with_reducible ((first | apply st_bin | apply st_ext | apply st_len | apply st_un | apply st_conv | apply st_mki | apply st_fld | apply st_cap | apply st_max | apply st_min | apply st_ixv | apply st_mkf); intro k' hk; simp [go_sem, thenR_ok, bin]; refine hk _ _ ?_; clear hk k'))
   | ((with_reducible (first | apply tk_bin | apply tk_ext | apply tk_len | apply tk_un)); (· intro w; simp [go_sem, bin]; rfl))
   | ((with_reducible apply sp_newr hs); (· kernel_rfl); intro g w hs))
  exact ⟨rfl, hs⟩
theorem steps_ok {k i : Nat} (hb : bts.length ≤ 1000) (hk : k ≤ 11) (hi : i ≤ 15) : OkS (stepsZ bts k i) := by
  induction i with
  | zero =>
    have := armF_ok okS_new (k : Int)
    rwa [steps_arm bts] at this
  | succ i ih =>
    have := appendF_ok (ih (by omega)) aN bts
    rwa [steps_append hb hk (by omega)] at this
theorem isthmuslaw04_FilesSteps (hs : Sep b w L) (hT : Ins L errT.it) (hb : Ins L (byF bv bts).it) :
    C Tryd.prog N.isthmuslaw04_FilesSteps #[.int .i64 n, bv] w fun r w' => r = .bool true ∧ Sep b w' L := by
  obtain ⟨A2, c2, rfl⟩ := by_slice hs hb
  refine C.isthmuslaw04_FilesSteps ?_
  unfold F.isthmuslaw04_FilesSteps
  repeat with_reducible refine mv.mk ?_
  refine cl (files_New hs) ?_
  rintro _ w ⟨gf, gm, rfl, hs⟩
  repeat (first
   | (with_reducible (first | refine st_lens ?_ | refine st_eqls ?_ | refine st_nels ?_ | refine tk_eqls ?_ | refine tk_nels ?_ | refine mv.mk ?_ | refine nk_p ?_ | refine gdT_i ?_ | refine gdT_ft ?_ | refine gdT_tf ?_ | refine gdT_u ?_ | refine gd_u ?_ | refine gd_ft ?_ | refine gd_tf ?_ | refine gd_i ?_ | refine pk_t ?_ | refine pk_f ?_ | refine br_t ?_ | refine br_f ?_ | refine sp_boxa hs fun g w hs => ?_))
   | (with_reducible ((first | apply st_bin | apply st_ext | apply st_len | apply st_un | apply st_conv | apply st_mki | apply st_fld | apply st_cap | apply st_max | apply st_min | apply st_ixv | apply st_mkf); intro k' hk; simp [go_sem, thenR_ok, bin]; refine hk _ _ ?_; clear hk k'))
   | ((with_reducible (first | apply tk_bin | apply tk_ext | apply tk_len | apply tk_un)); (· intro w; simp [go_sem, bin]; rfl))
   | ((with_reducible apply sp_newr hs); (· kernel_rfl); intro g w hs))
  obtain ⟨hk0, hk1, _⟩ := mod_pos n 12 (by decide) (by decide)
  rw [show ((12 : Nat) : Int) = 12 from rfl] at hk0 hk1
  generalize IntKind.i64.wrap ((IntKind.u64.wrap n).tmod 12) = k0 at *
  obtain ⟨k, rfl⟩ : ∃ k : Nat, k0 = k := ⟨k0.toNat, by omega⟩
  have hk : k ≤ 11 := by omega
  refine cl (files_Arm (n := k) hs) ?_
  rintro r w hs
  rw [steps_arm bts k] at hs
  obtain rfl := errF_zero hs .hd
  replace hs := hs.drop .hd
  have hs0 : Sep b w (blkI gf T.files_FS (fsV gm (stepsZ bts k 0)) :: mapI fileF gm (stepsZ bts k 0).m :: L) := by
    have e : (stepsZ bts k 0).m = newF.m := by rw [stepsZ, if_pos (Nat.zero_le _)]; rfl
    rw [e]
    exact hs
  clear hs
  repeat (first
   | (with_reducible (first | refine st_lens ?_ | refine st_eqls ?_ | refine st_nels ?_ | refine tk_eqls ?_ | refine tk_nels ?_ | refine mv.mk ?_ | refine nk_p ?_ | refine gdT_i ?_ | refine gdT_ft ?_ | refine gdT_tf ?_ | refine gdT_u ?_ | refine gd_u ?_ | refine gd_ft ?_ | refine gd_tf ?_ | refine gd_i ?_ | refine pk_t ?_ | refine pk_f ?_ | refine br_t ?_ | refine br_f ?_ | refine sp_boxa hs fun g w hs => ?_))
   | (with_reducible ((first | apply st_bin | apply st_ext | apply st_len | apply st_un | apply st_conv | apply st_mki | apply st_fld | apply st_cap | apply st_max | apply st_min | apply st_ixv | apply st_mkf); intro k' hk; simp [go_sem, thenR_ok, bin]; refine hk _ _ ?_; clear hk k'))
   | ((with_reducible (first | apply tk_bin | apply tk_ext | apply tk_len | apply tk_un)); (· intro w; simp [go_sem, bin]; rfl))
   | ((with_reducible apply sp_newr hs); (· kernel_rfl); intro g w hs))
  by_cases h1 : 1000 < (bts.length : Int)
  · rw [decide_eq_true h1]
    repeat (first
     | (with_reducible (first | refine st_lens ?_ | refine st_eqls ?_ | refine st_nels ?_ | refine tk_eqls ?_ | refine tk_nels ?_ | refine mv.mk ?_ | refine nk_p ?_ | refine gdT_i ?_ | refine gdT_ft ?_ | refine gdT_tf ?_ | refine gdT_u ?_ | refine gd_u ?_ | refine gd_ft ?_ | refine gd_tf ?_ | refine gd_i ?_ | refine pk_t ?_ | refine pk_f ?_ | refine br_t ?_ | refine br_f ?_ | refine sp_boxa hs fun g w hs => ?_))
     | (with_reducible ((first | apply st_bin | apply st_ext | apply st_len | apply st_un | apply st_conv | apply st_mki | apply st_fld | apply st_cap | apply st_max | apply st_min | apply st_ixv | apply st_mkf); intro k' hk; simp [go_sem, thenR_ok, bin]; refine hk _ _ ?_; clear hk k'))
     | ((with_reducible (first | apply tk_bin | apply tk_ext | apply tk_len | apply tk_un)); (· intro w; simp [go_sem, bin]; rfl))
     | ((with_reducible apply sp_newr hs); (· kernel_rfl); intro g w hs))
    refine cl (isthmuslaw04_sure hs0) ?_
    rintro _ w ⟨rfl, hs⟩
    repeat (first
     | (with_reducible (first | refine st_lens ?_ | refine st_eqls ?_ | refine st_nels ?_ | refine tk_eqls ?_ | refine tk_nels ?_ | refine mv.mk ?_ | refine nk_p ?_ | refine gdT_i ?_ | refine gdT_ft ?_ | refine gdT_tf ?_ | refine gdT_u ?_ | refine gd_u ?_ | refine gd_ft ?_ | refine gd_tf ?_ | refine gd_i ?_ | refine pk_t ?_ | refine pk_f ?_ | refine br_t ?_ | refine br_f ?_ | refine sp_boxa hs fun g w hs => ?_))
     | (with_reducible ((first | apply st_bin | apply st_ext | apply st_len | apply st_un | apply st_conv | apply st_mki | apply st_fld | apply st_cap | apply st_max | apply st_min | apply st_ixv | apply st_mkf); intro k' hk; simp [go_sem, thenR_ok, bin]; refine hk _ _ ?_; clear hk k'))
     | ((with_reducible (first | apply tk_bin | apply tk_ext | apply tk_len | apply tk_un)); (· intro w; simp [go_sem, bin]; rfl))
     | ((with_reducible apply sp_newr hs); (· kernel_rfl); intro g w hs))
    exact ⟨rfl, hs.sbl (.drop (.drop .all))⟩
  rw [decide_eq_false h1]
  have hbl : bts.length ≤ 1000 := by omega
  repeat (first
   | (with_reducible (first | refine st_lens ?_ | refine st_eqls ?_ | refine st_nels ?_ | refine tk_eqls ?_ | refine tk_nels ?_ | refine mv.mk ?_ | refine nk_p ?_ | refine gdT_i ?_ | refine gdT_ft ?_ | refine gdT_tf ?_ | refine gdT_u ?_ | refine gd_u ?_ | refine gd_ft ?_ | refine gd_tf ?_ | refine gd_i ?_ | refine pk_t ?_ | refine pk_f ?_ | refine br_t ?_ | refine br_f ?_ | refine sp_boxa hs fun g w hs => ?_))
   | (with_reducible ((first | apply st_bin | apply st_ext | apply st_len | apply st_un | apply st_conv | apply st_mki | apply st_fld | apply st_cap | apply st_max | apply st_min | apply st_ixv | apply st_mkf); intro k' hk; simp [go_sem, thenR_ok, bin]; refine hk _ _ ?_; clear hk k'))
   | ((with_reducible (first | apply tk_bin | apply tk_ext | apply tk_len | apply tk_un)); (· intro w; simp [go_sem, bin]; rfl))
   | ((with_reducible apply sp_newr hs); (· kernel_rfl); intro g w hs))
  refine lp_by (fun us w' => ∃ (i : Nat) (y : Value), us = [.bool false, .int .i64 (i : Int), y] ∧ i ≤ 15 ∧ Sep b w' (blkI gf T.files_FS (fsV gm (stepsZ bts k i)) :: mapI fileF gm (stepsZ bts k i).m :: L)) (fun us _ => match us with | [_, .int _ m, _] => 15 - m.toNat | _ => 0) ⟨0, _, rfl, by omega, hs0⟩ ?_
  clear hs0
  rintro x1 w ⟨i, y, hx1, hi, hs⟩
  simp only [List.cons.injEq, and_true] at hx1
  simp only [hx1.1, hx1.2.1, hx1.2.2]
  repeat (first
   | (with_reducible (first | refine st_lens ?_ | refine st_eqls ?_ | refine st_nels ?_ | refine tk_eqls ?_ | refine tk_nels ?_ | refine mv.mk ?_ | refine nk_p ?_ | refine gdT_i ?_ | refine gdT_ft ?_ | refine gdT_tf ?_ | refine gdT_u ?_ | refine gd_u ?_ | refine gd_ft ?_ | refine gd_tf ?_ | refine gd_i ?_ | refine pk_t ?_ | refine pk_f ?_ | refine br_t ?_ | refine br_f ?_ | refine sp_boxa hs fun g w hs => ?_))
   | (with_reducible ((first | apply st_bin | apply st_ext | apply st_len | apply st_un | apply st_conv | apply st_mki | apply st_fld | apply st_cap | apply st_max | apply st_min | apply st_ixv | apply st_mkf); intro k' hk; simp [go_sem, thenR_ok, bin]; refine hk _ _ ?_; clear hk k'))
   | ((with_reducible (first | apply tk_bin | apply tk_ext | apply tk_len | apply tk_un)); (· intro w; simp [go_sem, bin]; rfl))
   | ((with_reducible apply sp_newr hs); (· kernel_rfl); intro g w hs))
  refine br_split (fun hq => ?_) (fun hq => ?_)
  · have hi' : i < 15 := by have := of_decide_eq_true hq; omega
    repeat (first
     | (with_reducible (first | refine st_lens ?_ | refine st_eqls ?_ | refine st_nels ?_ | refine tk_eqls ?_ | refine tk_nels ?_ | refine mv.mk ?_ | refine nk_p ?_ | refine gdT_i ?_ | refine gdT_ft ?_ | refine gdT_tf ?_ | refine gdT_u ?_ | refine gd_u ?_ | refine gd_ft ?_ | refine gd_tf ?_ | refine gd_i ?_ | refine pk_t ?_ | refine pk_f ?_ | refine br_t ?_ | refine br_f ?_ | refine sp_boxa hs fun g w hs => ?_))
     | (with_reducible ((first | apply st_bin | apply st_ext | apply st_len | apply st_un | apply st_conv | apply st_mki | apply st_fld | apply st_cap | apply st_max | apply st_min | apply st_ixv | apply st_mkf); intro k' hk; simp [go_sem, thenR_ok, bin]; refine hk _ _ ?_; clear hk k'))
     | ((with_reducible (first | apply tk_bin | apply tk_ext | apply tk_len | apply tk_un)); (· intro w; simp [go_sem, bin]; rfl))
     | ((with_reducible apply sp_newr hs); (· kernel_rfl); intro g w hs))
    refine cl (files_AppendS (name := aN) (steps_ok hbl hk hi) hs (by decide) hb (by omega)) ?_
    rintro e w hs
    rw [steps_append hbl hk hi] at hs
    replace hs : Sep b w ((errF e (if i < k then 0 else 13)).it :: blkI gf T.files_FS (fsV gm (stepsZ bts k (i + 1))) :: mapI fileF gm (stepsZ bts k (i + 1)).m :: L) := hs
    repeat with_reducible refine mv.mk ?_
    refine st_of (err_eqlF hs .hd) ?_
    have hD : ∀ w, Sep b w (blkI gf T.files_FS (fsV gm (stepsZ bts k (i + 1))) :: mapI fileF gm (stepsZ bts k (i + 1)).m :: (errF e (if i < k then 0 else 13)).it :: L) → C Tryd.prog N.files_FS_Down #[.pointer (some ⟨gf, 0, none⟩)] w fun r w => r = .bool (decide (k ≤ i)) ∧ Sep b w (blkI gf T.files_FS (fsV gm (stepsZ bts k (i + 1))) :: mapI fileF gm (stepsZ bts k (i + 1)).m :: (errF e (if i < k then 0 else 13)).it :: L) := fun w hs => by
      rw [← steps_down bts k i]
      exact files_Down hs
    have hSt : ∀ w, Sep b w (blkI gf T.files_FS (fsV gm (stepsZ bts k (i + 1))) :: mapI fileF gm (stepsZ bts k (i + 1)).m :: (errF e (if i < k then 0 else 13)).it :: L) → C Tryd.prog N.files_FS_Steps #[.pointer (some ⟨gf, 0, none⟩)] w fun r w => r = .int .i64 (min ((i : Int) + 1) k) ∧ Sep b w (blkI gf T.files_FS (fsV gm (stepsZ bts k (i + 1))) :: mapI fileF gm (stepsZ bts k (i + 1)).m :: (errF e (if i < k then 0 else 13)).it :: L) := fun w hs => by
      rw [← steps_steps bts k i]
      exact files_Steps hs
    replace hs := hs.sbl (.cons (.tl .hd) (.cons (.tl .hd) .all))
    have hw2 : IntKind.i64.wrap ((i : Int) + 1) = ((i + 1 : Nat) : Int) := i64_succ (by omega)
    have hw1 : IntKind.i64.wrap ((i : Int) + 1) = (i : Int) + 1 := hw2
    by_cases c : i < k
    · rw [if_pos c] at hs hD hSt ⊢
      obtain rfl := errF_zero hs (.tl (.tl .hd))
      rw [decide_eq_false (show ¬ k ≤ i by omega)] at hD
      repeat (first
       | (with_reducible (first | refine st_lens ?_ | refine st_eqls ?_ | refine st_nels ?_ | refine tk_eqls ?_ | refine tk_nels ?_ | refine mv.mk ?_ | refine nk_p ?_ | refine gdT_i ?_ | refine gdT_ft ?_ | refine gdT_tf ?_ | refine gdT_u ?_ | refine gd_u ?_ | refine gd_ft ?_ | refine gd_tf ?_ | refine gd_i ?_ | refine pk_t ?_ | refine pk_f ?_ | refine br_t ?_ | refine br_f ?_ | refine sp_boxa hs fun g w hs => ?_))
       | (with_reducible ((first | apply st_bin | apply st_ext | apply st_len | apply st_un | apply st_conv | apply st_mki | apply st_fld | apply st_cap | apply st_max | apply st_min | apply st_ixv | apply st_mkf); intro k' hk; simp [go_sem, thenR_ok, bin]; refine hk _ _ ?_; clear hk k'))
       | ((with_reducible (first | apply tk_bin | apply tk_ext | apply tk_len | apply tk_un)); (· intro w; simp [go_sem, bin]; rfl))
       | ((with_reducible apply sp_newr hs); (· kernel_rfl); intro g w hs))
      rw [show decide (i < k) = true from decide_eq_true c]
      repeat (first
       | (with_reducible (first | refine st_lens ?_ | refine st_eqls ?_ | refine st_nels ?_ | refine tk_eqls ?_ | refine tk_nels ?_ | refine mv.mk ?_ | refine nk_p ?_ | refine gdT_i ?_ | refine gdT_ft ?_ | refine gdT_tf ?_ | refine gdT_u ?_ | refine gd_u ?_ | refine gd_ft ?_ | refine gd_tf ?_ | refine gd_i ?_ | refine pk_t ?_ | refine pk_f ?_ | refine br_t ?_ | refine br_f ?_ | refine sp_boxa hs fun g w hs => ?_))
       | (with_reducible ((first | apply st_bin | apply st_ext | apply st_len | apply st_un | apply st_conv | apply st_mki | apply st_fld | apply st_cap | apply st_max | apply st_min | apply st_ixv | apply st_mkf); intro k' hk; simp [go_sem, thenR_ok, bin]; refine hk _ _ ?_; clear hk k'))
       | ((with_reducible (first | apply tk_bin | apply tk_ext | apply tk_len | apply tk_un)); (· intro w; simp [go_sem, bin]; rfl))
       | ((with_reducible apply sp_newr hs); (· kernel_rfl); intro g w hs))
      rw [Bool.not_true]
      repeat (first
       | (with_reducible (first | refine st_lens ?_ | refine st_eqls ?_ | refine st_nels ?_ | refine tk_eqls ?_ | refine tk_nels ?_ | refine mv.mk ?_ | refine nk_p ?_ | refine gdT_i ?_ | refine gdT_ft ?_ | refine gdT_tf ?_ | refine gdT_u ?_ | refine gd_u ?_ | refine gd_ft ?_ | refine gd_tf ?_ | refine gd_i ?_ | refine pk_t ?_ | refine pk_f ?_ | refine br_t ?_ | refine br_f ?_ | refine sp_boxa hs fun g w hs => ?_))
       | (with_reducible ((first | apply st_bin | apply st_ext | apply st_len | apply st_un | apply st_conv | apply st_mki | apply st_fld | apply st_cap | apply st_max | apply st_min | apply st_ixv | apply st_mkf); intro k' hk; simp [go_sem, thenR_ok, bin]; refine hk _ _ ?_; clear hk k'))
       | ((with_reducible (first | apply tk_bin | apply tk_ext | apply tk_len | apply tk_un)); (· intro w; simp [go_sem, bin]; rfl))
       | ((with_reducible apply sp_newr hs); (· kernel_rfl); intro g w hs))
      refine cl (hD w hs) ?_
      rintro _ w ⟨rfl, hs⟩
      repeat (first
       | (with_reducible (first | refine st_lens ?_ | refine st_eqls ?_ | refine st_nels ?_ | refine tk_eqls ?_ | refine tk_nels ?_ | refine mv.mk ?_ | refine nk_p ?_ | refine gdT_i ?_ | refine gdT_ft ?_ | refine gdT_tf ?_ | refine gdT_u ?_ | refine gd_u ?_ | refine gd_ft ?_ | refine gd_tf ?_ | refine gd_i ?_ | refine pk_t ?_ | refine pk_f ?_ | refine br_t ?_ | refine br_f ?_ | refine sp_boxa hs fun g w hs => ?_))
       | (with_reducible ((first | apply st_bin | apply st_ext | apply st_len | apply st_un | apply st_conv | apply st_mki | apply st_fld | apply st_cap | apply st_max | apply st_min | apply st_ixv | apply st_mkf); intro k' hk; simp [go_sem, thenR_ok, bin]; refine hk _ _ ?_; clear hk k'))
       | ((with_reducible (first | apply tk_bin | apply tk_ext | apply tk_len | apply tk_un)); (· intro w; simp [go_sem, bin]; rfl))
       | ((with_reducible apply sp_newr hs); (· kernel_rfl); intro g w hs))
      rw [show decide (k ≤ i) = false from decide_eq_false (by omega)]
      repeat (first
       | (with_reducible (first | refine st_lens ?_ | refine st_eqls ?_ | refine st_nels ?_ | refine tk_eqls ?_ | refine tk_nels ?_ | refine mv.mk ?_ | refine nk_p ?_ | refine gdT_i ?_ | refine gdT_ft ?_ | refine gdT_tf ?_ | refine gdT_u ?_ | refine gd_u ?_ | refine gd_ft ?_ | refine gd_tf ?_ | refine gd_i ?_ | refine pk_t ?_ | refine pk_f ?_ | refine br_t ?_ | refine br_f ?_ | refine sp_boxa hs fun g w hs => ?_))
       | (with_reducible ((first | apply st_bin | apply st_ext | apply st_len | apply st_un | apply st_conv | apply st_mki | apply st_fld | apply st_cap | apply st_max | apply st_min | apply st_ixv | apply st_mkf); intro k' hk; simp [go_sem, thenR_ok, bin]; refine hk _ _ ?_; clear hk k'))
       | ((with_reducible (first | apply tk_bin | apply tk_ext | apply tk_len | apply tk_un)); (· intro w; simp [go_sem, bin]; rfl))
       | ((with_reducible apply sp_newr hs); (· kernel_rfl); intro g w hs))
      refine cl (hSt w hs) ?_
      rintro _ w ⟨rfl, hs⟩
      repeat (first
       | (with_reducible (first | refine st_lens ?_ | refine st_eqls ?_ | refine st_nels ?_ | refine tk_eqls ?_ | refine tk_nels ?_ | refine mv.mk ?_ | refine nk_p ?_ | refine gdT_i ?_ | refine gdT_ft ?_ | refine gdT_tf ?_ | refine gdT_u ?_ | refine gd_u ?_ | refine gd_ft ?_ | refine gd_tf ?_ | refine gd_i ?_ | refine pk_t ?_ | refine pk_f ?_ | refine br_t ?_ | refine br_f ?_ | refine sp_boxa hs fun g w hs => ?_))
       | (with_reducible ((first | apply st_bin | apply st_ext | apply st_len | apply st_un | apply st_conv | apply st_mki | apply st_fld | apply st_cap | apply st_max | apply st_min | apply st_ixv | apply st_mkf); intro k' hk; simp [go_sem, thenR_ok, bin]; refine hk _ _ ?_; clear hk k'))
       | ((with_reducible (first | apply tk_bin | apply tk_ext | apply tk_len | apply tk_un)); (· intro w; simp [go_sem, bin]; rfl))
       | ((with_reducible apply sp_newr hs); (· kernel_rfl); intro g w hs))
      rw [hw1, bne_self_eq_false]
      repeat (first
       | (with_reducible (first | refine st_lens ?_ | refine st_eqls ?_ | refine st_nels ?_ | refine tk_eqls ?_ | refine tk_nels ?_ | refine mv.mk ?_ | refine nk_p ?_ | refine gdT_i ?_ | refine gdT_ft ?_ | refine gdT_tf ?_ | refine gdT_u ?_ | refine gd_u ?_ | refine gd_ft ?_ | refine gd_tf ?_ | refine gd_i ?_ | refine pk_t ?_ | refine pk_f ?_ | refine br_t ?_ | refine br_f ?_ | refine sp_boxa hs fun g w hs => ?_))
       | (with_reducible ((first | apply st_bin | apply st_ext | apply st_len | apply st_un | apply st_conv | apply st_mki | apply st_fld | apply st_cap | apply st_max | apply st_min | apply st_ixv | apply st_mkf); intro k' hk; simp [go_sem, thenR_ok, bin]; refine hk _ _ ?_; clear hk k'))
       | ((with_reducible (first | apply tk_bin | apply tk_ext | apply tk_len | apply tk_un)); (· intro w; simp [go_sem, bin]; rfl))
       | ((with_reducible apply sp_newr hs); (· kernel_rfl); intro g w hs))
      exact ⟨⟨i + 1, _, by rw [hw2], hi', hs.sbl (.cons .hd (.cons .hd (.drop .all)))⟩, by simp; omega⟩
    · rw [if_neg c] at hs hD hSt ⊢
      rw [decide_eq_true (show k ≤ i by omega)] at hD
      repeat (first
       | (with_reducible (first | refine st_lens ?_ | refine st_eqls ?_ | refine st_nels ?_ | refine tk_eqls ?_ | refine tk_nels ?_ | refine mv.mk ?_ | refine nk_p ?_ | refine gdT_i ?_ | refine gdT_ft ?_ | refine gdT_tf ?_ | refine gdT_u ?_ | refine gd_u ?_ | refine gd_ft ?_ | refine gd_tf ?_ | refine gd_i ?_ | refine pk_t ?_ | refine pk_f ?_ | refine br_t ?_ | refine br_f ?_ | refine sp_boxa hs fun g w hs => ?_))
       | (with_reducible ((first | apply st_bin | apply st_ext | apply st_len | apply st_un | apply st_conv | apply st_mki | apply st_fld | apply st_cap | apply st_max | apply st_min | apply st_ixv | apply st_mkf); intro k' hk; simp [go_sem, thenR_ok, bin]; refine hk _ _ ?_; clear hk k'))
       | ((with_reducible (first | apply tk_bin | apply tk_ext | apply tk_len | apply tk_un)); (· intro w; simp [go_sem, bin]; rfl))
       | ((with_reducible apply sp_newr hs); (· kernel_rfl); intro g w hs))
      rw [show decide (i < k) = false from decide_eq_false c]
      repeat (first
       | (with_reducible (first | refine st_lens ?_ | refine st_eqls ?_ | refine st_nels ?_ | refine tk_eqls ?_ | refine tk_nels ?_ | refine mv.mk ?_ | refine nk_p ?_ | refine gdT_i ?_ | refine gdT_ft ?_ | refine gdT_tf ?_ | refine gdT_u ?_ | refine gd_u ?_ | refine gd_ft ?_ | refine gd_tf ?_ | refine gd_i ?_ | refine pk_t ?_ | refine pk_f ?_ | refine br_t ?_ | refine br_f ?_ | refine sp_boxa hs fun g w hs => ?_))
       | (with_reducible ((first | apply st_bin | apply st_ext | apply st_len | apply st_un | apply st_conv | apply st_mki | apply st_fld | apply st_cap | apply st_max | apply st_min | apply st_ixv | apply st_mkf); intro k' hk; simp [go_sem, thenR_ok, bin]; refine hk _ _ ?_; clear hk k'))
       | ((with_reducible (first | apply tk_bin | apply tk_ext | apply tk_len | apply tk_un)); (· intro w; simp [go_sem, bin]; rfl))
       | ((with_reducible apply sp_newr hs); (· kernel_rfl); intro g w hs))
      refine cl (hD w hs) ?_
      rintro _ w ⟨rfl, hs⟩
      repeat (first
       | (with_reducible (first | refine st_lens ?_ | refine st_eqls ?_ | refine st_nels ?_ | refine tk_eqls ?_ | refine tk_nels ?_ | refine mv.mk ?_ | refine nk_p ?_ | refine gdT_i ?_ | refine gdT_ft ?_ | refine gdT_tf ?_ | refine gdT_u ?_ | refine gd_u ?_ | refine gd_ft ?_ | refine gd_tf ?_ | refine gd_i ?_ | refine pk_t ?_ | refine pk_f ?_ | refine br_t ?_ | refine br_f ?_ | refine sp_boxa hs fun g w hs => ?_))
       | (with_reducible ((first | apply st_bin | apply st_ext | apply st_len | apply st_un | apply st_conv | apply st_mki | apply st_fld | apply st_cap | apply st_max | apply st_min | apply st_ixv | apply st_mkf); intro k' hk; simp [go_sem, thenR_ok, bin]; refine hk _ _ ?_; clear hk k'))
       | ((with_reducible (first | apply tk_bin | apply tk_ext | apply tk_len | apply tk_un)); (· intro w; simp [go_sem, bin]; rfl))
       | ((with_reducible apply sp_newr hs); (· kernel_rfl); intro g w hs))
      rw [show decide (k ≤ i) = true from decide_eq_true (by omega)]
      repeat (first
       | (with_reducible (first | refine st_lens ?_ | refine st_eqls ?_ | refine st_nels ?_ | refine tk_eqls ?_ | refine tk_nels ?_ | refine mv.mk ?_ | refine nk_p ?_ | refine gdT_i ?_ | refine gdT_ft ?_ | refine gdT_tf ?_ | refine gdT_u ?_ | refine gd_u ?_ | refine gd_ft ?_ | refine gd_tf ?_ | refine gd_i ?_ | refine pk_t ?_ | refine pk_f ?_ | refine br_t ?_ | refine br_f ?_ | refine sp_boxa hs fun g w hs => ?_))
       | (with_reducible ((first | apply st_bin | apply st_ext | apply st_len | apply st_un | apply st_conv | apply st_mki | apply st_fld | apply st_cap | apply st_max | apply st_min | apply st_ixv | apply st_mkf); intro k' hk; simp [go_sem, thenR_ok, bin]; refine hk _ _ ?_; clear hk k'))
       | ((with_reducible (first | apply tk_bin | apply tk_ext | apply tk_len | apply tk_un)); (· intro w; simp [go_sem, bin]; rfl))
       | ((with_reducible apply sp_newr hs); (· kernel_rfl); intro g w hs))
      rw [Bool.not_true]
      repeat (first
       | (with_reducible (first | refine st_lens ?_ | refine st_eqls ?_ | refine st_nels ?_ | refine tk_eqls ?_ | refine tk_nels ?_ | refine mv.mk ?_ | refine nk_p ?_ | refine gdT_i ?_ | refine gdT_ft ?_ | refine gdT_tf ?_ | refine gdT_u ?_ | refine gd_u ?_ | refine gd_ft ?_ | refine gd_tf ?_ | refine gd_i ?_ | refine pk_t ?_ | refine pk_f ?_ | refine br_t ?_ | refine br_f ?_ | refine sp_boxa hs fun g w hs => ?_))
       | (with_reducible ((first | apply st_bin | apply st_ext | apply st_len | apply st_un | apply st_conv | apply st_mki | apply st_fld | apply st_cap | apply st_max | apply st_min | apply st_ixv | apply st_mkf); intro k' hk; simp [go_sem, thenR_ok, bin]; refine hk _ _ ?_; clear hk k'))
       | ((with_reducible (first | apply tk_bin | apply tk_ext | apply tk_len | apply tk_un)); (· intro w; simp [go_sem, bin]; rfl))
       | ((with_reducible apply sp_newr hs); (· kernel_rfl); intro g w hs))
      refine cl (hSt w hs) ?_
      rintro _ w ⟨rfl, hs⟩
      repeat (first
       | (with_reducible (first | refine st_lens ?_ | refine st_eqls ?_ | refine st_nels ?_ | refine tk_eqls ?_ | refine tk_nels ?_ | refine mv.mk ?_ | refine nk_p ?_ | refine gdT_i ?_ | refine gdT_ft ?_ | refine gdT_tf ?_ | refine gdT_u ?_ | refine gd_u ?_ | refine gd_ft ?_ | refine gd_tf ?_ | refine gd_i ?_ | refine pk_t ?_ | refine pk_f ?_ | refine br_t ?_ | refine br_f ?_ | refine sp_boxa hs fun g w hs => ?_))
       | (with_reducible ((first | apply st_bin | apply st_ext | apply st_len | apply st_un | apply st_conv | apply st_mki | apply st_fld | apply st_cap | apply st_max | apply st_min | apply st_ixv | apply st_mkf); intro k' hk; simp [go_sem, thenR_ok, bin]; refine hk _ _ ?_; clear hk k'))
       | ((with_reducible (first | apply tk_bin | apply tk_ext | apply tk_len | apply tk_un)); (· intro w; simp [go_sem, bin]; rfl))
       | ((with_reducible apply sp_newr hs); (· kernel_rfl); intro g w hs))
      rw [hw1, bne_self_eq_false]
      repeat (first
       | (with_reducible (first | refine st_lens ?_ | refine st_eqls ?_ | refine st_nels ?_ | refine tk_eqls ?_ | refine tk_nels ?_ | refine mv.mk ?_ | refine nk_p ?_ | refine gdT_i ?_ | refine gdT_ft ?_ | refine gdT_tf ?_ | refine gdT_u ?_ | refine gd_u ?_ | refine gd_ft ?_ | refine gd_tf ?_ | refine gd_i ?_ | refine pk_t ?_ | refine pk_f ?_ | refine br_t ?_ | refine br_f ?_ | refine sp_boxa hs fun g w hs => ?_))
       | (with_reducible ((first | apply st_bin | apply st_ext | apply st_len | apply st_un | apply st_conv | apply st_mki | apply st_fld | apply st_cap | apply st_max | apply st_min | apply st_ixv | apply st_mkf); intro k' hk; simp [go_sem, thenR_ok, bin]; refine hk _ _ ?_; clear hk k'))
       | ((with_reducible (first | apply tk_bin | apply tk_ext | apply tk_len | apply tk_un)); (· intro w; simp [go_sem, bin]; rfl))
       | ((with_reducible apply sp_newr hs); (· kernel_rfl); intro g w hs))
      refine st_of (err_neqF hs (.tl (.tl .hd))) ?_
      rw [show (!decide ((13 : Int) = 0)) = true from rfl]
      repeat (first
       | (with_reducible (first | refine st_lens ?_ | refine st_eqls ?_ | refine st_nels ?_ | refine tk_eqls ?_ | refine tk_nels ?_ | refine mv.mk ?_ | refine nk_p ?_ | refine gdT_i ?_ | refine gdT_ft ?_ | refine gdT_tf ?_ | refine gdT_u ?_ | refine gd_u ?_ | refine gd_ft ?_ | refine gd_tf ?_ | refine gd_i ?_ | refine pk_t ?_ | refine pk_f ?_ | refine br_t ?_ | refine br_f ?_ | refine sp_boxa hs fun g w hs => ?_))
       | (with_reducible ((first | apply st_bin | apply st_ext | apply st_len | apply st_un | apply st_conv | apply st_mki | apply st_fld | apply st_cap | apply st_max | apply st_min | apply st_ixv | apply st_mkf); intro k' hk; simp [go_sem, thenR_ok, bin]; refine hk _ _ ?_; clear hk k'))
       | ((with_reducible (first | apply tk_bin | apply tk_ext | apply tk_len | apply tk_un)); (· intro w; simp [go_sem, bin]; rfl))
       | ((with_reducible apply sp_newr hs); (· kernel_rfl); intro g w hs))
      refine cl (isthmuslaw04_num hs (.tl (.tl (.tl hT))) (.tl (.tl .hd))) ?_
      rintro _ w ⟨rfl, hs⟩
      repeat (first
       | (with_reducible (first | refine st_lens ?_ | refine st_eqls ?_ | refine st_nels ?_ | refine tk_eqls ?_ | refine tk_nels ?_ | refine mv.mk ?_ | refine nk_p ?_ | refine gdT_i ?_ | refine gdT_ft ?_ | refine gdT_tf ?_ | refine gdT_u ?_ | refine gd_u ?_ | refine gd_ft ?_ | refine gd_tf ?_ | refine gd_i ?_ | refine pk_t ?_ | refine pk_f ?_ | refine br_t ?_ | refine br_f ?_ | refine sp_boxa hs fun g w hs => ?_))
       | (with_reducible ((first | apply st_bin | apply st_ext | apply st_len | apply st_un | apply st_conv | apply st_mki | apply st_fld | apply st_cap | apply st_max | apply st_min | apply st_ixv | apply st_mkf); intro k' hk; simp [go_sem, thenR_ok, bin]; refine hk _ _ ?_; clear hk k'))
       | ((with_reducible (first | apply tk_bin | apply tk_ext | apply tk_len | apply tk_un)); (· intro w; simp [go_sem, bin]; rfl))
       | ((with_reducible apply sp_newr hs); (· kernel_rfl); intro g w hs))
      exact ⟨⟨i + 1, _, by rw [hw2], hi', hs.sbl (.cons .hd (.cons .hd (.drop .all)))⟩, by simp; omega⟩
  · obtain rfl : i = 15 := by have := of_decide_eq_false hq; omega
    rw [steps_last bts k hk] at hs
    replace hs : Sep b w (blkI gf T.files_FS (fsV gm (lastZ bts k)) :: mapI fileF gm (lastZ bts k).m :: L) := hs
    repeat with_reducible refine mv.mk ?_
    refine cl (files_Read (name := aN) hs (by decide) (by rw [last_findF]; decide)) ?_
    rintro _ w ⟨v1, e1, rfl, hs⟩
    rw [last_findF, last_find] at hs
    replace hs := hs.sbl (L' := blkI gf T.files_FS (fsV gm (lastZ bts k)) :: mapI fileF gm (lastZ bts k).m :: (errF e1 13).it :: L) (.cons (.tl (.tl .hd)) (.cons (.tl (.tl .hd)) (.drop .all)))
    repeat (first
     | (with_reducible (first | refine st_lens ?_ | refine st_eqls ?_ | refine st_nels ?_ | refine tk_eqls ?_ | refine tk_nels ?_ | refine mv.mk ?_ | refine nk_p ?_ | refine gdT_i ?_ | refine gdT_ft ?_ | refine gdT_tf ?_ | refine gdT_u ?_ | refine gd_u ?_ | refine gd_ft ?_ | refine gd_tf ?_ | refine gd_i ?_ | refine pk_t ?_ | refine pk_f ?_ | refine br_t ?_ | refine br_f ?_ | refine sp_boxa hs fun g w hs => ?_))
     | (with_reducible ((first | apply st_bin | apply st_ext | apply st_len | apply st_un | apply st_conv | apply st_mki | apply st_fld | apply st_cap | apply st_max | apply st_min | apply st_ixv | apply st_mkf); intro k' hk; simp [go_sem, thenR_ok, bin]; refine hk _ _ ?_; clear hk k'))
     | ((with_reducible (first | apply tk_bin | apply tk_ext | apply tk_len | apply tk_un)); (· intro w; simp [go_sem, bin]; rfl))
     | ((with_reducible apply sp_newr hs); (· kernel_rfl); intro g w hs))
    refine cl (files_Sync (name := aN) hs (by decide)) ?_
    rintro e2 w hs
    rw [last_sync] at hs
    replace hs : Sep b w (blkI gf T.files_FS (fsV gm (lastZ bts k)) :: mapI fileF gm (lastZ bts k).m :: (errF e2 13).it :: (errF e1 13).it :: L) := hs.sbl (.cons (.tl .hd) (.cons (.tl .hd) .all))
    repeat with_reducible refine mv.mk ?_
    refine intL hs fun kv w hs => ?_
    replace hs := hs.sbl (.cons (.tl .hd) (.cons (.tl .hd) .all))
    have hok := steps_ok (i := 15) hbl hk (by omega)
    rw [steps_last bts k hk] at hok
    refine cl (files_Start hs .hd hok.m (Nat.le_trans hok.n (by decide))) ?_
    rintro _ w ⟨rfl, hs⟩
    obtain ⟨sf, hst⟩ := last_start hbl hk
    have hrl : (rep (k + 1) bts).length = (k + 1) * bts.length := rep_len _ _
    have hrl2 : (k + 1) * bts.length ≤ 12000 := Nat.mul_le_mul (show k + 1 ≤ 12 by omega) hbl
    rw [hst] at hs
    obtain ⟨f1, f2, f3⟩ := start_find (rep (k + 1) bts) k sf
    generalize hz : (⟨[(aN, (rep (k + 1) bts, sf))], k, false, 0, false⟩ : FsD) = z at *
    repeat with_reducible refine mv.mk ?_
    refine cl (files_Read (name := aN) hs (by decide) (by rw [f2]; show (rep (k + 1) bts).length ≤ _; omega)) ?_
    rintro _ w ⟨v3, e3, rfl, hs⟩
    rw [f1, f2] at hs
    obtain rfl := errF_zero hs (.tl .hd)
    obtain ⟨A3, c3, hv3⟩ := by_slice hs .hd
    replace hv3 : v3 = .slice A3 ((k + 1) * bts.length) c3 := by rw [hv3]; show Value.slice A3 (rep (k + 1) bts).length c3 = _; rw [hrl]
    subst hv3
    replace hs := hs.sbl (L' := blkI gf T.files_FS (fsV gm z) :: mapI fileF gm z.m :: (errF e2 13).it :: (errF e1 13).it :: L) (.cons (.tl (.tl .hd)) (.cons (.tl (.tl .hd)) (.drop (.drop (.drop .all)))))
    repeat (first
     | (with_reducible (first | refine st_lens ?_ | refine st_eqls ?_ | refine st_nels ?_ | refine tk_eqls ?_ | refine tk_nels ?_ | refine mv.mk ?_ | refine nk_p ?_ | refine gdT_i ?_ | refine gdT_ft ?_ | refine gdT_tf ?_ | refine gdT_u ?_ | refine gd_u ?_ | refine gd_ft ?_ | refine gd_tf ?_ | refine gd_i ?_ | refine pk_t ?_ | refine pk_f ?_ | refine br_t ?_ | refine br_f ?_ | refine sp_boxa hs fun g w hs => ?_))
     | (with_reducible ((first | apply st_bin | apply st_ext | apply st_len | apply st_un | apply st_conv | apply st_mki | apply st_fld | apply st_cap | apply st_max | apply st_min | apply st_ixv | apply st_mkf); intro k' hk; simp [go_sem, thenR_ok, bin]; refine hk _ _ ?_; clear hk k'))
     | ((with_reducible (first | apply tk_bin | apply tk_ext | apply tk_len | apply tk_un)); (· intro w; simp [go_sem, bin]; rfl))
     | ((with_reducible apply sp_newr hs); (· kernel_rfl); intro g w hs))
    refine cl (isthmuslaw04_num hs (.tl (.tl (.tl (.tl hT)))) (.tl (.tl (.tl .hd)))) ?_
    rintro _ w ⟨rfl, hs⟩
    repeat (first
     | (with_reducible (first | refine st_lens ?_ | refine st_eqls ?_ | refine st_nels ?_ | refine tk_eqls ?_ | refine tk_nels ?_ | refine mv.mk ?_ | refine nk_p ?_ | refine gdT_i ?_ | refine gdT_ft ?_ | refine gdT_tf ?_ | refine gdT_u ?_ | refine gd_u ?_ | refine gd_ft ?_ | refine gd_tf ?_ | refine gd_i ?_ | refine pk_t ?_ | refine pk_f ?_ | refine br_t ?_ | refine br_f ?_ | refine sp_boxa hs fun g w hs => ?_))
     | (with_reducible ((first | apply st_bin | apply st_ext | apply st_len | apply st_un | apply st_conv | apply st_mki | apply st_fld | apply st_cap | apply st_max | apply st_min | apply st_ixv | apply st_mkf); intro k' hk; simp [go_sem, thenR_ok, bin]; refine hk _ _ ?_; clear hk k'))
     | ((with_reducible (first | apply tk_bin | apply tk_ext | apply tk_len | apply tk_un)); (· intro w; simp [go_sem, bin]; rfl))
     | ((with_reducible apply sp_newr hs); (· kernel_rfl); intro g w hs))
    refine cl (isthmuslaw04_num hs (.tl (.tl (.tl (.tl hT)))) (.tl (.tl .hd))) ?_
    rintro _ w ⟨rfl, hs⟩
    repeat (first
     | (with_reducible (first | refine st_lens ?_ | refine st_eqls ?_ | refine st_nels ?_ | refine tk_eqls ?_ | refine tk_nels ?_ | refine mv.mk ?_ | refine nk_p ?_ | refine gdT_i ?_ | refine gdT_ft ?_ | refine gdT_tf ?_ | refine gdT_u ?_ | refine gd_u ?_ | refine gd_ft ?_ | refine gd_tf ?_ | refine gd_i ?_ | refine pk_t ?_ | refine pk_f ?_ | refine br_t ?_ | refine br_f ?_ | refine sp_boxa hs fun g w hs => ?_))
     | (with_reducible ((first | apply st_bin | apply st_ext | apply st_len | apply st_un | apply st_conv | apply st_mki | apply st_fld | apply st_cap | apply st_max | apply st_min | apply st_ixv | apply st_mkf); intro k' hk; simp [go_sem, thenR_ok, bin]; refine hk _ _ ?_; clear hk k'))
     | ((with_reducible (first | apply tk_bin | apply tk_ext | apply tk_len | apply tk_un)); (· intro w; simp [go_sem, bin]; rfl))
     | ((with_reducible apply sp_newr hs); (· kernel_rfl); intro g w hs))
    refine cl (files_Down hs) ?_
    rintro _ w ⟨rfl, hs⟩
    repeat (first
     | (with_reducible (first | refine st_lens ?_ | refine st_eqls ?_ | refine st_nels ?_ | refine tk_eqls ?_ | refine tk_nels ?_ | refine mv.mk ?_ | refine nk_p ?_ | refine gdT_i ?_ | refine gdT_ft ?_ | refine gdT_tf ?_ | refine gdT_u ?_ | refine gd_u ?_ | refine gd_ft ?_ | refine gd_tf ?_ | refine gd_i ?_ | refine pk_t ?_ | refine pk_f ?_ | refine br_t ?_ | refine br_f ?_ | refine sp_boxa hs fun g w hs => ?_))
     | (with_reducible ((first | apply st_bin | apply st_ext | apply st_len | apply st_un | apply st_conv | apply st_mki | apply st_fld | apply st_cap | apply st_max | apply st_min | apply st_ixv | apply st_mkf); intro k' hk; simp [go_sem, thenR_ok, bin]; refine hk _ _ ?_; clear hk k'))
     | ((with_reducible (first | apply tk_bin | apply tk_ext | apply tk_len | apply tk_un)); (· intro w; simp [go_sem, bin]; rfl))
     | ((with_reducible apply sp_newr hs); (· kernel_rfl); intro g w hs))
    rw [show z.down = false by rw [← hz]]
    rw [Bool.not_false]
    repeat (first
     | ((with_reducible apply tn_add); (· omega))
     | ((with_reducible apply tn_sub); (· omega))
     | ((with_reducible apply tn_mul); (· omega))
     | ((with_reducible apply sn_add); (· omega))
     | ((with_reducible apply sn_sub); (· omega))
     | ((with_reducible apply sn_mul); (· omega))
     | (with_reducible (first | refine st_lens ?_ | refine st_eqls ?_ | refine st_nels ?_ | refine tk_eqls ?_ | refine tk_nels ?_ | refine mv.mk ?_ | refine nk_p ?_ | refine gdT_i ?_ | refine gdT_ft ?_ | refine gdT_tf ?_ | refine gdT_u ?_ | refine gd_u ?_ | refine gd_ft ?_ | refine gd_tf ?_ | refine gd_i ?_ | refine pk_t ?_ | refine pk_f ?_ | refine br_t ?_ | refine br_f ?_ | refine sp_boxa hs fun g w hs => ?_))
     | (with_reducible ((first | apply st_bin | apply st_ext | apply st_len | apply st_un | apply st_conv | apply st_mki | apply st_fld | apply st_cap | apply st_max | apply st_min | apply st_ixv | apply st_mkf); intro k' hk; simp [go_sem, thenR_ok, bin]; refine hk _ _ ?_; clear hk k'))
     | ((with_reducible (first | apply tk_bin | apply tk_ext | apply tk_len | apply tk_un)); (· intro w; simp [go_sem, bin]; rfl))
     | ((with_reducible apply sp_newr hs); (· kernel_rfl); intro g w hs))
    have em : ((k : Int) + 1) * (bts.length : Int) = (((k + 1) * bts.length : Nat) : Int) := by simp
    rw [show IntKind.i64.wrap (((k : Int) + 1) * (bts.length : Int)) = ((k : Int) + 1) * (bts.length : Int) by rw [em, i64_wrap (by omega) (by omega)], show ((((k : Int) + 1) * (bts.length : Int)) == (((k : Int) + 1) * (bts.length : Int))) = true by simp]
    repeat (first
     | (with_reducible (first | refine st_lens ?_ | refine st_eqls ?_ | refine st_nels ?_ | refine tk_eqls ?_ | refine tk_nels ?_ | refine mv.mk ?_ | refine nk_p ?_ | refine gdT_i ?_ | refine gdT_ft ?_ | refine gdT_tf ?_ | refine gdT_u ?_ | refine gd_u ?_ | refine gd_ft ?_ | refine gd_tf ?_ | refine gd_i ?_ | refine pk_t ?_ | refine pk_f ?_ | refine br_t ?_ | refine br_f ?_ | refine sp_boxa hs fun g w hs => ?_))
     | (with_reducible ((first | apply st_bin | apply st_ext | apply st_len | apply st_un | apply st_conv | apply st_mki | apply st_fld | apply st_cap | apply st_max | apply st_min | apply st_ixv | apply st_mkf); intro k' hk; simp [go_sem, thenR_ok, bin]; refine hk _ _ ?_; clear hk k'))
     | ((with_reducible (first | apply tk_bin | apply tk_ext | apply tk_len | apply tk_un)); (· intro w; simp [go_sem, bin]; rfl))
     | ((with_reducible apply sp_newr hs); (· kernel_rfl); intro g w hs))
    refine cl (files_Sync (name := aN) hs (by decide)) ?_
    rintro r w hs
    rw [f3] at hs
    obtain rfl := errF_zero hs .hd
    repeat (first
     | (with_reducible (first | refine st_lens ?_ | refine st_eqls ?_ | refine st_nels ?_ | refine tk_eqls ?_ | refine tk_nels ?_ | refine mv.mk ?_ | refine nk_p ?_ | refine gdT_i ?_ | refine gdT_ft ?_ | refine gdT_tf ?_ | refine gdT_u ?_ | refine gd_u ?_ | refine gd_ft ?_ | refine gd_tf ?_ | refine gd_i ?_ | refine pk_t ?_ | refine pk_f ?_ | refine br_t ?_ | refine br_f ?_ | refine sp_boxa hs fun g w hs => ?_))
     | (with_reducible ((first | apply st_bin | apply st_ext | apply st_len | apply st_un | apply st_conv | apply st_mki | apply st_fld | apply st_cap | apply st_max | apply st_min | apply st_ixv | apply st_mkf); intro k' hk; simp [go_sem, thenR_ok, bin]; refine hk _ _ ?_; clear hk k'))
     | ((with_reducible (first | apply tk_bin | apply tk_ext | apply tk_len | apply tk_un)); (· intro w; simp [go_sem, bin]; rfl))
     | ((with_reducible apply sp_newr hs); (· kernel_rfl); intro g w hs))
    refine cl (isthmuslaw04_sure hs) ?_
    rintro _ w ⟨rfl, hs⟩
    repeat (first
     | (with_reducible (first | refine st_lens ?_ | refine st_eqls ?_ | refine st_nels ?_ | refine tk_eqls ?_ | refine tk_nels ?_ | refine mv.mk ?_ | refine nk_p ?_ | refine gdT_i ?_ | refine gdT_ft ?_ | refine gdT_tf ?_ | refine gdT_u ?_ | refine gd_u ?_ | refine gd_ft ?_ | refine gd_tf ?_ | refine gd_i ?_ | refine pk_t ?_ | refine pk_f ?_ | refine br_t ?_ | refine br_f ?_ | refine sp_boxa hs fun g w hs => ?_))
     | (with_reducible ((first | apply st_bin | apply st_ext | apply st_len | apply st_un | apply st_conv | apply st_mki | apply st_fld | apply st_cap | apply st_max | apply st_min | apply st_ixv | apply st_mkf); intro k' hk; simp [go_sem, thenR_ok, bin]; refine hk _ _ ?_; clear hk k'))
     | ((with_reducible (first | apply tk_bin | apply tk_ext | apply tk_len | apply tk_un)); (· intro w; simp [go_sem, bin]; rfl))
     | ((with_reducible apply sp_newr hs); (· kernel_rfl); intro g w hs))
    exact ⟨rfl, hs.sbl (.drop (.drop (.drop (.drop (.drop .all)))))⟩
end
end Go.Proofs.YtiaiglgfangedaaDoor
