/- files: FilesSteps. -/
import Derived.Test.YtiaiglgfangedaaDoorFV
import Derived.Test.YtiaiglgfangedaaDoorKF
set_option linter.unusedVariables false
set_option linter.unusedSimpArgs false
set_option linter.unusedSectionVars false
namespace Go.Proofs.YtiaiglgfangedaaDoor
open Go Go.Isk Go.RowKit
set_option maxRecDepth 20000
/-! ### the plain law -/
def aN : Bytes := [97]
def mapA (b : Bytes) (i : Nat) : AMap FileD := if i = 0 then [] else [(aN, (rep i b, 0))]
def stepsZ (b : Bytes) (k i : Nat) : FsD := if i ≤ k then ⟨mapA b i, i, true, (k : Int) - i, false⟩ else ⟨mapA b (k + 1), k, true, 0, true⟩
def lastZ (b : Bytes) (k : Nat) : FsD := ⟨[(aN, (rep (k + 1) b, 0))], k, true, 0, true⟩
/-! ### the walk -/
section
variable {b : Base} {w : World} {L R : List It} {g gf gm : Nat} {v sv bv kv av e : Value} {s l name bts : Bytes} {cs : List Value} {z : FsD} {n : Int}
theorem isthmuslaw04_num (hs : Sep b w L) (hT : Ins L errT.it) (hv : Ins L (errF e n).it) : C Tryd.prog N.isthmuslaw04_num #[e] w fun r w' => r = .int .i64 n ∧ Sep b w' L :=
  C.isthmuslaw04_num (num_call (F := F.isthmuslaw04_num) hs hT hv (fun _ _ _ => rfl) fun w hs => ⟨rfl, hs⟩)
theorem files_Steps (hs : Sep b w (blkI gf T.files_FS (fsV gm z) :: L)) :
    C Tryd.prog N.files_FS_Steps #[.pointer (some ⟨gf, 0, none⟩)] w fun r w' => r = .int .i64 z.steps ∧ Sep b w' (blkI gf T.files_FS (fsV gm z) :: L) := by
  refine C.files_FS_Steps ?_
  unfold F.files_FS_Steps
  repeat (first
   | (with_reducible refine fs.a0 ?_)
   | ((with_reducible apply fs.r0 hs); (· (with_reducible (repeat (first | exact .blk | exact .rng | apply Rng.tl)))))
   | (with_reducible refine fs.c0 ?_)
   | ((with_reducible apply fs.e0); (· first | exact hS | exact hid); (· (with_reducible (repeat (first | exact .blk | exact .rng | apply Rng.tl)))))
   | (with_reducible refine fs.a1 ?_)
   | ((with_reducible apply fs.r1 hs); (· (with_reducible (repeat (first | exact .blk | exact .rng | apply Rng.tl)))))
   | (with_reducible refine fs.c1 ?_)
   | ((with_reducible apply fs.e1); (· first | exact hS | exact hid); (· (with_reducible (repeat (first | exact .blk | exact .rng | apply Rng.tl)))))
   | (with_reducible refine fs.a2 ?_)
   | ((with_reducible apply fs.r2 hs); (· (with_reducible (repeat (first | exact .blk | exact .rng | apply Rng.tl)))))
   | (with_reducible refine fs.c2 ?_)
   | ((with_reducible apply fs.e2); (· first | exact hS | exact hid); (· (with_reducible (repeat (first | exact .blk | exact .rng | apply Rng.tl)))))
   | (with_reducible refine fs.a3 ?_)
   | ((with_reducible apply fs.r3 hs); (· (with_reducible (repeat (first | exact .blk | exact .rng | apply Rng.tl)))))
   | (with_reducible refine fs.c3 ?_)
   | ((with_reducible apply fs.e3); (· first | exact hS | exact hid); (· (with_reducible (repeat (first | exact .blk | exact .rng | apply Rng.tl)))))
   | (with_reducible refine fs.a4 ?_)
   | ((with_reducible apply fs.r4 hs); (· (with_reducible (repeat (first | exact .blk | exact .rng | apply Rng.tl)))))
   | (with_reducible refine fs.c4 ?_)
   | ((with_reducible apply fs.e4); (· first | exact hS | exact hid); (· (with_reducible (repeat (first | exact .blk | exact .rng | apply Rng.tl)))))
   | (with_reducible (first | refine st_lens ?_ | refine st_eqls ?_ | refine st_nels ?_ | refine tk_eqls ?_ | refine tk_nels ?_ | refine mv.mk ?_ | refine nk_p ?_ | refine gdT_i ?_ | refine gdT_ft ?_ | refine gdT_tf ?_ | refine gdT_u ?_ | refine gd_u ?_ | refine gd_ft ?_ | refine gd_tf ?_ | refine gd_i ?_ | refine pk_t ?_ | refine pk_f ?_ | refine br_t ?_ | refine br_f ?_ | refine sp_boxa hs fun g w hs => ?_))
   | (with_reducible ((first | apply st_bin | apply st_ext | apply st_len | apply st_un | apply st_conv | apply st_mki | apply st_fld | apply st_cap | apply st_max | apply st_min | apply st_ixv | apply st_mkf); intro k' hk; simp [go_sem, thenR_ok, bin]; refine hk _ _ ?_; clear hk k'))
   | ((with_reducible (first | apply tk_bin | apply tk_ext | apply tk_len | apply tk_un)); (· intro w; simp [go_sem, bin]; rfl))
   | ((with_reducible apply sp_newr hs); (· kernel_rfl); intro g w hs))
  exact ⟨rfl, hs⟩
end
end Go.Proofs.YtiaiglgfangedaaDoor
