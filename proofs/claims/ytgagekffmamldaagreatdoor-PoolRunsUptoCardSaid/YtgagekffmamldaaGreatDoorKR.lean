/- What comes in, as things: layer 11. -/
import Derived.Test.YtgagekffmamldaaGreatDoorK9
import Derived.Test.YtgagekffmamldaaGreatDoorKG
import Derived.Test.YtgagekffmamldaaGreatDoorSH
set_option linter.unusedVariables false
set_option linter.unusedSimpArgs false
set_option linter.unusedSectionVars false
namespace Go.Proofs.YtgagekffmamldaaGreatDoor
open Go Go.Isk Go.RowKit Go.ChangeShapes Go.WideShapes Go.ChangeAt
set_option maxRecDepth 20000
variable {W : World}
end Go.Proofs.YtgagekffmamldaaGreatDoor
set_option linter.unusedVariables false
set_option linter.unusedSimpArgs false
set_option linter.unusedSectionVars false
namespace Go.Proofs.YtgagekffmamldaaGreatDoor
open Go Go.Isk Go.RowKit Go.ChangeShapes Go.WideShapes Go.ChangeAt
theorem rnK : Tryz.prog.globalNamed "isthmus/sha.rounds" = some G.sha_rounds := by kernel_rfl
theorem rndLits : Rows.laid_isthmus_sha_rounds (H := Unit) = .agg (shaK.map fun k => .lit (.int .u32 k.toNat)) := by kernel_rfl
theorem rndF_of {W : World} (h : laidMet Tryz.prog [("isthmus/sha.rounds", Rows.laid_isthmus_sha_rounds)] W) : rndF.holds (fun k => k < W.heap.size) W := by
  obtain ⟨ps, hv, _, _⟩ := h
  unfold DataW.LaidVars at hv
  obtain ⟨g, t, cs, fuel, p, q, h1, h2, h3, h4, _, _⟩ := hv
  obtain rfl : g = G.sha_rounds := Option.some.inj (h1.symm.trans rnK)
  obtain rfl : t = T.arr64_uint32 := Option.some.inj (h2.symm.trans (show (Tryz.prog.globals[G.sha_rounds]?).map (·.type) = some T.arr64_uint32 by kernel_rfl))
  obtain ⟨xs, m, _, hx, hl, hxl, hi⟩ := DataW.trod_array (n := 64) (e := T.uint32) (by kernel_rfl) h4
  rw [show Tryz.prog.cellsOf T.uint32 = 1 by kernel_rfl] at hi
  have hlit : shaK.map (fun k => DataW.lit (.int .u32 k.toNat)) = xs.map (·.1) := by
    have := (Prod.mk.inj hx).1
    rw [rndLits] at this
    exact DataW.agg.inj this
  have hcell : ∀ j (hj : j < 64), W.cell? ⟨G.sha_rounds, j, none⟩ = some (u32v (shaK[j]'(by rw [shaK_len]; exact hj))) := fun j hj => by
    have h5 := hi j hj
    rw [List.getElem?_eq_getElem (show j < xs.length by omega), Nat.mul_one] at h5
    obtain ⟨n, h6, h7, _⟩ := DataW.trod_int (by kernel_rfl) h5
    have h8 : (xs.map (·.1))[j]? = some (.lit (.int .u32 (shaK[j]'(by rw [shaK_len]; exact hj)).toNat)) := by
      rw [← hlit, List.getElem?_map, List.getElem?_eq_getElem (by rw [shaK_len]; exact hj)]
      rfl
    rw [List.getElem?_map, List.getElem?_eq_getElem (show j < xs.length by omega), Option.map_some, h7] at h8
    have h9 : n = ((shaK[j]'(by rw [shaK_len]; exact hj)).toNat : Int) := by
      have := Option.some.inj h8
      injection this with this
      injection this
    rw [World.var?_cell rnK h3 j]
    have h10 := congrArg (fun l => l[0]?) h6
    simp only [List.getElem?_take, List.getElem?_drop, List.getElem?_cons_zero] at h10
    rw [h9] at h10
    simpa [u32v] using h10
  refine ⟨fun j v hv => ?_, fun _ => World.block_lt_of_cell? W _ (hcell 0 (by decide))⟩
  have hj : j < 64 := by
    have := (List.getElem?_eq_some_iff.1 hv).1
    rwa [w32s_len, shaK_len] at this
  rw [Nat.zero_add, hcell j hj]
  rw [w32s_get (by rw [shaK_len]; exact hj)] at hv
  exact hv
theorem laid_rounds {W : World} (h : (DataW.laidRun Tryz.prog W 40 ["isthmus/sha.rounds"]).map (·.1) = some [("isthmus/sha.rounds", Rows.laid_isthmus_sha_rounds)])
    (hr : (DataW.laidRun Tryz.prog W 40 ["isthmus/sha.rounds"]).map (fun x => decide x.2.Nodup && laidRowsB Tryz.prog W x.2) = some true) : laidMet Tryz.prog [("isthmus/sha.rounds", Rows.laid_isthmus_sha_rounds)] W :=
  laidMet_of_run' 40 h hr
end Go.Proofs.YtgagekffmamldaaGreatDoor
