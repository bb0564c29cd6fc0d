/- isthmuslaw04.FilesClone returns true at every two slices of acts, and both read behind the call as they did before. Conditions: what is read is of bulk at most 1048576 (the second form); errors.errorType begins as the program's text lays it (the card ties it, to a pruned copy of the project). -/
import Derived.Test.YtiaiglgfangedaaDoorFZ
import Derived.Test.YtiaiglgfangedaaDoorFP
set_option linter.unusedVariables false
set_option linter.unusedSimpArgs false
set_option linter.unusedSectionVars false
namespace Go.Proofs.YtiaiglgfangedaaDoor.filesClone
open Go Go.Isk Go.RowKit Go.ChangeShapes Go.WideShapes Go.ChangeAt
set_option maxRecDepth 100000 in
theorem contract (H : Type) (enc : TypeId × Value → H) (W : World) (base : Nat) (args : Array Value) (ds gs : List (DataW H)) (before : List MemPlace)
    (hval : ∀ (j : Nat) t v, Tryd.f5.params[j]? = some t → args[j]? = some v → Value.okWide Tryd.prog W .any base t v)
    (hW : DataW.Whole enc Tryd.prog Tryd.f5.params.toList Rows.filesCloneSpec.vars false W args.toList ds gs before) (hk : Rows.uptoSmall H (ds ++ gs) = true) (hL : laidMetH Tryd.prog Rows.filesCloneUptoRow.laid W) :
    Calls Tryd.prog 5 args W fun e W' => ∃ v, e = .returned v ∧ Rows.filesCloneSpec.post enc Tryd.prog Tryd.f5 false true false false W args v W' := by
  have hW' := hW
  obtain ⟨p, q, hA0, hV, rfl, hfz, hnd⟩ := hW
  obtain ⟨l, rfl⟩ : ∃ l : List Value, args = l.toArray := ⟨args.toList, by simp⟩
  have hA : DataW.TrodAll enc Tryd.prog W 0 (fun _ => true) true Tryd.f5.params.toList l ds p := hA0
  rw [Tryd.params5] at hA
  obtain ⟨v0, l, d0, ds, p0, p, rfl, rfl, rfl, h0, hA⟩ := trodAll_cons hA
  obtain ⟨v1, l, d1, ds, p1, p, rfl, rfl, rfl, h1, hA⟩ := trodAll_cons hA
  obtain ⟨rfl, rfl, rfl⟩ := trodAll_nil hA
  obtain ⟨rfl, rfl⟩ := trodVars_none hV
  clear hA0 hA
  have hL' : laidMet Tryd.prog [] W ∧ handlesMet Tryd.prog [("errors.errorType", Rows.laid_errors_errorType)] W := hL
  have hv0 := hval 0 T.sl_isthmuslaw04_Act v0 (by rw [Tryd.params5]; rfl) rfl
  obtain ⟨a0, e0, m0⟩ := opn_slc (t := T.sl_isthmuslaw04_Act) (opn_list (E := T.isthmuslaw04_Act) (F := actF) (by kernel_rfl) opn_Act (sz := 6) (by kernel_rfl) (by decide)) (by kernel_rfl) hv0 h0
  obtain ⟨u0, x0, e0⟩ := e0
  obtain rfl : v0 = u0 := by simpa using x0
  try dsimp only at m0
  have hv1 := hval 1 T.sl_isthmuslaw04_Act v1 (by rw [Tryd.params5]; rfl) rfl
  obtain ⟨a1, e1, m1⟩ := opn_slc (t := T.sl_isthmuslaw04_Act) (opn_list (E := T.isthmuslaw04_Act) (F := actF) (by kernel_rfl) opn_Act (sz := 6) (by kernel_rfl) (by decide)) (by kernel_rfl) hv1 h1
  obtain ⟨u1, x1, e1⟩ := e1
  obtain rfl : v1 = u1 := by simpa using x1
  try dsimp only at m1
  have hb : Rows.uptoBulkAll ([d0, d1] ++ []) ≤ 1048576 := by simpa [Rows.uptoSmall] using hk
  simp only [List.append_nil, Rows.uptoBulkAll] at hb
  have hs : Sep ⟨W, fun _ => False⟩ W [(errT).it, (listF actF 6 v0 a0).it, (listF actF 6 v1 a1).it] := sep_start (fs := [(errT), (listF actF 6 v0 a0), (listF actF 6 v1 a1)]) fun f hf => by
    simp only [List.mem_cons, List.not_mem_nil, or_false] at hf
    rcases hf with rfl | rfl | rfl
    · exact errT_of hL'.2
    · exact e0
    · exact e1
  refine (filesCloneW hs .hd (.tl .hd) (.tl (.tl .hd)) (by omega) (by omega)).out.mono fun e W' he => ?_
  obtain ⟨v, rfl, rfl, hs'⟩ := he
  exact ⟨_, rfl, post_true (tb := T.bool) hW' laidK rfl rfl (by kernel_rfl) (by kernel_rfl) (by kernel_rfl) hs'.upd⟩
noncomputable def laidWorld (os : Os) : World :=
  { World.holding Tryd.prog os ⟨#[], #[], []⟩ with heap := (World.holding Tryd.prog os ⟨#[], #[], []⟩).heap.modify 0 fun
      | .cells _ t frozen => .cells #[rty T.error] t frozen
      | o => o }
theorem laid_met (os : Os) : laidMetH Tryd.prog Rows.filesCloneUptoRow.laid ((laidWorld os).forCall (fun _ _ => 0) ⟨#[], #[.slice none 0 0, .slice none 0 0], []⟩).memory :=
  laidMetH_of_parts (laidMet_nil _ _) (by kernel_rfl)
theorem reads (os : Os) {H : Type} (enc : TypeId × Value → H) : ∃ x : List (DataW H) × List (DataW H) × List MemPlace, DataW.whole enc Tryd.prog ((laidWorld os).forCall (fun _ _ => 0) ⟨#[], #[.slice none 0 0, .slice none 0 0], []⟩).memory Tryd.f5.params.toList Rows.filesCloneSpec.vars false #[.slice none 0 0, .slice none 0 0].toList 40 = some x ∧ Rows.uptoSmall H (x.1 ++ x.2.1) = true :=
  some_any (p := fun x : List (DataW H) × List (DataW H) × List MemPlace => Rows.uptoSmall H (x.1 ++ x.2.1)) (by kernel_rfl)
set_option maxRecDepth 100000 in
theorem lifted (os : Os) (started : os.Started) (H : Type) (enc : TypeId × Value → H) (F : Stop.Interp) :
    ReturnsInHanded {} Tryd.checked os 5 .any ((Rows.OpenSpec.upto Rows.filesCloneSpec).preRow enc Tryd.prog Tryd.f5 Rows.filesCloneUptoRow.domain false Rows.filesCloneUptoRow.laid) (((Rows.OpenSpec.upto Rows.filesCloneSpec).at F).post enc Tryd.prog Tryd.f5 false true false false) := by
  obtain ⟨x, hx, hy⟩ := reads os enc
  refine returnsInHanded_of_row (C := Tryd.checked) (s := (Rows.OpenSpec.upto Rows.filesCloneSpec)) ownK started (by kernel_rfl) Tryd.func5
    (witness_row_at (enc := enc) (C := Tryd.checked) false (laidWorld os) #[.slice none 0 0, .slice none 0 0] rfl (by kernel_rfl) (by kernel_rfl) (by kernel_rfl)
      (OpenSpec.preRow_of_cond 40 hx (by kernel_rfl) (fun k hk => by cases hk; exact hy) (by kernel_rfl) (laid_met os))) ?_
  intro W base args ds gs before hval hW _ hcond _ hL _ _
  exact contract H enc W base args ds gs before hval hW (hcond _ rfl) hL
theorem said : Rows.FilesCloneUptoSaid :=
  OpenClaim.holds_of_cond 5 Tryd.f5 rfl rfl rfl rfl rfl rfl rfl ⟨rfl, rfl, rfl, rfl, rfl⟩ rfl rfl rfl rfl rfl (by kernel_rfl) Tryd.func5 (by kernel_rfl)
    (of_decide_eq_true (by kernel_rfl)) (by unfold Func.isWrapper; first | (rw [if_pos (by decide +kernel)]; kernel_rfl) | (rw [if_neg (by decide +kernel)]; exact ⟨rfl, rfl⟩))
    (fun os started H enc _ F => by rw [OpenClaim.pre_eq_preRow]; exact lifted os started H enc F)
theorem plain (f : FuncId) (fn : Func) (hf : Tryd.pinned.checked.prog.funcNamed "isthmus/isthmuslaw04.FilesClone" = some f) (hfn : Tryd.pinned.checked.prog.funcs[f]? = some fn) :
    true = Tryd.pinned.checked.prog.looks [] ∧ ∀ (j : Nat) t, fn.params[j]? = some t → Tryd.pinned.checked.prog.wantsStandIn t = false := by
  obtain rfl : f = 5 := Option.some.inj ((show Tryd.prog.funcNamed "isthmus/isthmuslaw04.FilesClone" = some 5 by kernel_rfl).symm.trans hf) |>.symm
  obtain rfl : fn = Tryd.f5 := (Option.some.inj (Tryd.func5.symm.trans hfn)).symm
  refine ⟨by kernel_rfl, fun j t ht => ?_⟩
  rw [Tryd.params5] at ht
  have hm := Array.mem_of_getElem? ht
  simp only [List.mem_toArray, List.mem_cons, List.not_mem_nil, or_false] at hm
  rcases hm with rfl | rfl
  · exact (show Tryd.prog.wantsStandIn T.sl_isthmuslaw04_Act = false by kernel_rfl)
  · exact (show Tryd.prog.wantsStandIn T.sl_isthmuslaw04_Act = false by kernel_rfl)
theorem card : Rows.FilesCloneUptoCardSaid :=
  Claim7.holds_tied_plain_at .later [] _ _ _ _ said (fun _ h => by cases h) (by kernel_rfl) (fun _ h => by cases h) filesCloneUpto_row_tie rfl ⟨rfl, rfl⟩ (by kernel_rfl) rfl plain (by kernel_rfl)
#print axioms card
end Go.Proofs.YtiaiglgfangedaaDoor.filesClone
