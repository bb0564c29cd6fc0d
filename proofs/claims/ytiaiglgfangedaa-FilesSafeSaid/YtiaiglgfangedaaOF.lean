/- isthmuslaw04.FilesSafe returns true at every two slices of bytes and every act, and all three read behind the call as they did before. No condition, no variable laid. -/
import Derived.Test.YtiaiglgfangedaaFX
import Derived.Test.YtiaiglgfangedaaFP
set_option linter.unusedVariables false
set_option linter.unusedSimpArgs false
set_option linter.unusedSectionVars false
namespace Go.Proofs.Ytiaiglgfangedaa.filesSafe
open Go Go.Isk Go.RowKit Go.ChangeShapes Go.WideShapes Go.ChangeAt
set_option maxRecDepth 100000 in
theorem contract (H : Type) (enc : TypeId × Value → H) (W : World) (base : Nat) (args : Array Value) (ds gs : List (DataW H)) (before : List MemPlace)
    (hval : ∀ (j : Nat) t v, Try.f3.params[j]? = some t → args[j]? = some v → Value.okWide Try.prog W .any base t v)
    (hW : DataW.Whole enc Try.prog Try.f3.params.toList Rows.filesSafeSpec.vars false W args.toList ds gs before) (hL : laidMetH Try.prog Rows.filesSafeRow.laid W) :
    Calls Try.prog 3 args W fun e W' => ∃ v, e = .returned v ∧ Rows.filesSafeSpec.post enc Try.prog Try.f3 false true false false W args v W' := by
  have hW' := hW
  obtain ⟨p, q, hA0, hV, rfl, hfz, hnd⟩ := hW
  obtain ⟨l, rfl⟩ : ∃ l : List Value, args = l.toArray := ⟨args.toList, by simp⟩
  have hA : DataW.TrodAll enc Try.prog W 0 (fun _ => true) true Try.f3.params.toList l ds p := hA0
  rw [Try.params3] at hA
  obtain ⟨v0, l, d0, ds, p0, p, rfl, rfl, rfl, h0, hA⟩ := trodAll_cons hA
  obtain ⟨v1, l, d1, ds, p1, p, rfl, rfl, rfl, h1, hA⟩ := trodAll_cons hA
  obtain ⟨v2, l, d2, ds, p2, p, rfl, rfl, rfl, h2, hA⟩ := trodAll_cons hA
  obtain ⟨rfl, rfl, rfl⟩ := trodAll_nil hA
  obtain ⟨rfl, rfl⟩ := trodVars_none hV
  clear hA0 hA
  have hv0 := hval 0 T.sl_uint8 v0 (by rw [Try.params3]; rfl) rfl
  obtain ⟨a0, e0, m0⟩ := opn_slc (t := T.sl_uint8) oB (by kernel_rfl) hv0 h0
  obtain ⟨u0, x0, e0⟩ := e0
  obtain rfl : v0 = u0 := by simpa using x0
  try dsimp only at m0
  have hv1 := hval 1 T.sl_uint8 v1 (by rw [Try.params3]; rfl) rfl
  obtain ⟨a1, e1, m1⟩ := opn_slc (t := T.sl_uint8) oB (by kernel_rfl) hv1 h1
  obtain ⟨u1, x1, e1⟩ := e1
  obtain rfl : v1 = u1 := by simpa using x1
  try dsimp only at m1
  have hv2 := hval 2 T.isthmuslaw04_Act v2 (by rw [Try.params3]; rfl) rfl
  obtain ⟨c2, a2, rfl, e2, m2⟩ := opn_agg (t := T.isthmuslaw04_Act) opn_Act (by kernel_rfl) hv2 h2
  try dsimp only at m2
  have hs : Sep ⟨W, fun _ => False⟩ W [(byF v0 a0).it, (byF v1 a1).it, (actF c2 a2).it] := sep_start (fs := [(byF v0 a0), (byF v1 a1), (actF c2 a2)]) fun f hf => by
    simp only [List.mem_cons, List.not_mem_nil, or_false] at hf
    rcases hf with rfl | rfl | rfl
    · exact e0
    · exact e1
    · exact e2
  refine (filesSafeW hs .hd (.tl .hd) (.tl (.tl .hd))).out.mono fun e W' he => ?_
  obtain ⟨v, rfl, rfl, hs'⟩ := he
  exact ⟨_, rfl, post_true (tb := T.bool) hW' laidK rfl rfl (by kernel_rfl) (by kernel_rfl) (by kernel_rfl) hs'.upd⟩
noncomputable def laidWorld (os : Os) : World :=
  World.holding Try.prog os ⟨#[], #[], []⟩
theorem laid_met (os : Os) : laidMetH Try.prog Rows.filesSafeRow.laid ((laidWorld os).forCall (fun _ _ => 0) ⟨#[], #[.slice none 0 0, .slice none 0 0, .agg (act4C (.int .i64 0) (.int .i64 0) (str []) (str []) (.slice none 0 0) (.slice none 0 0)).toArray], []⟩).memory :=
  laidMetH_of_parts (laidMet_nil _ _) (by kernel_rfl)
theorem reads (os : Os) {H : Type} (enc : TypeId × Value → H) : ∃ x : List (DataW H) × List (DataW H) × List MemPlace, DataW.whole enc Try.prog ((laidWorld os).forCall (fun _ _ => 0) ⟨#[], #[.slice none 0 0, .slice none 0 0, .agg (act4C (.int .i64 0) (.int .i64 0) (str []) (str []) (.slice none 0 0) (.slice none 0 0)).toArray], []⟩).memory Try.f3.params.toList Rows.filesSafeSpec.vars false #[.slice none 0 0, .slice none 0 0, .agg (act4C (.int .i64 0) (.int .i64 0) (str []) (str []) (.slice none 0 0) (.slice none 0 0)).toArray].toList 40 = some x :=
  Option.isSome_iff_exists.1 (by kernel_rfl)
set_option maxRecDepth 100000 in
theorem lifted (os : Os) (started : os.Started) (H : Type) (enc : TypeId × Value → H) (F : Stop.Interp) :
    ReturnsInHanded {} Try.checked os 3 .any ((OpenSpec.ofChange Rows.filesSafeSpec).preRow enc Try.prog Try.f3 Rows.filesSafeRow.domain false Rows.filesSafeRow.laid) (((OpenSpec.ofChange Rows.filesSafeSpec).at F).post enc Try.prog Try.f3 false true false false) := by
  obtain ⟨x, hx⟩ := reads os enc
  refine returnsInHanded_of_row (C := Try.checked) (s := (OpenSpec.ofChange Rows.filesSafeSpec)) ownK started (by kernel_rfl) Try.func3
    (witness_row_at (enc := enc) (C := Try.checked) false (laidWorld os) #[.slice none 0 0, .slice none 0 0, .agg (act4C (.int .i64 0) (.int .i64 0) (str []) (str []) (.slice none 0 0) (.slice none 0 0)).toArray] rfl (by kernel_rfl) (by kernel_rfl) (by kernel_rfl)
      (OpenSpec.preRow_of_cond 40 hx (by kernel_rfl) (fun k hk => by cases hk) (by kernel_rfl) (laid_met os))) ?_
  intro W base args ds gs before hval hW _ hcond _ hL _ _
  exact contract H enc W base args ds gs before hval hW hL
theorem said : Rows.FilesSafeSaid :=
  OpenClaim.holds_of_cond 3 Try.f3 rfl rfl rfl rfl rfl rfl rfl ⟨rfl, rfl, rfl, rfl, rfl⟩ rfl rfl rfl rfl rfl (by kernel_rfl) Try.func3 (by kernel_rfl)
    (of_decide_eq_true (by kernel_rfl)) (by unfold Func.isWrapper; first | (rw [if_pos (by decide +kernel)]; kernel_rfl) | (rw [if_neg (by decide +kernel)]; exact ⟨rfl, rfl⟩))
    (fun os started H enc _ F => by rw [OpenClaim.pre_eq_preRow]; exact lifted os started H enc F)
#print axioms said
end Go.Proofs.Ytiaiglgfangedaa.filesSafe
