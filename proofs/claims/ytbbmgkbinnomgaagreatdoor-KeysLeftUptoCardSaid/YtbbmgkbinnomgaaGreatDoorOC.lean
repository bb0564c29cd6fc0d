/- isthmuslaw06.KeysLeft returns true at every two texts and every number, and all three read behind the call as they did before. Conditions: what is read is of bulk at most 1048576 (the second form); errors.errorType and sha.rounds begin as the program's text lays them (the card ties them, to a pruned copy of the project). -/
import Derived.Test.YtbbmgkbinnomgaaGreatDoorJO
set_option linter.unusedVariables false
set_option linter.unusedSimpArgs false
set_option linter.unusedSectionVars false
namespace Go.Proofs.YtbbmgkbinnomgaaGreatDoor.keysLeft
open Go Go.Isk Go.RowKit Go.ChangeShapes Go.WideShapes Go.ChangeAt
set_option maxRecDepth 100000 in
theorem contract (H : Type) (enc : TypeId × Value → H) (W : World) (base : Nat) (args : Array Value) (ds gs : List (DataW H)) (before : List MemPlace)
    (hval : ∀ (j : Nat) t v, Tryz.f4.params[j]? = some t → args[j]? = some v → Value.okWide Tryz.prog W .any base t v)
    (hW : DataW.Whole enc Tryz.prog Tryz.f4.params.toList Rows.keysLeftSpec.vars false W args.toList ds gs before) (hk : Rows.uptoSmall H (ds ++ gs) = true) (hL : laidMetH Tryz.prog Rows.keysLeftUptoRow.laid W) :
    Calls Tryz.prog 4 args W fun e W' => ∃ v, e = .returned v ∧ Rows.keysLeftSpec.post enc Tryz.prog Tryz.f4 false true false false W args v W' := by
  have hW' := hW
  obtain ⟨p, q, hA0, hV, rfl, hfz, hnd⟩ := hW
  obtain ⟨l, rfl⟩ : ∃ l : List Value, args = l.toArray := ⟨args.toList, by simp⟩
  have hA : DataW.TrodAll enc Tryz.prog W 0 (fun _ => true) true Tryz.f4.params.toList l ds p := hA0
  rw [Tryz.params4] at hA
  obtain ⟨v0, l, d0, ds, p0, p, rfl, rfl, rfl, h0, hA⟩ := trodAll_cons hA
  obtain ⟨v1, l, d1, ds, p1, p, rfl, rfl, rfl, h1, hA⟩ := trodAll_cons hA
  obtain ⟨v2, l, d2, ds, p2, p, rfl, rfl, rfl, h2, hA⟩ := trodAll_cons hA
  obtain ⟨rfl, rfl, rfl⟩ := trodAll_nil hA
  obtain ⟨rfl, rfl⟩ := trodVars_none hV
  clear hA0 hA
  have hL' : laidMet Tryz.prog [("isthmus/sha.rounds", Rows.laid_isthmus_sha_rounds)] W ∧ handlesMet Tryz.prog [("errors.errorType", Rows.laid_errors_errorType)] W := hL
  have hv0 := hval 0 T.string v0 (by rw [Tryz.params4]; rfl) rfl
  obtain ⟨a0, e0, m0⟩ := opn_string (t := T.string) oS (by kernel_rfl) hv0 h0
  have hv1 := hval 1 T.string v1 (by rw [Tryz.params4]; rfl) rfl
  obtain ⟨a1, e1, m1⟩ := opn_string (t := T.string) oS (by kernel_rfl) hv1 h1
  have hv2 := hval 2 T.int v2 (by rw [Tryz.params4]; rfl) rfl
  obtain ⟨a2, e2, m2⟩ := opn_int (t := T.int) oI (by kernel_rfl) hv2 h2
  have hb : Rows.uptoBulkAll ([d0, d1, d2] ++ []) ≤ 1048576 := by simpa [Rows.uptoSmall] using hk
  simp only [List.append_nil, Rows.uptoBulkAll] at hb
  have hs : Sep ⟨W, fun _ => False⟩ W [(errT).it, (rndF).it, (strF [v0] a0).it, (strF [v1] a1).it, (i64F [v2] a2).it] := sep_start (fs := [(errT), (rndF), (strF [v0] a0), (strF [v1] a1), (i64F [v2] a2)]) fun f hf => by
    simp only [List.mem_cons, List.not_mem_nil, or_false] at hf
    rcases hf with rfl | rfl | rfl | rfl | rfl
    · exact errT_of hL'.2
    · exact rndF_of hL'.1
    · exact e0
    · exact e1
    · exact e2
  refine (keysLeftW hs .hd (.tl .hd) (.tl (.tl .hd)) (.tl (.tl (.tl .hd))) (.tl (.tl (.tl (.tl .hd)))) (by refine ⟨?_, ?_⟩ <;> omega)).out.mono fun e W' he => ?_
  obtain ⟨v, rfl, rfl, hs'⟩ := he
  exact ⟨_, rfl, post_true (tb := T.bool) hW' laidK rfl rfl (by kernel_rfl) (by kernel_rfl) (by kernel_rfl) hs'.upd⟩
noncomputable def layT : Obj → Obj
  | .cells _ t frozen => .cells #[rty T.error] t frozen
  | o => o
noncomputable def layR : Obj → Obj
  | .cells _ t frozen => .cells (w32s shaK).toArray t frozen
  | o => o
noncomputable def laidWorld (os : Os) : World :=
  { World.holding Tryz.prog os ⟨#[], #[], []⟩ with heap := ((World.holding Tryz.prog os ⟨#[], #[], []⟩).heap.modify 0 layT).modify G.sha_rounds layR }
theorem laid_met (os : Os) : laidMetH Tryz.prog Rows.keysLeftUptoRow.laid ((laidWorld os).forCall (fun _ _ => 0) ⟨#[], #[str [], str [], .int .i64 0], []⟩).memory :=
  laidMetH_of_parts (laid_rounds (by kernel_rfl) (by kernel_rfl)) (by kernel_rfl)
theorem reads (os : Os) {H : Type} (enc : TypeId × Value → H) : ∃ x : List (DataW H) × List (DataW H) × List MemPlace, DataW.whole enc Tryz.prog ((laidWorld os).forCall (fun _ _ => 0) ⟨#[], #[str [], str [], .int .i64 0], []⟩).memory Tryz.f4.params.toList Rows.keysLeftSpec.vars false #[str [], str [], .int .i64 0].toList 40 = some x ∧ Rows.uptoSmall H (x.1 ++ x.2.1) = true :=
  some_any (p := fun x : List (DataW H) × List (DataW H) × List MemPlace => Rows.uptoSmall H (x.1 ++ x.2.1)) (by kernel_rfl)
set_option maxRecDepth 100000 in
theorem lifted (os : Os) (started : os.Started) (H : Type) (enc : TypeId × Value → H) (F : Stop.Interp) :
    ReturnsInHanded {} Tryz.checked os 4 .any ((Rows.OpenSpec.upto Rows.keysLeftSpec).preRow enc Tryz.prog Tryz.f4 Rows.keysLeftUptoRow.domain false Rows.keysLeftUptoRow.laid) (((Rows.OpenSpec.upto Rows.keysLeftSpec).at F).post enc Tryz.prog Tryz.f4 false true false false) := by
  obtain ⟨x, hx, hy⟩ := reads os enc
  refine returnsInHanded_of_row (C := Tryz.checked) (s := (Rows.OpenSpec.upto Rows.keysLeftSpec)) ownK started (by kernel_rfl) Tryz.func4
    (witness_row_at (enc := enc) (C := Tryz.checked) false (laidWorld os) #[str [], str [], .int .i64 0] rfl (by kernel_rfl) (by kernel_rfl) (by kernel_rfl)
      (OpenSpec.preRow_of_cond 40 hx (by kernel_rfl) (fun k hk => by cases hk; exact hy) (by kernel_rfl) (laid_met os))) ?_
  intro W base args ds gs before hval hW _ hcond _ hL _ _
  exact contract H enc W base args ds gs before hval hW (hcond _ rfl) hL
theorem said : Rows.KeysLeftUptoSaid :=
  OpenClaim.holds_of_cond 4 Tryz.f4 rfl rfl rfl rfl rfl rfl rfl ⟨rfl, rfl, rfl, rfl, rfl⟩ rfl rfl rfl rfl rfl (by kernel_rfl) Tryz.func4 (by kernel_rfl)
    (of_decide_eq_true (by kernel_rfl)) (by unfold Func.isWrapper; first | (rw [if_pos (by decide +kernel)]; kernel_rfl) | (rw [if_neg (by decide +kernel)]; exact ⟨rfl, rfl⟩))
    (fun os started H enc _ F => by rw [OpenClaim.pre_eq_preRow]; exact lifted os started H enc F)
theorem plain (f : FuncId) (fn : Func) (hf : Tryz.pinned.checked.prog.funcNamed "isthmus/isthmuslaw06.KeysLeft" = some f) (hfn : Tryz.pinned.checked.prog.funcs[f]? = some fn) :
    true = Tryz.pinned.checked.prog.looks [] ∧ ∀ (j : Nat) t, fn.params[j]? = some t → Tryz.pinned.checked.prog.wantsStandIn t = false := by
  obtain rfl : f = 4 := Option.some.inj ((show Tryz.prog.funcNamed "isthmus/isthmuslaw06.KeysLeft" = some 4 by kernel_rfl).symm.trans hf) |>.symm
  obtain rfl : fn = Tryz.f4 := (Option.some.inj (Tryz.func4.symm.trans hfn)).symm
  refine ⟨by kernel_rfl, fun j t ht => ?_⟩
  rw [Tryz.params4] at ht
  have hm := Array.mem_of_getElem? ht
  simp only [List.mem_toArray, List.mem_cons, List.not_mem_nil, or_false] at hm
  rcases hm with rfl | rfl | rfl
  · exact (show Tryz.prog.wantsStandIn T.string = false by kernel_rfl)
  · exact (show Tryz.prog.wantsStandIn T.string = false by kernel_rfl)
  · exact (show Tryz.prog.wantsStandIn T.int = false by kernel_rfl)
theorem card : Rows.KeysLeftUptoCardSaid :=
  Claim7.holds_tied_plain_at .later [] _ _ _ _ said (fun _ h => by cases h) (by kernel_rfl) (fun _ h => by cases h) keysLeftUpto_row_tie rfl ⟨rfl, rfl⟩ (by kernel_rfl) rfl plain (by kernel_rfl)
#print axioms card
end Go.Proofs.YtbbmgkbinnomgaaGreatDoor.keysLeft
