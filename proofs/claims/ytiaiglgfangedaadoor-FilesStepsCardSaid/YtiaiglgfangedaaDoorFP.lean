/- files: what comes in: Act. -/
import Derived.Test.YtiaiglgfangedaaDoorKG
import Derived.Test.YtiaiglgfangedaaDoorFQ
set_option linter.unusedVariables false
set_option linter.unusedSimpArgs false
set_option linter.unusedSectionVars false
namespace Go.Proofs.YtiaiglgfangedaaDoor
open Go Go.Isk Go.RowKit Go.ChangeShapes Go.WideShapes Go.ChangeAt
set_option maxRecDepth 20000
structure ActD where
  kind : Int
  n : Int
  name : Bytes
  now : Bytes
  data : Bytes
  keep : List Int
abbrev actV (x : ActD) (dv kv : Value) : List Value := act4C (.int .i64 x.kind) (.int .i64 x.n) (str x.name) (str x.now) dv kv
def ActS (S : Nat → Prop) (w : World) (cs : List Value) (x : ActD) : Prop := ∃ dv kv, cs = actV x dv kv ∧ ((I64 x.kind ∧ I64 x.n) ∧ x.name.length ≤ maxLen ∧ x.now.length ≤ maxLen) ∧ (byF dv x.data).holds S w ∧ (listF iF 1 kv x.keep).holds S w
theorem ActS.keep {S D : Nat → Prop} {w w' : World} {cs : List Value} {x : ActD} (h : ActS S w cs x) (hu : Upd D w w') (hd : ∀ k, S k → ¬ D k) : ActS S w' cs x := by
  obtain ⟨dv, kv, rfl, hok, h1, h2⟩ := h
  exact ⟨dv, kv, rfl, hok, (byF _ _).keep h1 hu hd, (listF iF 1 kv _).keep h2 hu hd⟩
theorem ActS.mono {S S' : Nat → Prop} {w : World} {cs : List Value} {x : ActD} (h : ActS S w cs x) (hs : ∀ k, S k → k < w.heap.size → S' k) : ActS S' w cs x := by
  obtain ⟨dv, kv, rfl, hok, h1, h2⟩ := h
  exact ⟨dv, kv, rfl, hok, (byF _ _).mono h1 hs, (listF iF 1 kv _).mono h2 hs⟩
def actF : Fam ActD := fun cs x => ⟨fun S w => ActS S w cs x, ActS.keep, ActS.mono⟩
variable {W : World}
end Go.Proofs.YtiaiglgfangedaaDoor
