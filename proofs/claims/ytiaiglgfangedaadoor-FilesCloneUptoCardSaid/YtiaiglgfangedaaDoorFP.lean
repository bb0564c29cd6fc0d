/- files: what comes in: Act. -/
import Derived.Test.YtiaiglgfangedaaDoorKG
import Derived.Test.YtiaiglgfangedaaDoorFQ
set_option linter.unusedVariables false
set_option linter.unusedSimpArgs false
set_option linter.unusedSectionVars false
namespace Go.Proofs.YtiaiglgfangedaaDoor
open Go Go.Isk Go.RowKit Go.ChangeShapes Go.WideShapes Go.ChangeAt
set_option maxRecDepth 20000
structure ActD where
  kind : Int
  n : Int
  name : Bytes
  now : Bytes
  data : Bytes
  keep : List Int
abbrev actV (x : ActD) (dv kv : Value) : List Value := act4C (.int .i64 x.kind) (.int .i64 x.n) (str x.name) (str x.now) dv kv
def ActS (S : Nat → Prop) (w : World) (cs : List Value) (x : ActD) : Prop := ∃ dv kv, cs = actV x dv kv ∧ ((I64 x.kind ∧ I64 x.n) ∧ x.name.length ≤ maxLen ∧ x.now.length ≤ maxLen) ∧ (byF dv x.data).holds S w ∧ (listF iF 1 kv x.keep).holds S w
theorem ActS.keep {S D : Nat → Prop} {w w' : World} {cs : List Value} {x : ActD} (h : ActS S w cs x) (hu : Upd D w w') (hd : ∀ k, S k → ¬ D k) : ActS S w' cs x := by
  obtain ⟨dv, kv, rfl, hok, h1, h2⟩ := h
  exact ⟨dv, kv, rfl, hok, (byF _ _).keep h1 hu hd, (listF iF 1 kv _).keep h2 hu hd⟩
theorem ActS.mono {S S' : Nat → Prop} {w : World} {cs : List Value} {x : ActD} (h : ActS S w cs x) (hs : ∀ k, S k → k < w.heap.size → S' k) : ActS S' w cs x := by
  obtain ⟨dv, kv, rfl, hok, h1, h2⟩ := h
  exact ⟨dv, kv, rfl, hok, (byF _ _).mono h1 hs, (listF iF 1 kv _).mono h2 hs⟩
def actF : Fam ActD := fun cs x => ⟨fun S w => ActS S w cs x, ActS.keep, ActS.mono⟩
theorem opn_imp {α : Type} {P : Program} {W : World} {t : TypeId} {F G : Fam α} {μ : α → Nat} (h : Opn P W t F μ) (hi : ∀ cs a, (F cs a).holds (Old W) W → (G cs a).holds (Old W) W) : Opn P W t G μ := fun h1 => by
  obtain ⟨a, h2, h3⟩ := h h1
  exact ⟨a, hi _ _ h2, h3⟩
variable {W : World}
theorem oJ : Opn Tryd.prog W T.int iF fun _ => 1 := opn_imp oI fun cs a h => h.1
theorem opn_Act : Opn Tryd.prog W T.isthmuslaw04_Act actF fun x => max (max (x.name.length + 1) (x.now.length + 1)) (max (x.data.length + 1) (x.keep.length + 1)) := by
  intro H enc fuel cs x h
  obtain ⟨xs, n, _, rfl, hl, hx, hf⟩ := DataW.trod_struct (isSt.eq (P := Tryd.prog) (t := T.isthmuslaw04_Act) (by kernel_rfl)) h
  obtain ⟨a0, h0, _⟩ := fld oI (i := 0) (off := 0) (by kernel_rfl) hx hf cI
  obtain ⟨a1, h1, _⟩ := fld oI (i := 1) (off := 1) (by kernel_rfl) hx hf cI
  obtain ⟨a2, h2, b2⟩ := fld oS (i := 2) (off := 2) (by kernel_rfl) hx hf (sz := 1) (by kernel_rfl)
  obtain ⟨a3, h3, b3⟩ := fld oS (i := 3) (off := 3) (by kernel_rfl) hx hf (sz := 1) (by kernel_rfl)
  obtain ⟨a4, ⟨dv, h4, h5⟩, b4⟩ := fld oB (i := 4) (off := 4) (by kernel_rfl) hx hf (sz := 1) (by kernel_rfl)
  obtain ⟨a5, ⟨kv, h6, h7⟩, b5⟩ := fld (opn_list (T := T.sl_int) (by kernel_rfl) oJ (sz := 1) (by kernel_rfl) (by decide)) (i := 5) (off := 5) (by kernel_rfl) hx hf (sz := 1) (by kernel_rfl)
  have he : cs.drop 6 = [] := List.drop_eq_nil_of_le (Nat.le_of_eq (hl.trans (by kernel_rfl)))
  have e := piece h0.1 (piece h1.1 (piece h2.1 (piece h3.1 (piece h4 (piece h6 he (by omega)) (by omega)) (by omega)) (by omega)) (by omega)) (by omega)
  refine ⟨⟨a0, a1, a2, a3, a4, a5⟩, ⟨dv, kv, by simpa [act4C] using e, ⟨⟨h0.2, h1.2⟩, h2.2, h3.2⟩, h5, h7⟩, ?_⟩
  have e5 : (a5.map fun _ : Int => 1).sum = a5.length := by
    clear h7 h6 b5 e
    induction a5 with
    | nil => rfl
    | cons x r ih => simp only [List.map_cons, List.sum_cons, List.length_cons, ih]; omega
  simp only [Rows.uptoBulk]
  exact Nat.le_succ_of_le (Nat.max_le.2 ⟨Nat.max_le.2 ⟨b2, b3⟩, Nat.max_le.2 ⟨b4, e5 ▸ b5⟩⟩)
end Go.Proofs.YtiaiglgfangedaaDoor
