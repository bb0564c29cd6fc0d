/- What comes in, as things. -/
import Derived.Test.YtiaiglgfangedaaDoorKT
import Derived.Test.YtiaiglgfangedaaDoorKO
import Derived.Test.YtiaiglgfangedaaDoorRows
set_option linter.unusedVariables false
set_option linter.unusedSimpArgs false
set_option linter.unusedSectionVars false
namespace Go.Proofs.YtiaiglgfangedaaDoor
open Go Go.Isk Go.RowKit Go.ChangeShapes Go.WideShapes Go.ChangeAt
theorem bulk_pos {H : Type} (d : DataW H) : 1 ≤ Rows.uptoBulk d := by
  cases d with
  | lit l => cases l <;> simp [Rows.uptoBulk]
  | nil => simp [Rows.uptoBulk]
  | ptr d => simp [Rows.uptoBulk]
  | slice elems spare => simp [Rows.uptoBulk]
  | agg parts => simp [Rows.uptoBulk]
  | iface t d => simp [Rows.uptoBulk]
  | map entries => simp [Rows.uptoBulk]
  | held h => simp [Rows.uptoBulk]
theorem bulk_len {H : Type} (l : List (DataW H)) : l.length ≤ Rows.uptoBulkAll l := by
  induction l with
  | nil => simp
  | cons x r ih => have := bulk_pos x; simp only [Rows.uptoBulkAll, List.length_cons]; omega
section
variable {α : Type} {P : Program} {W : World} {cs : List Value}
abbrev Old (W : World) : Nat → Prop := fun k => k < W.heap.size
/-- whatever reads at type t is a thing of F, and no greater than what it reads as -/
def Opn (P : Program) (W : World) (t : TypeId) (F : Fam α) (μ : α → Nat) : Prop :=
  ∀ {H : Type} {enc : TypeId × Value → H} {fuel : Nat} {cs : List Value} {x : DataW H × List MemPlace}, DataW.trod enc P W 0 (fun _ => true) true fuel t cs = some x → ∃ a, (F cs a).holds (Old W) W ∧ μ a ≤ Rows.uptoBulk x.1
def i64F : Fam Int := fun cs n => pureF (cs = [.int .i64 n] ∧ I64 n)
def strF : Fam Bytes := fun cs l => pureF (cs = [str l] ∧ l.length ≤ maxLen)
def hashF : Fam Bytes := fun cs l => pureF (cs = u8s l ∧ l.length = 32)
theorem opn_i64 {t : TypeId} (ht : P.underlying t = some (.int .i64)) : Opn P W t i64F fun _ => 1 := by
  intro H enc fuel cs x h
  obtain ⟨n, rfl, rfl, hw⟩ := DataW.trod_int ht h
  refine ⟨n, ⟨rfl, ?_⟩, bulk_pos _⟩
  simp [Lit.wf, IntKind.min, IntKind.max, IntKind.signed, IntKind.bits] at hw
  exact hw
theorem opn_bytes {T E : TypeId} (hT : P.underlying T = some (.slice E)) (hE : P.underlying E = some (.int .u8)) (hc : P.cellsOf E = 1) : Opn P W T bytesF fun l => l.length + 1 := by
  intro H enc fuel cs x h
  have hsh : ∃ v, cs = [v] ∧ ∃ a len cap, v = .slice a len cap := by
    rcases DataW.trod_slice hT h with ⟨rfl, _⟩ | ⟨a, len, cap, _, _, _, _, rfl, _⟩
    · exact ⟨_, rfl, _, _, _, rfl⟩
    · exact ⟨_, rfl, _, _, _, rfl⟩
  obtain ⟨v, rfl, a, len, cap, rfl⟩ := hsh
  obtain ⟨l, h1, h2⟩ := open_by' hT hE hc h
  refine ⟨l, ⟨_, rfl, h1⟩, ?_⟩
  rcases h2 with ⟨e, rfl⟩ | ⟨es, sp, e, he⟩
  · rw [e]; exact bulk_pos _
  · rw [e]
    show l.length + 1 ≤ _
    have := bulk_len es
    simp only [Rows.uptoBulk]
    omega
def slcF (F : Fam α) (sz : Nat) : Fam (List α) := fun cs ls => ⟨fun S w => ∃ sv, cs = [sv] ∧ (listF F sz sv ls).holds S w,
  fun ⟨sv, e, h⟩ hu hd => ⟨sv, e, (listF F sz sv ls).keep h hu hd⟩, fun ⟨sv, e, h⟩ hs => ⟨sv, e, (listF F sz sv ls).mono h hs⟩⟩
/-- a field -/
def stF (P : Program) (t : TypeId) : Array Field := match P.underlying t with | some (.struct fs) => fs | _ => #[]
def isSt (P : Program) (t : TypeId) : Bool := match P.underlying t with | some (.struct _) => true | _ => false
def isSlc (P : Program) (t : TypeId) : Bool := match P.underlying t with | some (.slice _) => true | _ => false
theorem opn_slc {H : Type} {enc : TypeId × Value → H} {t : TypeId} {F : Fam α} {μ : α → Nat} {base : Nat} {v : Value} {d : DataW H} {p : List MemPlace} (ho : Opn P W t F μ) (hst : isSlc P t = true)
    (hv : Value.okWide P W .any base t v) (h : DataW.Trod enc P W 0 (fun _ => true) true t v d p) : ∃ a, (F [v] a).holds (Old W) W ∧ μ a ≤ Rows.uptoBulk d := by
  unfold isSlc at hst
  split at hst
  · rename_i e he
    obtain ⟨a, len, cap, rfl⟩ := okWide_slice he hv
    obtain ⟨fuel, hf⟩ := h
    exact ho (x := (d, p)) (by simpa [Value.cells] using hf)
  · cases hst
def isI64 (P : Program) (t : TypeId) : Bool := match P.underlying t with | some (.int .i64) => true | _ => false
theorem opn_int {H : Type} {enc : TypeId × Value → H} {t : TypeId} {F : Fam α} {μ : α → Nat} {base : Nat} {v : Value} {d : DataW H} {p : List MemPlace} (ho : Opn P W t F μ) (hst : isI64 P t = true)
    (hv : Value.okWide P W .any base t v) (h : DataW.Trod enc P W 0 (fun _ => true) true t v d p) : ∃ a, (F [v] a).holds (Old W) W ∧ μ a ≤ Rows.uptoBulk d := by
  unfold isI64 at hst
  split at hst
  · rename_i he
    obtain ⟨n, rfl⟩ := okWide_int he hv
    obtain ⟨fuel, hf⟩ := h
    exact ho (x := (d, p)) (by simpa [Value.cells] using hf)
  · cases hst
end
set_option maxRecDepth 20000
/-! ### this program's things -/
variable {W : World}
theorem oI : Opn Tryd.prog W T.int i64F fun _ => 1 := opn_i64 (by kernel_rfl)
theorem oB : Opn Tryd.prog W T.sl_uint8 bytesF fun l => l.length + 1 := opn_bytes (E := T.uint8) (by kernel_rfl) (by kernel_rfl) (by kernel_rfl)
end Go.Proofs.YtiaiglgfangedaaDoor
