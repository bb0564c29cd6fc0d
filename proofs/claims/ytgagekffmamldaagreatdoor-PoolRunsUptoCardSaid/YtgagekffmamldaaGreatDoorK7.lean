/- Rows of things; boxes beside a writer. -/
import Derived.Test.YtgagekffmamldaaGreatDoorK6
import Derived.Test.YtgagekffmamldaaGreatDoorM3
set_option linter.unusedVariables false
set_option linter.unusedSimpArgs false
set_option linter.unusedSectionVars false
namespace Go.Isk
open Go Go.RowKit
section
variable {P : Program} {w w' : World} {S : Nat → Prop} {α : Type}
/-- a slice of things of sz cells each; R tells what the cells of one are -/
def ListIs (R : List Value → α → Prop) (B : Nat) (w : World) (sv : Value) (sz : Nat) (ls : List α) : Prop :=
  ∃ xss : List (List Value), xss.length = ls.length ∧ (∀ (i : Nat) (h : i < ls.length) (x : List Value), xss[i]? = some x → R x ls[i]) ∧ (∀ x ∈ xss, x.length = sz) ∧ SlB B w sv ls.length sz xss.flatten
variable {R R' : List Value → α → Prop} {B sz : Nat} {sv : Value} {ls : List α}
theorem ListIs.keep (h : ListIs R B w sv sz ls) (hu : Upd S w w') (hs : ∀ k, S k → B ≤ k) (hR : ∀ x a, R x a → R' x a) : ListIs R' B w' sv sz ls := by
  obtain ⟨xss, h0, h1, h2, h3⟩ := h
  exact ⟨xss, h0, fun i hi x hx => hR _ _ (h1 i hi x hx), h2, h3.keep hu hs⟩
theorem ListIs.len (h : ListIs R B w sv sz ls) : ∃ A c, sv = .slice A ls.length c := by
  obtain ⟨xss, h0, h1, h2, ⟨A, c, rfl, _⟩, _⟩ := h
  exact ⟨A, c, rfl⟩
theorem ListIs.nil : ListIs R B w (.slice none 0 0) sz [] := ⟨[], rfl, fun i h => by simp at h, fun _ h => by simp at h, SlB.nil sz⟩
/-- a variable made and set at once -/
def zlenT (P : Program) (t n : Nat) : Bool := match P.info? t with
  | some i => (match i.zero with | some z => Nat.beq z.cells.size n | none => false) && Nat.beq i.size n
  | none => false
theorem zlenT.spec {t n : Nat} (h : zlenT P t n = true) : ∃ zs, zeroT P t zs ∧ zs.length = n ∧ (P.info? t).map (·.size) = some n := by
  unfold zlenT at h
  split at h
  · rename_i i hi
    simp only [Bool.and_eq_true] at h
    obtain ⟨h1, h2⟩ := h
    split at h1
    · rename_i z hz
      exact ⟨z.cells.toList, ⟨i, z, hi, hz, by simp⟩, by simpa using Nat.eq_of_beq_eq_true h1, by simp [hi, Nat.eq_of_beq_eq_true h2]⟩
    · cases h1
  · cases h
theorem cv_f {f : FuncId} {args cap : Array Value} {k : Value → World → Prop} (hb : bodied P f = true) (h : C P f (cap ++ args) w k) : cv P (.func (.func f) cap #[]) args w k := by
  refine stv fun k' hk => ?_
  have e : ((do let d ← Deferred.ofValue (.func (.func f) cap #[]) args; invoke d.target d.args : Sem Next).run P w) = (callFunc f (cap ++ args)).run P w := by
    simp [Deferred.ofValue, invoke]
  rw [e, run_bodied hb]
  exact h.mono hk
theorem load_blk {t n g : Nat} {cs : List Value} {k : Value → World → Prop} (ht : aggT P t n = true) (hb : Blk w g t cs) (hn : cs.length = n) (hk : k (.agg cs.toArray) w) : o1 P (Instr.loadAt t (.pointer (some ⟨g, 0, none⟩))) w k :=
  st_of (load_agg ht (hb.range fun j v hv => by rwa [Nat.zero_add]) hn) hk
end
end Go.Isk
