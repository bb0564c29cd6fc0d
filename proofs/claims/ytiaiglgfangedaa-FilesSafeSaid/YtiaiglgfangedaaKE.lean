/- Errors, and errors.As at a number of the program's own. -/
import Derived.Test.YtiaiglgfangedaaSL
import Derived.Stop.Asserts
import Derived.LaidEql
set_option linter.unusedVariables false
set_option linter.unusedSimpArgs false
set_option linter.unusedSectionVars false
namespace Go.Isk
open Go Go.RowKit Go.Extern
section
variable {P : Program}
def assT (P : Program) (t a : Nat) (has : Bool) : Bool := match P.underlying a, P.info? t, P.info? a with
  | some (.interface want), some i, some j => (lacking want i.methods).isEmpty == has && (match j.zero with | some .nilIface => true | _ => false)
  | _, _, _ => false
end
end Go.Isk
namespace Go.Proofs.Ytiaiglgfangedaa
open Go Go.Isk Go.RowKit Go.Extern
/-- the handle of a type -/
abbrev hdl (t : Nat) : Value := .pointer (some ⟨NG, t, none⟩)
abbrev EN : Nat := T.api_Errno
/-- an error, d times wrapped, of number n -/
def ErrD (S : Nat → Prop) (w : World) : Nat → Value → Int → Prop
  | 0, v, n => (v = .nilIface ∧ n = 0) ∨ (v = .iface EN (.int .i64 n) ∧ n ≠ 0 ∧ -9223372036854775808 ≤ n ∧ n ≤ 9223372036854775807)
  | d + 1, v, n => ∃ g s v', v = .iface T.p_api_Fault (.pointer (some ⟨g, 0, none⟩)) ∧ n ≠ 0 ∧ (rngF g 0 [str s, v']).holds S w ∧ ErrD S w d v' n
theorem ErrD.keep {S D : Nat → Prop} {w w' : World} : ∀ {d : Nat} {v : Value} {n : Int}, ErrD S w d v n → Upd D w w' → (∀ k, S k → ¬ D k) → ErrD S w' d v n
  | 0, _, _, h, _, _ => h
  | _ + 1, _, _, ⟨g, s, v', e, h0, h1, h2⟩, hu, hd => ⟨g, s, v', e, h0, (rngF g 0 _).keep h1 hu hd, ErrD.keep h2 hu hd⟩
theorem ErrD.mono {S S' : Nat → Prop} {w : World} : ∀ {d : Nat} {v : Value} {n : Int}, ErrD S w d v n → (∀ k, S k → k < w.heap.size → S' k) → ErrD S' w d v n
  | 0, _, _, h, _ => h
  | _ + 1, _, _, ⟨g, s, v', e, h0, h1, h2⟩, hs => ⟨g, s, v', e, h0, (rngF g 0 _).mono h1 hs, ErrD.mono h2 hs⟩
def errF (v : Value) (n : Int) : Fact := ⟨fun S w => ∃ d, ErrD S w d v n, fun ⟨d, h⟩ hu hd => ⟨d, h.keep hu hd⟩, fun ⟨d, h⟩ hs => ⟨d, h.mono hs⟩⟩
def errDF (d : Nat) (v : Value) (n : Int) : Fact := ⟨fun S w => ErrD S w d v n, fun h hu hd => h.keep hu hd, fun h hs => h.mono hs⟩
open Classical in
noncomputable def errDepth (w : World) (v : Value) : Nat := if h : ∃ d n, ErrD (fun _ => True) w d v n then h.choose else 0
section
variable {b : Base} {w : World} {L R : List It} {v : Value} {n : Int} {t : Nat}
theorem errF_nil (h : Sep b w L) : Sep b w ((errF .nilIface 0).it :: L) := h.fact ⟨0, .inl ⟨rfl, rfl⟩⟩
end
end Go.Proofs.Ytiaiglgfangedaa
