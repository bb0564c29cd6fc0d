/- Stepping: equations for the heads. -/
import Derived.Test.YtgagekffmamldaaGreatDoorK3
set_option linter.unusedVariables false
set_option linter.unusedSimpArgs false
set_option linter.unusedSectionVars false
namespace Go.Isk
open Go
section
variable {P : Program}
theorem thenR_ok {v : Value} {w : World} {k : Value → World → Prop} : thenR (.ok v w) k = k v w := rfl
theorem tk_of {S : World → Prop} {s : Sem Value} {k : Value → Prop} (v : Value) (h : ∀ w, S w → s.run P w = .ok v w) (hk : k v) : tk P S s k := ⟨v, h, hk⟩
theorem bin_run {op : BinOp} {t : TypeId} {x y : Operand} {a b : Value} {w : World} (h : (eqGuard op t x y a b).run P w = .ok () w) : (bin op t x y a b).run P w = (binOp op t a b).run P w := by
  unfold bin; simp only [Sem.run_bind, h, Result.andThen_ok]
/-- one step: what comes behind is kept out of sight -/
theorem st1 {s : Sem Value} {w : World} {k : Value → World → Prop} (h : ∀ k' : Value → World → Prop, (∀ v w', k v w' → k' v w') → thenR (s.run P w) k') : o1 P s w k := ⟨h k fun _ _ h => h⟩
theorem stv {f : Value} {args : Array Value} {w : World} {k : Value → World → Prop} (h : ∀ k' : Value → World → Prop, (∀ v w', k v w' → k' v w') → thenN P ((do let d ← Deferred.ofValue f args; invoke d.target d.args : Sem Next).run P w) k') : cv P f args w k := ⟨h k fun _ _ h => h⟩
theorem stb {s : Unit → Sem Value} {w w' : World} {v : Value} {k : Value → World → Prop} (h : (s ()).run P w = .ok v w') (hk : k v w') : ob P s w k := ⟨by rw [h]; exact hk⟩
theorem br_t {A B : Unit → Prop} (h : A ()) : br (.bool true) A B := ⟨h⟩
theorem br_f {A B : Unit → Prop} (h : B ()) : br (.bool false) A B := ⟨h⟩
theorem br_split {b : Bool} {A B : Unit → Prop} (ht : b = true → A ()) (hf : b = false → B ()) : br (.bool b) A B := by cases b; exact ⟨hf rfl⟩; exact ⟨ht rfl⟩
theorem pk_t {x y : Value} {k : Value → Prop} (h : k x) : pk (.bool true) x y k := ⟨h⟩
theorem pk_f {x y : Value} {k : Value → Prop} (h : k y) : pk (.bool false) x y k := ⟨h⟩
theorem nk_p {a : Addr} {A : Prop} (h : A) : nilOk (.pointer (some a)) = true ∧ A := ⟨rfl, h⟩
/-- a join that is walked twice -/
theorem jn_in {L : Env → List Value} {f : (List Value → World → Prop) → Prop} {g : Env → World → Prop} (h : f fun vs w => ∀ x, L x = vs → g x w) : jn L f g := ⟨_, h, fun x _ hx => hx x rfl⟩
theorem jn_by {L : Env → List Value} {f : (List Value → World → Prop) → Prop} {g : Env → World → Prop} (J : List Value → World → Prop) (h : f J) (hg : ∀ x w, J (L x) w → g x w) : jn L f g := ⟨J, h, hg⟩
theorem lp_by {v : List Value} {w : World} {f : (List Value → World → Prop) → (List Value → World → Nat) → Prop} (I : List Value → World → Prop) (μ : List Value → World → Nat) (h0 : I v w) (h : f I μ) : lp v w f := ⟨I, μ, h0, h⟩
theorem dr_by {w : World} {f : (World → Prop) → Prop} (S : World → Prop) (h0 : S w) (h : f S) : dr w f := ⟨S, h0, h⟩
theorem rc_of {t : TypeId} {p : Value} {w : World} {k : Value → Prop} (v : Value) (h : (do loadVar t (← asAddr p) : Sem Value).run P w = .ok v w) (hk : k v) : rc P t p w k := ⟨v, h, hk⟩
end
end Go.Isk
