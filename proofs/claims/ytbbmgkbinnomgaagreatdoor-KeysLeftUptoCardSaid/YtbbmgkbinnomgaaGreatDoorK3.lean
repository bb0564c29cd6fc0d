/- From 'den' to a call. -/
import Derived.Test.YtbbmgkbinnomgaaGreatDoorK2
set_option linter.unusedVariables false
set_option linter.unusedSimpArgs false
set_option linter.unusedSectionVars false
namespace Go.Isk
open Go
section
variable {P : Program}
def nth (l : List Value) (i : Nat) : Value :=
  match l with
  | [] => undef
  | v :: r => match i with
    | 0 => v
    | i + 1 => nth r i
theorem nth_getD (l : List Value) (i : Nat) : nth l i = (l[i]?).getD undef := by
  induction l generalizing i with
  | nil => simp [nth]
  | cons v r ih => cases i with
    | zero => simp [nth]
    | succ i => simp [nth, ih]
structure rc (P : Program) (t : TypeId) (p : Value) (w : World) (k : Value → Prop) : Prop where
  out : ∃ v, (do loadVar t (← asAddr p) : Sem Value).run P w = .ok v w ∧ k v
def retL (P : Program) : List ResultVar → Env → World → (List Value → Prop) → Prop
  | [], _, _, k => k []
  | .tmp t :: r, E, w, k => retL P r E w fun vs => k (E t :: vs)
  | .cell a t :: r, E, w, k => rc P t (E a) w fun v => retL P r E w fun vs => k (v :: vs)
def oneV (l : List Value) : Value :=
  match l with
  | [v] => v
  | l => .tuple l.toArray
theorem retL_run (rs : List ResultVar) (tmps : Array Value) (w : World) (k : List Value → Prop) (h : retL P rs (fun i => tmps.getD i undef) w k) :
    ∃ vs, (rs.mapM fun | .tmp t => pure (tmps.getD t undef) | .cell a t => do loadVar t (← asAddr (tmps.getD a undef)) : Sem (List Value)).run P w = .ok vs w ∧ k vs := by
  induction rs generalizing k with
  | nil => exact ⟨[], rfl, h⟩
  | cons r rs ih =>
    cases r with
    | tmp t =>
      obtain ⟨vs, h1, h2⟩ := ih _ h
      exact ⟨_ :: vs, by rw [List.mapM_cons]; simp only [Sem.run_bind, Sem.run_pure, Result.andThen_ok, h1], h2⟩
    | cell a t =>
      obtain ⟨v, h0, h⟩ := h.out
      obtain ⟨vs, h1, h2⟩ := ih _ h
      refine ⟨v :: vs, ?_, h2⟩
      rw [List.mapM_cons]
      simp only [Sem.run_bind] at h0 ⊢
      rw [h0]
      simp only [Result.andThen_ok, h1, Sem.run_pure]
theorem calls_of_den {f : FuncId} {fn : Func} {c : Code} {H : Hints} {args : List Value} {w : World} {k : Value → World → Prop} (hmx : P.follows .mixedOrders = true)
    (hf : P.funcs[f]? = some fn) (hb : fn.body = some c) (hc : chk H c = true) (hs : Nat.ble args.length fn.ntmps = true)
    (h : den P fn.ntmps H c (nth args) w (fun E w => retL P fn.results.toList E w fun vs => k (oneV vs) w) (fun _ _ _ => False) (fun E w => retL P fn.results.toList E w fun vs => k (oneV vs) w)) : C P f args.toArray w k := by
  refine ⟨calls_of_wp hf hb ?_⟩
  have hlen : args.length ≤ fn.ntmps := Nat.le_of_ble_eq_true hs
  have hsz : (args.toArray ++ Array.replicate (fn.ntmps - args.toArray.size) undef).size = fn.ntmps := by simp; omega
  have he : Act.env { tmps := args.toArray ++ Array.replicate (fn.ntmps - args.toArray.size) undef, defers := [] } = nth args := by
    funext i
    simp only [Act.env, nth_getD, Array.getD_eq_getD_getElem?, Array.getElem?_append, List.size_toArray]
    split
    · rename_i hi; simp
    · rename_i hi
      rw [Array.getElem?_replicate, List.getElem?_eq_none (by omega)]
      split <;> rfl
  have key := den_wp (n := fn.ntmps) H hmx c { tmps := args.toArray ++ Array.replicate (fn.ntmps - args.toArray.size) undef, defers := [] } w _ _ _ hsz rfl hc (by rw [he]; exact h)
  refine wp_mono key fun e a w' q => ?_
  have fin : a.defers = [] → retL P fn.results.toList (Act.env a) w' (fun vs => k (oneV vs) w') → a.defers = [] ∧ ∃ v, (results fn a.tmps).run P w' = .ok v w' ∧ ∃ u, Ending.returned v = .returned u ∧ k u w' := by
    intro hd hr
    refine ⟨hd, ?_⟩
    obtain ⟨vs, h1, h2⟩ := retL_run fn.results.toList a.tmps w' _ hr
    refine ⟨oneV vs, ?_, oneV vs, rfl, h2⟩
    unfold results
    rw [Array.mapM_eq_mapM_toList]
    simp only [Sem.run_bind, Sem.run_map]
    erw [h1]
    simp only [Result.andThen_ok, Sem.run_pure]
    refine congrArg (fun x => Result.ok x w') ?_
    unfold oneV
    match vs with
    | [] => rfl
    | [v] => rfl
    | a :: b :: r => simp
  cases e with
  | normal => exact fin q.2.1 q.2.2.2
  | ret => exact fin q.2.1 q.2.2.2
  | exit i => exact q.2.2.2.elim
  | _ => exact q.elim
theorem den_calls {f : FuncId} {fn : Func} {H : Hints} {args : List Value} {w : World} {k : Value → World → Prop} {A : Prop} (hmx : P.follows .mixedOrders = true)
    (hf : P.funcs[f]? = some fn) (hc : (fn.body.isSome && chk H (fn.body.getD .skip)) = true) (hs : Nat.ble args.length fn.ntmps = true)
    (he : A = den P fn.ntmps H (fn.body.getD .skip) (nth args) w (fun E w => retL P fn.results.toList E w fun vs => k (oneV vs) w) (fun _ _ _ => False) (fun E w => retL P fn.results.toList E w fun vs => k (oneV vs) w)) (h : A) : C P f args.toArray w k := by
  simp only [Bool.and_eq_true] at hc
  refine calls_of_den hmx hf ?_ hc.2 hs (he ▸ h)
  cases hb : fn.body with
  | none => rw [hb] at hc; cases hc.1
  | some c => rfl
end
end Go.Isk
