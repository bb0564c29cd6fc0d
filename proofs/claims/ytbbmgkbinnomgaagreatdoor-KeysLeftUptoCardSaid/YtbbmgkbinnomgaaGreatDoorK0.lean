/- A cleaner for the model's code: 'den' says what a function's code asks, without frames, regions and orders; 'calls_of_den' shows that it suffices. -/
import Derived.WalkKit
import Derived.OrdersHeld
set_option linter.unusedVariables false
set_option linter.unusedSimpArgs false
set_option linter.unusedSectionVars false
namespace Go.Isk
open Go

abbrev Env := Nat → Value
def pt (n : Nat) (E : Env) (d : Option Nat) (v : Value) : Env :=
  match d with
  | none => E
  | some d => bif Nat.blt d n then (fun i => bif Nat.beq i d then v else E i) else E
def ev (E : Env) : Operand → Value
  | .tmp t => E t
  | .const v => v
  | .global g => .pointer (some ⟨g, 0, none⟩)
  | .func f => .func (.func f) #[] #[]
def gv (n : Nat) (ops : Array Oper) (E : Env) (j : Nat) : Value :=
  match (ops[j]?).bind (·.dst) with
  | some d => bif Nat.blt d n then E d else undef
  | none => undef

def lmap {α β : Type} (f : α → β) : List α → List β
  | [] => []
  | x :: r => f x :: lmap f r
def amap {α β : Type} (f : α → β) (xs : Array α) : Array β := (lmap f xs.toList).toArray
theorem lmap_eq {α β : Type} (f : α → β) (l : List α) : lmap f l = l.map f := by
  induction l with
  | nil => rfl
  | cons x r ih => simp [lmap, ih]
theorem amap_eq {α β : Type} (f : α → β) (xs : Array α) : amap f xs = xs.map f := by
  unfold amap; rw [lmap_eq]; apply Array.toList_inj.1; simp

/-- the call returns, and what it returns meets k -/
structure C (P : Program) (f : FuncId) (args : Array Value) (w : World) (k : Value → World → Prop) : Prop where
  out : Calls P f args w fun e w' => ∃ v, e = .returned v ∧ k v w'
theorem C.mono {P : Program} {f : FuncId} {args : Array Value} {w : World} {k k' : Value → World → Prop} (h : C P f args w k) (hk : ∀ v w', k v w' → k' v w') : C P f args w k' :=
  ⟨Calls.mono h.out fun _ _ ⟨v, e, q⟩ => ⟨v, e, hk _ _ q⟩⟩

def thenR (r : Result Value) (k : Value → World → Prop) : Prop :=
  match r with
  | .ok v w => k v w
  | .halt _ _ => False
def thenU (r : Result Unit) (k : Value → World → Prop) : Prop :=
  match r with
  | .ok _ w => k undef w
  | .halt _ _ => False
def thenN (P : Program) (r : Result Next) (k : Value → World → Prop) : Prop :=
  match r with
  | .ok (.value v) w => k v w
  | .ok .skip w => k undef w
  | .ok (.enter f args) w => C P f args w k
  | _ => False
structure o1 (P : Program) (s : Sem Value) (w : World) (k : Value → World → Prop) : Prop where
  out : thenR (s.run P w) k
/-- an operation with a law of its own -/
structure ob (P : Program) (s : Unit → Sem Value) (w : World) (k : Value → World → Prop) : Prop where
  out : thenR ((s ()).run P w) k
structure o0 (P : Program) (s : Sem Unit) (w : World) (k : Value → World → Prop) : Prop where
  out : thenU (s.run P w) k
structure oN (P : Program) (s : Sem Next) (w : World) (k : Value → World → Prop) : Prop where
  out : thenN P (s.run P w) k
def bodied (P : Program) (f : FuncId) : Bool :=
  match P.funcs[f]? with
  | some fn => fn.body.isSome && !(fn.name == "runtime.NumGoroutine")
  | none => false
def cf (P : Program) (f : FuncId) (args : Array Value) (w : World) (k : Value → World → Prop) : Prop := bif bodied P f then C P f args w k else oN P (callFunc f args) w k

def bin (op : BinOp) (t : TypeId) (x y : Operand) (a b : Value) : Sem Value := do eqGuard op t x y a b; binOp op t a b
/-- the operations that leave a value and are no call -/
def opV (ρ : Operand → Value) (o : Oper) : Option (Sem Value) :=
  match o.op with
  | .alloc elem => some (Instr.alloc elem true (.tuple #[]))
  | .box elem x => some (Instr.box elem (ρ x))
  | .build t parts => some (Instr.build t (amap (fun (i, x) => (i, ρ x)) parts))
  | .buildSlice t len parts => some (Instr.buildSlice t len (amap (fun (i, x) => (i, ρ x)) parts))
  | .load t a => some (Instr.loadAt t (ρ a))
  | .binOp op t x y _ => some (bin op t x y (ρ x) (ρ y))
  | .unOp op _ x => some (Op.unary op (ρ x))
  | .convert src dst x => some (convert src dst (ρ x))
  | .makeInterface t x => some (Instr.makeInterface t (ρ x))
  | .makeFunc fn first captured => some (Instr.makeFunc fn (amap ρ first) (amap ρ captured))
  | .makeMap t r => some (Instr.makeMap t (r.map ρ))
  | .makeSlice t l c => some (Instr.makeSlice t (ρ l) (ρ c))
  | .slice t x lo hi mx => some (Instr.sliceAt t (ρ x) (lo.map ρ) (hi.map ρ) (mx.map ρ))
  | .fieldAddr s x f => some (Instr.fieldAt s (ρ x) f)
  | .field t x f => some (Instr.field t (ρ x) f)
  | .indexAddr t x i => some (Instr.indexAt t (ρ x) (ρ i))
  | .index t x i => some (Instr.index t (ρ x) (ρ i))
  | .lookup t x i ok => some (Instr.lookup t (ρ x) (ρ i) ok)
  | .mapEntry t m k => some (Instr.mapEntry t (ρ m) (ρ k))
  | .range t x => some (Instr.range t (ρ x))
  | .next it s => some (Instr.next (ρ it) s o.type)
  | .entry it => some (Instr.entry (ρ it))
  | .typeAssert x t a ok => some (Instr.typeAssert (ρ x) t a ok)
  | .extract t i => some (Instr.extract (ρ t) i)
  | .sliceToArrayPointer a x => some (Instr.arrayAt a (ρ x))
  | .call c =>
    match c.callee with
    | .builtin .append => some (Builtin.append_ c.argTypes o.type (amap ρ c.args))
    | .builtin .cap => some (Builtin.cap_ c.argTypes o.type (amap ρ c.args))
    | .builtin .len => some (Builtin.len_ c.argTypes o.type (amap ρ c.args))
    | .builtin .copy => some (Builtin.copy_ c.argTypes o.type (amap ρ c.args))
    | .builtin .clear => some (Builtin.clear_ c.argTypes o.type (amap ρ c.args))
    | .builtin .delete => some (Builtin.delete_ c.argTypes o.type (amap ρ c.args))
    | .builtin .max => some (Builtin.max_ c.argTypes o.type (amap ρ c.args))
    | .builtin .min => some (Builtin.min_ c.argTypes o.type (amap ρ c.args))
    | _ => none
  | _ => none
/-- a copy, under a name of its own -/
structure mv (v : Value) (k : Value → Prop) : Prop where
  out : k v
structure pk (c a b : Value) (k : Value → Prop) : Prop where
  out : match c with
    | .bool t => k (bif t then a else b)
    | _ => False
/-- surely no nil -/
def nilOk : Value → Bool
  | .pointer (some _) => true
  | .iface _ _ => true
  | .func (.func _) _ _ => true
  | _ => false
/-- a call of a function value -/
structure cv (P : Program) (f : Value) (args : Array Value) (w : World) (k : Value → World → Prop) : Prop where
  out : thenN P ((do let d ← Deferred.ofValue f args; invoke d.target d.args : Sem Next).run P w) k
/-- a call of an interface value's method -/
structure iv (P : Program) (r : Value) (name : String) (args : Array Value) (w : World) (k : Value → World → Prop) : Prop where
  out : thenN P ((invoke (.fn (.method name) #[]) (#[r] ++ args)).run P w) k
def lawful (o : Oper) : Bool :=
  match o.op with
  | .call c => match c.callee with
    | .builtin .append | .builtin .copy | .builtin .clear | .builtin .delete => true
    | _ => false
  | _ => false
def opK (P : Program) (o : Oper) (ρ : Operand → Value) (w : World) (k : Value → World → Prop) : Prop :=
  match o.op with
  | .move x | .assign x => mv (ρ x) fun v => k v w
  | .pick c a b => pk (ρ c) (ρ a) (ρ b) fun v => k v w
  | .store t a x => o0 P (Instr.storeAt t (ρ a) (ρ x)) w k
  | .mapUpdate t m i x | .insert t m i x => o0 P (Instr.mapUpdate t (ρ m) (ρ i) (ρ x)) w k
  | .entryStore t m s x => o0 P (Instr.entryStore t (ρ m) (ρ s) (ρ x)) w k
  | .nilCheck x => nilOk (ρ x) = true ∧ mv (ρ x) fun v => k v w
  | .call c =>
    match c.callee with
    | .value (.func f) => cf P f (amap ρ c.args) w k
    | .value (.tmp t) => cv P (ρ (.tmp t)) (amap ρ c.args) w k
    | .invoke r name => iv P (ρ r) name (amap ρ c.args) w k
    | _ => match opV ρ o with
      | some s => bif lawful o then ob P (fun _ => s) w k else o1 P s w k
      | none => False
  | _ => match opV ρ o with
    | some s => o1 P s w k
    | none => False

structure gd (g : Value) (want : Bool) (A : (Value → World → Prop) → Prop) (w : World) (k : Value → World → Prop) : Prop where
  out : match g with
    | .bool b => bif b == want then A k else k undef w
    | _ => k undef w
def dOps (P : Program) (n : Nat) (ops : Array Oper) : List Oper → Env → World → (Env → World → Prop) → Prop
  | [], E, w, K => K E w
  | o :: r, E, w, K =>
    match o.guard with
    | none => opK P o (ev E) w fun v w => dOps P n ops r (pt n E o.dst v) w K
    | some (j, b) => gd (gv n ops E j) b (fun k => opK P o (ev E) w k) w fun v w => dOps P n ops r (pt n E o.dst v) w K
/-- a value that is the same in each world that meets S -/
structure tk (P : Program) (S : World → Prop) (s : Sem Value) (k : Value → Prop) : Prop where
  out : ∃ v, (∀ w, S w → s.run P w = .ok v w) ∧ k v
def tkK (P : Program) (S : World → Prop) (o : Oper) (ρ : Operand → Value) (k : Value → Prop) : Prop :=
  match o.op with
  | .move x | .assign x => mv (ρ x) k
  | .pick c a b => pk (ρ c) (ρ a) (ρ b) k
  | .nilCheck x => nilOk (ρ x) = true ∧ mv (ρ x) k
  | _ => match opV ρ o with
    | some s => tk P S s k
    | none => False
structure gdT (g : Value) (want : Bool) (A : (Value → Prop) → Prop) (k : Value → Prop) : Prop where
  out : match g with
    | .bool b => bif b == want then A k else k undef
    | _ => k undef
/-- how the operations of a region of open order come up: those that only read first; else the one that must come, or either of two -/
inductive Mv where
  | fin
  | take (i : Nat) (r : Mv)
  | force (i : Nat) (r : Mv)
  | two (i j : Nat) (a b : Mv)
  | last (i : Nat)
  | late (i : Nat) (r : Mv)
  | pure (i : Nat) (r : Mv)
  | renew (r : Mv)
def Mv.takes : Mv → Bool
  | .fin => true
  | .take _ r => r.takes
  | _ => false
def dForce (P : Program) (n : Nat) (ops : Array Oper) (S : World → Prop) (i : Nat) (E : Env) (w : World) (next : Env → World → Prop) : Prop :=
  match ops[i]? with
  | none => False
  | some o =>
    match o.guard with
    | none => opK P o (ev E) w fun v w => S w ∧ next (pt n E o.dst v) w
    | some (j, b) => gd (gv n ops E j) b (fun k => opK P o (ev E) w k) w fun v w => S w ∧ next (pt n E o.dst v) w
def dLast (P : Program) (n : Nat) (ops : Array Oper) (i : Nat) (E : Env) (w : World) (next : Env → World → Prop) : Prop :=
  match ops[i]? with
  | none => False
  | some o =>
    match o.guard with
    | none => opK P o (ev E) w fun v w => next (pt n E o.dst v) w
    | some (j, b) => gd (gv n ops E j) b (fun k => opK P o (ev E) w k) w fun v w => next (pt n E o.dst v) w
/-- what stays, chosen anew: more than before -/
structure nS (S : World → Prop) (w : World) (f : (World → Prop) → Prop) : Prop where
  out : ∃ S' : World → Prop, S' w ∧ (∀ w, S' w → S w) ∧ f S'
def dMoves (P : Program) (n : Nat) (ops : Array Oper) : (World → Prop) → Mv → Env → World → (Env → World → Prop) → Prop
  | _, .fin, E, w, K => K E w
  | S, .renew r, E, w, K => nS S w fun S => dMoves P n ops S r E w K
  | S, .take i r, E, w, K =>
    match ops[i]? with
    | none => False
    | some o =>
      match o.guard with
      | none => tkK P S o (ev E) fun v => dMoves P n ops S r (pt n E o.dst v) w K
      | some (j, b) => gdT (gv n ops E j) b (fun k => tkK P S o (ev E) k) fun v => dMoves P n ops S r (pt n E o.dst v) w K
  | S, .pure i r, E, w, K =>
    match ops[i]? with
    | none => False
    | some o =>
      match o.guard with
      | none => tkK P (fun _ => True) o (ev E) fun v => dMoves P n ops S r (pt n E o.dst v) w K
      | some (j, b) => gdT (gv n ops E j) b (fun k => tkK P (fun _ => True) o (ev E) k) fun v => dMoves P n ops S r (pt n E o.dst v) w K
  | S, .force i r, E, w, K => dForce P n ops S i E w fun E w => dMoves P n ops S r E w K
  | S, .last i, E, w, K => dLast P n ops i E w K
  | S, .late i r, E, w, K => dLast P n ops i E w fun E w => dMoves P n ops S r E w K
  | S, .two i j a b, E, w, K => dForce P n ops S i E w (fun E w => dMoves P n ops S a E w K) ∧ dForce P n ops S j E w fun E w => dMoves P n ops S b E w K
structure dr (w : World) (f : (World → Prop) → Prop) : Prop where
  out : ∃ S : World → Prop, S w ∧ f S
def dDraw (P : Program) (n : Nat) (ops : Array Oper) (ms : Mv) (E : Env) (w : World) (K : Env → World → Prop) : Prop :=
  bif ms.takes then dMoves P n ops (fun w' => w' = w.drew) ms E w.drew K
  else dr w.drew fun S => dMoves P n ops S ms E w.drew K

def lookNat (l : List (Nat × Mv)) (i : Nat) : Mv :=
  match l with
  | [] => .fin
  | (j, x) :: r => bif Nat.beq i j then x else lookNat r i
def memN (i : Nat) : List Nat → Bool
  | [] => false
  | j :: r => bif Nat.beq i j then true else memN i r
/-- a code's operations, in the text's order -/
def opsIn : Code → List Oper
  | .region _ ops _ => ops.toList
  | .seq a b => opsIn a ++ opsIn b
  | .cond _ a b => opsIn a ++ opsIn b
  | .block _ c => opsIn c
  | .loop c => opsIn c
  | .scope c => opsIn c
  | .rangeFunc _ _ a b => opsIn a ++ opsIn b
  | _ => []
def dsts (l : List Oper) : List Nat := l.filterMap (·.dst)
def mix (M : List Nat) (x E : Env) : Env := fun i => bif memN i M then x i else E i
/-- may it end without a jump? -/
def falls : Code → Bool
  | .seq a b => falls a && falls b
  | .cond _ a b => falls a || falls b
  | .block i c => falls c || exits i c
  | .loop _ => false
  | .ret | .exit _ | .goto _ | .refuse _ => false
  | _ => true
where exits (i : Nat) : Code → Bool
  | .seq a b => exits i a || exits i b
  | .cond _ a b => exits i a || exits i b
  | .block _ c => exits i c
  | .loop c => exits i c
  | .scope c => exits i c
  | .exit j => Nat.beq i j
  | _ => false
def exitsN (i : Nat) : Code → Nat
  | .seq a b => exitsN i a + exitsN i b
  | .cond _ a b => exitsN i a + exitsN i b
  | .block _ c => exitsN i c
  | .loop c => exitsN i c
  | .scope c => exitsN i c
  | .exit j => bif Nat.beq i j then 1 else 0
  | _ => 0

structure br (v : Value) (A B : Unit → Prop) : Prop where
  out : match v with
    | .bool b => bif b then A () else B ()
    | _ => False
structure jn (L : Env → List Value) (f : (List Value → World → Prop) → Prop) (g : Env → World → Prop) : Prop where
  out : ∃ J : List Value → World → Prop, f J ∧ ∀ x w, J (L x) w → g x w
structure lp (v : List Value) (w : World) (f : (List Value → World → Prop) → (List Value → World → Nat) → Prop) : Prop where
  out : ∃ I μ, I v w ∧ f I μ
structure Hints where
  moves : List (Nat × Mv)
  vars : List Nat
/-- the slots that a loop or a join carries -/
def sl (H : Hints) (M : List Nat) : List Nat := H.vars.filter fun i => memN i M

/-- 'den': K: what comes behind; X: behind a jump out of block i; R: at the return -/
def den (P : Program) (n : Nat) (H : Hints) : Code → Env → World → (Env → World → Prop) → (Nat → Env → World → Prop) → (Env → World → Prop) → Prop
  | .skip, E, w, K, _, _ => K E w
  | .region _ ops false, E, w, K, _, _ => dOps P n ops ops.toList E w K
  | .region i ops true, E, w, K, _, _ => dDraw P n ops (lookNat H.moves i) E w K
  | .seq a b, E, w, K, X, R => den P n H a E w (fun E w => den P n H b E w K X R) X R
  | .cond c a b, E, w, K, X, R =>
    bif falls a && falls b then
      jn (fun x => (sl H (dsts (opsIn a ++ opsIn b))).map x)
        (fun k => br (ev E c) (fun _ => den P n H a E w (fun E w => k ((sl H (dsts (opsIn a ++ opsIn b))).map E) w) X R) (fun _ => den P n H b E w (fun E w => k ((sl H (dsts (opsIn a ++ opsIn b))).map E) w) X R))
        (fun x w => K (mix (dsts (opsIn a ++ opsIn b)) x E) w)
    else br (ev E c) (fun _ => den P n H a E w K X R) (fun _ => den P n H b E w K X R)
  | .block i c, E, w, K, X, R =>
    bif Nat.blt 1 (exitsN i c + (bif falls c then 1 else 0)) then
      jn (fun x => (sl H (dsts (opsIn c))).map x)
        (fun k => den P n H c E w (fun E w => k ((sl H (dsts (opsIn c))).map E) w) (fun j E w => bif Nat.beq j i then k ((sl H (dsts (opsIn c))).map E) w else X j E w) R)
        (fun x w => K (mix (dsts (opsIn c)) x E) w)
    else den P n H c E w K (fun j E w => bif Nat.beq j i then K E w else X j E w) R
  | .loop c, E, w, _, X, R =>
    lp ((sl H (dsts (opsIn c))).map E) w fun I μ => ∀ (x : Env) (w : World), I ((sl H (dsts (opsIn c))).map x) w →
      den P n H c (mix (dsts (opsIn c)) x E) w (fun E' w' => I ((sl H (dsts (opsIn c))).map E') w' ∧ μ ((sl H (dsts (opsIn c))).map E') w' < μ ((sl H (dsts (opsIn c))).map x) w) X R
  | .exit i, E, w, _, X, _ => X i E w
  | .ret, E, w, _, _, R => R E w
  | _, _, _, _, _, _ => False
end Go.Isk
