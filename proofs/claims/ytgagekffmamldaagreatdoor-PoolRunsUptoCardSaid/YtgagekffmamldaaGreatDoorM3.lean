/- Numbers as bytes: plain mathematics. -/
set_option linter.unusedVariables false
set_option linter.unusedSimpArgs false
set_option linter.unusedSectionVars false
namespace Go.Isk
/-- a number from 0 on, seven bits a byte -/
def encU (n : Nat) : List UInt8 := if h : n < 128 then [UInt8.ofNat n] else UInt8.ofNat (n % 128 + 128) :: encU (n / 128)
termination_by n
decreasing_by omega
theorem encU_small {n : Nat} (h : n < 128) : encU n = [UInt8.ofNat n] := by rw [encU, dif_pos h]
theorem encU_big {n : Nat} (h : ¬ n < 128) : encU n = UInt8.ofNat (n % 128 + 128) :: encU (n / 128) := by rw [encU, dif_neg h]
theorem encU_len : ∀ (k n : Nat), n < 128 ^ (k + 1) → (encU n).length ≤ k + 1 := by
  intro k
  induction k with
  | zero => intro n h; rw [encU_small (by simpa using h)]; simp
  | succ k ih =>
    intro n h
    by_cases hn : n < 128
    · rw [encU_small hn]; simp
    · rw [encU_big hn]
      have := ih (n / 128) (by rw [Nat.div_lt_iff_lt_mul (by decide)]; rw [Nat.pow_succ] at h; exact h)
      simp only [List.length_cons]; omega
theorem encU_len10 {n : Nat} (h : n < 18446744073709551616) : (encU n).length ≤ 10 := encU_len 9 n (Nat.lt_of_lt_of_le h (by decide))
/-- a number of either sign, as one from 0 on -/
def zig (n : Int) : Nat := if n < 0 then (2 * (-(n + 1)) + 1).toNat else (2 * n).toNat
end Go.Isk
set_option linter.unusedVariables false
set_option linter.unusedSimpArgs false
set_option linter.unusedSectionVars false
namespace Go.Isk
abbrev Bytes := List UInt8
def I64 (n : Int) : Prop := -9223372036854775808 ≤ n ∧ n ≤ 9223372036854775807
instance (n : Int) : Decidable (I64 n) := inferInstanceAs (Decidable (_ ∧ _))
theorem zig_lt {n : Int} (h : I64 n) : zig n < 18446744073709551616 := by
  obtain ⟨h1, h2⟩ := h
  unfold zig; split <;> omega
def encI (n : Int) : Bytes := encU (zig n)
def encB (l : Bytes) : Bytes := encU l.length ++ l
def encL {α : Type} (f : α → Bytes) (l : List α) : Bytes := encU l.length ++ (l.map f).flatten
theorem encI_len {n : Int} (h : I64 n) : (encI n).length ≤ 10 := encU_len10 (zig_lt h)
structure Vote where
  kind : Int
  height : Int
  round : Int
  block : Bytes
  validator : Int
  sign : Bytes
deriving DecidableEq
structure Vote.ok (v : Vote) : Prop where
  kind : I64 v.kind
  height : I64 v.height
  round : I64 v.round
  block : v.block.length = 32
  validator : I64 v.validator
structure Commit where
  height : Int
  round : Int
  block : Bytes
  votes : List Vote
deriving DecidableEq
structure Commit.ok (c : Commit) : Prop where
  height : I64 c.height
  round : I64 c.round
  block : c.block.length = 32
structure Header where
  chain : Bytes
  height : Int
  time : Int
  last : Bytes
  app : Bytes
  txs : Bytes
  validators : Bytes
  next : Bytes
  proposer : Int
deriving DecidableEq
structure Header.ok (h : Header) : Prop where
  height : I64 h.height
  time : I64 h.time
  last : h.last.length = 32
  app : h.app.length = 32
  txs : h.txs.length = 32
  validators : h.validators.length = 32
  next : h.next.length = 32
  proposer : I64 h.proposer
structure Block where
  header : Header
  txs : List Bytes
  last : Commit
deriving DecidableEq
structure Validator where
  name : Bytes
  key : Bytes
  power : Int
deriving DecidableEq
structure Validator.ok (v : Validator) : Prop where
  key : v.key.length = 32
  power : I64 v.power
def encVote (v : Vote) : Bytes := encI v.kind ++ (encI v.height ++ (encI v.round ++ (v.block ++ (encI v.validator ++ encB v.sign))))
def encCommit (c : Commit) : Bytes := encI c.height ++ (encI c.round ++ (c.block ++ encL encVote c.votes))
def encHeader (h : Header) : Bytes := encB h.chain ++ (encI h.height ++ (encI h.time ++ (h.last ++ (h.app ++ (h.txs ++ (h.validators ++ (h.next ++ encI h.proposer)))))))
def encBlock (b : Block) : Bytes := encHeader b.header ++ (encL encB b.txs ++ encCommit b.last)
def encValidator (v : Validator) : Bytes := encB v.name ++ (v.key ++ encI v.power)
def encSet (l : List Validator) : Bytes := encL encValidator l
def voteTag : Bytes := [118, 111, 116, 101]
def encVoteBytes (chain : Bytes) (v : Vote) : Bytes := encB voteTag ++ (encB chain ++ (encI v.kind ++ (encI v.height ++ (encI v.round ++ v.block))))
/-- the length of the bytes of a list, from what each has -/
theorem flat_len {α : Type} (f : α → Bytes) (μ : α → Nat) : ∀ {l : List α}, (∀ x ∈ l, (f x).length ≤ μ x) → (l.map f).flatten.length ≤ (l.map μ).sum := by
  intro l
  induction l with
  | nil => intro _; simp
  | cons a l ih =>
    intro h
    have h1 := h a (by simp)
    have h2 := ih fun x hx => h x (by simp [hx])
    simp only [List.map_cons, List.flatten_cons, List.length_append, List.sum_cons]
    omega
/-- an element of a row -/
theorem flatten_at {α : Type} {sz : Nat} : ∀ {xss : List (List α)}, (∀ x ∈ xss, x.length = sz) → ∀ (i : Nat) (h : i < xss.length), (xss.flatten.drop (i * sz)).take sz = xss[i] := by
  intro xss
  induction xss with
  | nil => intro _ i h; simp at h
  | cons a l ih =>
    intro hl i h
    have ha := hl a (by simp)
    cases i with
    | zero => simp [List.take_append, ha, List.take_of_length_le]
    | succ i =>
      have := ih (fun x hx => hl x (by simp [hx])) i (by simpa using h)
      simp only [List.flatten_cons, List.getElem_cons_succ]
      rw [← this, List.drop_append, List.drop_of_length_le (by rw [ha, Nat.add_mul]; omega), List.nil_append]
      congr 2
      rw [ha, Nat.add_mul]; omega
end Go.Isk
set_option linter.unusedVariables false
set_option linter.unusedSimpArgs false
set_option linter.unusedSectionVars false
namespace Go.Isk
def val : Bytes → Nat
  | [] => 0
  | c :: r => c.toNat % 128 + 128 * val r
abbrev big (c : UInt8) : Bool := decide (128 ≤ c.toNat)
def decU (b : Bytes) : Option (Nat × Bytes) :=
  match b.drop (b.takeWhile big).length with
  | [] => none
  | c :: r => if 9 < (b.takeWhile big).length ∨ ((b.takeWhile big).length = 9 ∧ 1 < c.toNat) ∨ (0 < (b.takeWhile big).length ∧ c.toNat = 0) then none else some (val (b.takeWhile big ++ [c]), r)
def Bigs (b : Bytes) (k : Nat) : Prop := ∀ (j : Nat) (h : j < b.length), j < k → 128 ≤ b[j].toNat
abbrev Rdr := Option Bytes
def rU (most : Nat) : Rdr → Rdr × Nat
  | none => (none, 0)
  | some b => match decU b with
    | none => (none, 0)
    | some (n, r) => if most < n then (none, 0) else (some r, n)
def unzig (n : Nat) : Int := if n % 2 = 1 then -((n / 2 : Nat) : Int) - 1 else ((n / 2 : Nat) : Int)
def all64 : Nat := 18446744073709551615
def rI (s : Rdr) : Rdr × Int := let (s', n) := rU all64 s; (s', unzig n)
def rC (most : Nat) (s : Rdr) : Rdr × Nat := match rU most s with
  | (none, _) => (none, 0)
  | (some r, n) => if r.length < n then (none, 0) else (some r, n)
def rT (n : Nat) : Rdr → Rdr × Bytes
  | none => (none, [])
  | some b => if b.length < n then (none, []) else (some (b.drop n), b.take n)
def rB (most : Nat) (s : Rdr) : Rdr × Bytes := match rU all64 s with
  | (none, _) => (none, [])
  | (some r, n) => if most < n ∨ r.length < n then (none, []) else (some (r.drop n), r.take n)
def zero32 : Bytes := List.replicate 32 0
def rH (s : Rdr) : Rdr × Bytes := match rT 32 s with
  | (none, _) => (none, zero32)
  | (some r, b) => (some r, b)
def rdLen : Rdr → Nat
  | none => 0
  | some b => b.length
end Go.Isk
set_option linter.unusedVariables false
set_option linter.unusedSimpArgs false
set_option linter.unusedSectionVars false
namespace Go.Isk
def gVote (s : Rdr) : Rdr × Vote :=
  let a := rI s; let b := rI a.1; let c := rI b.1; let d := rH c.1; let e := rI d.1; let f := rB 65536 e.1
  (f.1, ⟨a.2, b.2, c.2, d.2, e.2, f.2⟩)
def gList {α : Type} (g : Rdr → Rdr × α) : Nat → Rdr → Rdr × List α
  | 0, s => (s, [])
  | n + 1, s => let a := gList g n s; let b := g a.1; (b.1, a.2 ++ [b.2])
def gCommit (s : Rdr) : Rdr × Commit :=
  let a := rI s; let b := rI a.1; let c := rH b.1; let d := rC 32 c.1; let e := gList gVote d.2 d.1
  (e.1, ⟨a.2, b.2, c.2, e.2⟩)
def gHeader (s : Rdr) : Rdr × Header :=
  let a := rB 64 s; let b := rI a.1; let c := rI b.1; let d := rH c.1; let e := rH d.1; let f := rH e.1; let g := rH f.1; let h := rH g.1; let i := rI h.1
  (i.1, ⟨a.2, b.2, c.2, d.2, e.2, f.2, g.2, h.2, i.2⟩)
def gBlock (s : Rdr) : Rdr × Block :=
  let a := gHeader s; let b := rC 64 a.1; let c := gList (rB 65536) b.2 b.1; let d := gCommit c.1
  (d.1, ⟨a.2, c.2, d.2⟩)
def gVal (s : Rdr) : Rdr × Validator :=
  let a := rB 64 s; let b := rH a.1; let c := rI b.1
  (c.1, ⟨a.2, b.2, c.2⟩)
def gSet (s : Rdr) : Rdr × List Validator := let a := rC 32 s; gList gVal a.2 a.1
/-- the thing that is all of some bytes -/
def dec {α : Type} (g : Rdr → Rdr × α) (b : Bytes) : Option α := match g (some b) with
  | (some [], x) => some x
  | _ => none
def noVote : Vote := ⟨0, 0, 0, zero32, 0, []⟩
def noCommit : Commit := ⟨0, 0, zero32, []⟩
def noHeader : Header := ⟨[], 0, 0, zero32, zero32, zero32, zero32, zero32, 0⟩
def noBlock : Block := ⟨noHeader, [], noCommit⟩
end Go.Isk
