/- Numbers as bytes: plain mathematics. -/
set_option linter.unusedVariables false
set_option linter.unusedSimpArgs false
set_option linter.unusedSectionVars false
namespace Go.Isk
/-- a number from 0 on, seven bits a byte -/
def encU (n : Nat) : List UInt8 := if h : n < 128 then [UInt8.ofNat n] else UInt8.ofNat (n % 128 + 128) :: encU (n / 128)
termination_by n
decreasing_by omega
/-- a number of either sign, as one from 0 on -/
def zig (n : Int) : Nat := if n < 0 then (2 * (-(n + 1)) + 1).toNat else (2 * n).toNat
end Go.Isk
set_option linter.unusedVariables false
set_option linter.unusedSimpArgs false
set_option linter.unusedSectionVars false
namespace Go.Isk
abbrev Bytes := List UInt8
def I64 (n : Int) : Prop := -9223372036854775808 ≤ n ∧ n ≤ 9223372036854775807
instance (n : Int) : Decidable (I64 n) := inferInstanceAs (Decidable (_ ∧ _))
def encI (n : Int) : Bytes := encU (zig n)
def encB (l : Bytes) : Bytes := encU l.length ++ l
def encL {α : Type} (f : α → Bytes) (l : List α) : Bytes := encU l.length ++ (l.map f).flatten
structure Vote where
  kind : Int
  height : Int
  round : Int
  block : Bytes
  validator : Int
  sign : Bytes
deriving DecidableEq
structure Vote.ok (v : Vote) : Prop where
  kind : I64 v.kind
  height : I64 v.height
  round : I64 v.round
  block : v.block.length = 32
  validator : I64 v.validator
structure Commit where
  height : Int
  round : Int
  block : Bytes
  votes : List Vote
deriving DecidableEq
structure Commit.ok (c : Commit) : Prop where
  height : I64 c.height
  round : I64 c.round
  block : c.block.length = 32
structure Header where
  chain : Bytes
  height : Int
  time : Int
  last : Bytes
  app : Bytes
  txs : Bytes
  validators : Bytes
  next : Bytes
  proposer : Int
deriving DecidableEq
structure Header.ok (h : Header) : Prop where
  height : I64 h.height
  time : I64 h.time
  last : h.last.length = 32
  app : h.app.length = 32
  txs : h.txs.length = 32
  validators : h.validators.length = 32
  next : h.next.length = 32
  proposer : I64 h.proposer
structure Block where
  header : Header
  txs : List Bytes
  last : Commit
deriving DecidableEq
structure Validator where
  name : Bytes
  key : Bytes
  power : Int
deriving DecidableEq
structure Validator.ok (v : Validator) : Prop where
  key : v.key.length = 32
  power : I64 v.power
def encVote (v : Vote) : Bytes := encI v.kind ++ (encI v.height ++ (encI v.round ++ (v.block ++ (encI v.validator ++ encB v.sign))))
def encCommit (c : Commit) : Bytes := encI c.height ++ (encI c.round ++ (c.block ++ encL encVote c.votes))
def encHeader (h : Header) : Bytes := encB h.chain ++ (encI h.height ++ (encI h.time ++ (h.last ++ (h.app ++ (h.txs ++ (h.validators ++ (h.next ++ encI h.proposer)))))))
def encBlock (b : Block) : Bytes := encHeader b.header ++ (encL encB b.txs ++ encCommit b.last)
def encValidator (v : Validator) : Bytes := encB v.name ++ (v.key ++ encI v.power)
def encSet (l : List Validator) : Bytes := encL encValidator l
def voteTag : Bytes := [118, 111, 116, 101]
def encVoteBytes (chain : Bytes) (v : Vote) : Bytes := encB voteTag ++ (encB chain ++ (encI v.kind ++ (encI v.height ++ (encI v.round ++ v.block))))
/-- an element of a row -/
theorem flatten_at {α : Type} {sz : Nat} : ∀ {xss : List (List α)}, (∀ x ∈ xss, x.length = sz) → ∀ (i : Nat) (h : i < xss.length), (xss.flatten.drop (i * sz)).take sz = xss[i] := by
  intro xss
  induction xss with
  | nil => intro _ i h; simp at h
  | cons a l ih =>
    intro hl i h
    have ha := hl a (by simp)
    cases i with
    | zero => simp [List.take_append, ha, List.take_of_length_le]
    | succ i =>
      have := ih (fun x hx => hl x (by simp [hx])) i (by simpa using h)
      simp only [List.flatten_cons, List.getElem_cons_succ]
      rw [← this, List.drop_append, List.drop_of_length_le (by rw [ha, Nat.add_mul]; omega), List.nil_append]
      congr 2
      rw [ha, Nat.add_mul]; omega
end Go.Isk
