/- Numbers as bytes: plain mathematics. -/
import Derived.Test.YtbbmgkbinnomgaaGreatDoorFT
set_option linter.unusedVariables false
set_option linter.unusedSimpArgs false
set_option linter.unusedSectionVars false
namespace Go.Isk
/-- a number from 0 on, seven bits a byte -/
def encU (n : Nat) : List UInt8 := if h : n < 128 then [UInt8.ofNat n] else UInt8.ofNat (n % 128 + 128) :: encU (n / 128)
termination_by n
decreasing_by omega
theorem encU_small {n : Nat} (h : n < 128) : encU n = [UInt8.ofNat n] := by rw [encU, dif_pos h]
theorem encU_big {n : Nat} (h : ¬ n < 128) : encU n = UInt8.ofNat (n % 128 + 128) :: encU (n / 128) := by rw [encU, dif_neg h]
theorem encU_len : ∀ (k n : Nat), n < 128 ^ (k + 1) → (encU n).length ≤ k + 1 := by
  intro k
  induction k with
  | zero => intro n h; rw [encU_small (by simpa using h)]; simp
  | succ k ih =>
    intro n h
    by_cases hn : n < 128
    · rw [encU_small hn]; simp
    · rw [encU_big hn]
      have := ih (n / 128) (by rw [Nat.div_lt_iff_lt_mul (by decide)]; rw [Nat.pow_succ] at h; exact h)
      simp only [List.length_cons]; omega
theorem encU_len10 {n : Nat} (h : n < 18446744073709551616) : (encU n).length ≤ 10 := encU_len 9 n (Nat.lt_of_lt_of_le h (by decide))
theorem encU_pos (n : Nat) : 0 < (encU n).length := by
  by_cases h : n < 128
  · rw [encU_small h]; simp
  · rw [encU_big h]; simp
/-- a number of either sign, as one from 0 on -/
def zig (n : Int) : Nat := if n < 0 then (2 * (-(n + 1)) + 1).toNat else (2 * n).toNat
end Go.Isk
set_option linter.unusedVariables false
set_option linter.unusedSimpArgs false
set_option linter.unusedSectionVars false
namespace Go.Isk
abbrev Bytes := List UInt8
def I64 (n : Int) : Prop := -9223372036854775808 ≤ n ∧ n ≤ 9223372036854775807
instance (n : Int) : Decidable (I64 n) := inferInstanceAs (Decidable (_ ∧ _))
def encI (n : Int) : Bytes := encU (zig n)
def encB (l : Bytes) : Bytes := encU l.length ++ l
def encL {α : Type} (f : α → Bytes) (l : List α) : Bytes := encU l.length ++ (l.map f).flatten
structure Vote where
  kind : Int
  height : Int
  round : Int
  block : Bytes
  validator : Int
  sign : Bytes
deriving DecidableEq
structure Vote.ok (v : Vote) : Prop where
  kind : I64 v.kind
  height : I64 v.height
  round : I64 v.round
  block : v.block.length = 32
  validator : I64 v.validator
structure Commit where
  height : Int
  round : Int
  block : Bytes
  votes : List Vote
deriving DecidableEq
structure Commit.ok (c : Commit) : Prop where
  height : I64 c.height
  round : I64 c.round
  block : c.block.length = 32
structure Header where
  chain : Bytes
  height : Int
  time : Int
  last : Bytes
  app : Bytes
  txs : Bytes
  validators : Bytes
  next : Bytes
  proposer : Int
deriving DecidableEq
structure Header.ok (h : Header) : Prop where
  height : I64 h.height
  time : I64 h.time
  last : h.last.length = 32
  app : h.app.length = 32
  txs : h.txs.length = 32
  validators : h.validators.length = 32
  next : h.next.length = 32
  proposer : I64 h.proposer
structure Block where
  header : Header
  txs : List Bytes
  last : Commit
deriving DecidableEq
structure Validator where
  name : Bytes
  key : Bytes
  power : Int
deriving DecidableEq
structure Validator.ok (v : Validator) : Prop where
  key : v.key.length = 32
  power : I64 v.power
def encVote (v : Vote) : Bytes := encI v.kind ++ (encI v.height ++ (encI v.round ++ (v.block ++ (encI v.validator ++ encB v.sign))))
def encCommit (c : Commit) : Bytes := encI c.height ++ (encI c.round ++ (c.block ++ encL encVote c.votes))
def encHeader (h : Header) : Bytes := encB h.chain ++ (encI h.height ++ (encI h.time ++ (h.last ++ (h.app ++ (h.txs ++ (h.validators ++ (h.next ++ encI h.proposer)))))))
def encBlock (b : Block) : Bytes := encHeader b.header ++ (encL encB b.txs ++ encCommit b.last)
def encValidator (v : Validator) : Bytes := encB v.name ++ (v.key ++ encI v.power)
def encSet (l : List Validator) : Bytes := encL encValidator l
def voteTag : Bytes := [118, 111, 116, 101]
def encVoteBytes (chain : Bytes) (v : Vote) : Bytes := encB voteTag ++ (encB chain ++ (encI v.kind ++ (encI v.height ++ (encI v.round ++ v.block))))
/-- an element of a row -/
theorem flatten_at {α : Type} {sz : Nat} : ∀ {xss : List (List α)}, (∀ x ∈ xss, x.length = sz) → ∀ (i : Nat) (h : i < xss.length), (xss.flatten.drop (i * sz)).take sz = xss[i] := by
  intro xss
  induction xss with
  | nil => intro _ i h; simp at h
  | cons a l ih =>
    intro hl i h
    have ha := hl a (by simp)
    cases i with
    | zero => simp [List.take_append, ha, List.take_of_length_le]
    | succ i =>
      have := ih (fun x hx => hl x (by simp [hx])) i (by simpa using h)
      simp only [List.flatten_cons, List.getElem_cons_succ]
      rw [← this, List.drop_append, List.drop_of_length_le (by rw [ha, Nat.add_mul]; omega), List.nil_append]
      congr 2
      rw [ha, Nat.add_mul]; omega
end Go.Isk
set_option linter.unusedVariables false
set_option linter.unusedSimpArgs false
set_option linter.unusedSectionVars false
namespace Go.Isk
open Go Go.RowKit
section
variable {P : Program} {w w' : World} {S : Nat → Prop} {α : Type}
/-- a slice of things of sz cells each; R tells what the cells of one are -/
def ListIs (R : List Value → α → Prop) (B : Nat) (w : World) (sv : Value) (sz : Nat) (ls : List α) : Prop :=
  ∃ xss : List (List Value), xss.length = ls.length ∧ (∀ (i : Nat) (h : i < ls.length) (x : List Value), xss[i]? = some x → R x ls[i]) ∧ (∀ x ∈ xss, x.length = sz) ∧ SlB B w sv ls.length sz xss.flatten
variable {R R' : List Value → α → Prop} {B sz : Nat} {sv : Value} {ls : List α}
theorem ListIs.keep (h : ListIs R B w sv sz ls) (hu : Upd S w w') (hs : ∀ k, S k → B ≤ k) (hR : ∀ x a, R x a → R' x a) : ListIs R' B w' sv sz ls := by
  obtain ⟨xss, h0, h1, h2, h3⟩ := h
  exact ⟨xss, h0, fun i hi x hx => hR _ _ (h1 i hi x hx), h2, h3.keep hu hs⟩
theorem ListIs.len (h : ListIs R B w sv sz ls) : ∃ A c, sv = .slice A ls.length c := by
  obtain ⟨xss, h0, h1, h2, ⟨A, c, rfl, _⟩, _⟩ := h
  exact ⟨A, c, rfl⟩
theorem ListIs.nil : ListIs R B w (.slice none 0 0) sz [] := ⟨[], rfl, fun i h => by simp at h, fun _ h => by simp at h, SlB.nil sz⟩
/-- a variable made and set at once -/
def zlenT (P : Program) (t n : Nat) : Bool := match P.info? t with
  | some i => (match i.zero with | some z => Nat.beq z.cells.size n | none => false) && Nat.beq i.size n
  | none => false
theorem zlenT.spec {t n : Nat} (h : zlenT P t n = true) : ∃ zs, zeroT P t zs ∧ zs.length = n ∧ (P.info? t).map (·.size) = some n := by
  unfold zlenT at h
  split at h
  · rename_i i hi
    simp only [Bool.and_eq_true] at h
    obtain ⟨h1, h2⟩ := h
    split at h1
    · rename_i z hz
      exact ⟨z.cells.toList, ⟨i, z, hi, hz, by simp⟩, by simpa using Nat.eq_of_beq_eq_true h1, by simp [hi, Nat.eq_of_beq_eq_true h2]⟩
    · cases h1
  · cases h
theorem cv_f {f : FuncId} {args cap : Array Value} {k : Value → World → Prop} (hb : bodied P f = true) (h : C P f (cap ++ args) w k) : cv P (.func (.func f) cap #[]) args w k := by
  refine stv fun k' hk => ?_
  have e : ((do let d ← Deferred.ofValue (.func (.func f) cap #[]) args; invoke d.target d.args : Sem Next).run P w) = (callFunc f (cap ++ args)).run P w := by
    simp [Deferred.ofValue, invoke]
  rw [e, run_bodied hb]
  exact h.mono hk
theorem load_blk {t n g : Nat} {cs : List Value} {k : Value → World → Prop} (ht : aggT P t n = true) (hb : Blk w g t cs) (hn : cs.length = n) (hk : k (.agg cs.toArray) w) : o1 P (Instr.loadAt t (.pointer (some ⟨g, 0, none⟩))) w k :=
  st_of (load_agg ht (hb.range fun j v hv => by rwa [Nat.zero_add]) hn) hk
end
end Go.Isk
set_option linter.unusedVariables false
set_option linter.unusedSimpArgs false
set_option linter.unusedSectionVars false
namespace Go.Isk
abbrev Wd := UInt32
def shlN (x : UInt32) (n : Nat) : UInt32 := UInt32.ofNat (x.toNat * 2 ^ n)
def shrN (x : UInt32) (n : Nat) : UInt32 := UInt32.ofNat (x.toNat / 2 ^ n)
def b2w (c : UInt8) : UInt32 := UInt32.ofNat c.toNat
def rotr (x : UInt32) (n : Nat) : UInt32 := shlN x (32 - n) ||| shrN x n
def shaK : List UInt32 := [
  0x428a2f98, 0x71374491, 0xb5c0fbcf, 0xe9b5dba5, 0x3956c25b, 0x59f111f1, 0x923f82a4, 0xab1c5ed5,
  0xd807aa98, 0x12835b01, 0x243185be, 0x550c7dc3, 0x72be5d74, 0x80deb1fe, 0x9bdc06a7, 0xc19bf174,
  0xe49b69c1, 0xefbe4786, 0x0fc19dc6, 0x240ca1cc, 0x2de92c6f, 0x4a7484aa, 0x5cb0a9dc, 0x76f988da,
  0x983e5152, 0xa831c66d, 0xb00327c8, 0xbf597fc7, 0xc6e00bf3, 0xd5a79147, 0x06ca6351, 0x14292967,
  0x27b70a85, 0x2e1b2138, 0x4d2c6dfc, 0x53380d13, 0x650a7354, 0x766a0abb, 0x81c2c92e, 0x92722c85,
  0xa2bfe8a1, 0xa81a664b, 0xc24b8b70, 0xc76c51a3, 0xd192e819, 0xd6990624, 0xf40e3585, 0x106aa070,
  0x19a4c116, 0x1e376c08, 0x2748774c, 0x34b0bcb5, 0x391c0cb3, 0x4ed8aa4a, 0x5b9cca4f, 0x682e6ff3,
  0x748f82ee, 0x78a5636f, 0x84c87814, 0x8cc70208, 0x90befffa, 0xa4506ceb, 0xbef9a3f7, 0xc67178f2]
def shaH0 : List UInt32 := [0x6a09e667, 0xbb67ae85, 0x3c6ef372, 0xa54ff53a, 0x510e527f, 0x9b05688c, 0x1f83d9ab, 0x5be0cd19]
def lowS (x : UInt32) : UInt32 := rotr x 7 ^^^ rotr x 18 ^^^ shrN x 3
def highS (x : UInt32) : UInt32 := rotr x 17 ^^^ rotr x 19 ^^^ shrN x 10
/-- four bytes as a word -/
def be32 (m : Bytes) (i : Nat) : UInt32 := shlN (b2w (m.getD i 0)) 24 ||| shlN (b2w (m.getD (i + 1) 0)) 16 ||| shlN (b2w (m.getD (i + 2) 0)) 8 ||| b2w (m.getD (i + 3) 0)
/-- the schedule's words -/
def schW (m : Bytes) (t : Nat) : UInt32 :=
  if t < 16 then be32 m (4 * t) else schW m (t - 16) + lowS (schW m (t - 15)) + schW m (t - 7) + highS (schW m (t - 2))
termination_by t
decreasing_by all_goals omega
theorem schW_lt {m : Bytes} {t : Nat} (h : t < 16) : schW m t = be32 m (4 * t) := by rw [schW, if_pos h]
theorem schW_ge {m : Bytes} {t : Nat} (h : ¬ t < 16) : schW m t = schW m (t - 16) + lowS (schW m (t - 15)) + schW m (t - 7) + highS (schW m (t - 2)) := by rw [schW, if_neg h]
structure S8 where
  a : UInt32
  c : UInt32
  d : UInt32
  e : UInt32
  f : UInt32
  g : UInt32
  h : UInt32
  i : UInt32
def S8.list (s : S8) : List UInt32 := [s.a, s.c, s.d, s.e, s.f, s.g, s.h, s.i]
def oneW (s : S8) (k w : UInt32) : UInt32 := s.i + (rotr s.f 6 ^^^ rotr s.f 11 ^^^ rotr s.f 25) + (s.f &&& s.g ^^^ (4294967295 ^^^ s.f) &&& s.h) + k + w
def twoW (s : S8) : UInt32 := (rotr s.a 2 ^^^ rotr s.a 13 ^^^ rotr s.a 22) + (s.a &&& s.c ^^^ s.a &&& s.d ^^^ s.c &&& s.d)
def rnd (s : S8) (k w : UInt32) : S8 := ⟨oneW s k w + twoW s, s.a, s.c, s.d, s.e + oneW s k w, s.f, s.g, s.h⟩
/-- the first t rounds -/
def rnds (m : Bytes) (s : S8) : Nat → S8
  | 0 => s
  | t + 1 => rnd (rnds m s t) (shaK.getD t 0) (schW m t)
def S8.add (s t : S8) : S8 := ⟨s.a + t.a, s.c + t.c, s.d + t.d, s.e + t.e, s.f + t.f, s.g + t.g, s.h + t.h, s.i + t.i⟩
/-- a block taken in -/
def mixB (s : S8) (m : Bytes) : S8 := s.add (rnds m s 64)
/-- blocks taken in, n of them -/
def mixN (s : S8) (m : Bytes) : Nat → S8
  | 0 => s
  | n + 1 => mixB (mixN s m n) ((m.drop (64 * n)).take 64)
def s0 : S8 := ⟨0x6a09e667, 0xbb67ae85, 0x3c6ef372, 0xa54ff53a, 0x510e527f, 0x9b05688c, 0x1f83d9ab, 0x5be0cd19⟩
/-- how many bytes of noughts stand behind the 128 -/
def padZ (n : Nat) : Nat := (119 - n % 64) % 64
/-- the i-th byte from below -/
def byN (n i : Nat) : UInt8 := UInt8.ofNat (n / 2 ^ (8 * i))
def be64 (n : Nat) : Bytes := [byN n 7, byN n 6, byN n 5, byN n 4, byN n 3, byN n 2, byN n 1, byN n 0]
def padB (b : Bytes) : Bytes := b ++ 128 :: List.replicate (padZ b.length) 0 ++ be64 (b.length * 8)
def outW (x : UInt32) : Bytes := [byN x.toNat 3, byN x.toNat 2, byN x.toNat 1, byN x.toNat 0]
def outS (s : S8) : Bytes := (s.list.map outW).flatten
def shaB (b : Bytes) : Bytes := outS (mixN s0 (padB b) ((b.length + 72) / 64))
theorem outS_len (s : S8) : (outS s).length = 32 := by simp [outS, S8.list, outW]
theorem shaB_len (b : Bytes) : (shaB b).length = 32 := outS_len _
def leafB (b : Bytes) : Bytes := shaB (0 :: b)
def nodeB (a c : Bytes) : Bytes := shaB (1 :: (a ++ c))
theorem mixN_congr {s : S8} {m m' : Bytes} : ∀ {n : Nat}, m.take (64 * n) = m'.take (64 * n) → mixN s m n = mixN s m' n
  | 0, _ => rfl
  | n + 1, h => by
    have h1 : m.take (64 * n) = m'.take (64 * n) := by
      have := congrArg (List.take (64 * n)) h
      simpa [List.take_take, Nat.min_eq_left (show 64 * n ≤ 64 * (n + 1) by omega)] using this
    have h2 : (m.drop (64 * n)).take 64 = (m'.drop (64 * n)).take 64 := by
      have := congrArg (List.drop (64 * n)) h
      rw [List.drop_take, List.drop_take] at this
      simpa [show 64 * (n + 1) - 64 * n = 64 by omega] using this
    rw [mixN, mixN, mixN_congr h1, h2]
theorem mixN_add {s : S8} {m : Bytes} {n : Nat} : ∀ k, mixN s m (n + k) = mixN (mixN s m n) (m.drop (64 * n)) k
  | 0 => rfl
  | k + 1 => by
    rw [← Nat.add_assoc, mixN, mixN_add k, mixN, List.drop_drop, Nat.mul_add]
/-- the schedule's first words, and noughts -/
def schL (m : Bytes) (i : Nat) : List UInt32 := (List.range i).map (schW m) ++ List.replicate (64 - i) 0
theorem schL_len {m : Bytes} {i : Nat} (h : i ≤ 64) : (schL m i).length = 64 := by simp [schL]; omega
theorem schL_get {m : Bytes} {i j : Nat} (h : j < i) : (schL m i)[j]? = some (schW m j) := by
  rw [schL, List.getElem?_append_left (by simpa using h)]
  simp [h]
theorem schL_set {m : Bytes} {i : Nat} (h : i < 64) : (schL m i).set i (schW m i) = schL m (i + 1) := by
  rw [schL, List.set_append_right _ _ (by simp), schL, List.range_succ, List.map_append, List.append_assoc]
  congr 1
  simp only [List.length_map, List.length_range, Nat.sub_self]
  rw [show 64 - i = (64 - (i + 1)) + 1 by omega, List.replicate_succ, List.set_cons_zero]
  rfl
theorem shaK_len : shaK.length = 64 := by decide
def addL (s q : S8) (i : Nat) : List UInt32 := (s.add q).list.take i ++ s.list.drop i
theorem addL_set {s q : S8} {i : Nat} (h : i < 8) : (addL s q i).set i ((s.list[i]'h) + (q.list[i]'h)) = addL s q (i + 1) := by
  match i, h with
  | 0, _ | 1, _ | 2, _ | 3, _ | 4, _ | 5, _ | 6, _ | 7, _ => rfl
theorem addL_get {s q : S8} {i : Nat} (h : i < 8) : (addL s q i)[i]? = some (s.list[i]'h) := by
  match i, h with
  | 0, _ | 1, _ | 2, _ | 3, _ | 4, _ | 5, _ | 6, _ | 7, _ => rfl
/-- the last block or two: what is left of the bytes, 128, noughts, how many bits -/
def tailL (r : Bytes) (size : Nat) (n : Nat) : Bytes := r ++ 128 :: List.replicate (size - r.length - 9) 0 ++ be64 n
/-- .. while its last eight bytes are laid, i of them -/
def tailI (r : Bytes) (size n i : Nat) : Bytes := r ++ 128 :: List.replicate (size - r.length - 1 - i) 0 ++ (be64 n).drop (8 - i) ++ List.replicate (128 - size) 0
theorem be64_len (n : Nat) : (be64 n).length = 8 := rfl
theorem be64_get {n i : Nat} (h : i < 8) : (be64 n)[7 - i]? = some (byN n i) := by
  match i, h with
  | 0, _ | 1, _ | 2, _ | 3, _ | 4, _ | 5, _ | 6, _ | 7, _ => rfl
theorem tailI_set {r : Bytes} {size n i : Nat} (h : i < 8) (hr : r.length + 9 ≤ size) (hs : size ≤ 128) : (tailI r size n i).set (size - 1 - i) (byN n i) = tailI r size n (i + 1) := by
  unfold tailI
  rw [List.append_assoc, List.append_assoc, List.set_append_right _ _ (by omega)]
  rw [show size - 1 - i - r.length = (size - r.length - 1 - i - 1) + 1 by omega, show size - r.length - 1 - i = (size - r.length - 1 - i - 1) + 1 by omega]
  simp only [List.cons_append, List.set_cons_succ, List.append_assoc]
  rw [List.replicate_succ']
  simp only [List.append_assoc, List.singleton_append]
  rw [List.set_append_right _ _ (by simp), List.length_replicate, show size - r.length - 1 - i - 1 + 1 - 1 - (size - r.length - 1 - i - 1) = 0 by omega, List.set_cons_zero]
  rw [show (be64 n).drop (8 - (i + 1)) = byN n i :: (be64 n).drop (8 - i) by
    rw [List.drop_eq_getElem_cons (by rw [be64_len]; omega)]
    have e : 8 - (i + 1) = 7 - i := by omega
    have e2 : (be64 n)[8 - (i + 1)]? = some (byN n i) := by rw [e]; exact be64_get h
    rw [List.getElem?_eq_getElem (by rw [be64_len]; omega)] at e2
    rw [Option.some.inj e2, show 8 - (i + 1) + 1 = 8 - i by omega]]
  rfl
theorem tailI_len {r : Bytes} {size n i : Nat} (h : i ≤ 8) (hr : r.length + 9 ≤ size) (hs : size ≤ 128) : (tailI r size n i).length = 128 := by
  simp only [tailI, List.length_append, List.length_cons, List.length_replicate, List.length_drop, be64_len]
  omega
theorem tailI_8 {r : Bytes} {size n : Nat} (hr : r.length + 9 ≤ size) (hs : size ≤ 128) : tailI r size n 8 = tailL r size n ++ List.replicate (128 - size) 0 := by
  simp [tailI, tailL, show size - r.length - 1 - 8 = size - r.length - 9 by omega]
/-- the bytes of a state, some of them laid -/
def outI (s : S8) (i : Nat) : Bytes := (outS s).take i ++ List.replicate (32 - i) 0
theorem outS_get (s : S8) {t i : Nat} (ht : t < 8) (hi : i < 4) : (outS s)[4 * t + i]? = some (byN (s.list[t]'ht).toNat (3 - i)) := by
  match t, i, ht, hi with
  | 0, 0, _, _ | 0, 1, _, _ | 0, 2, _, _ | 0, 3, _, _ | 1, 0, _, _ | 1, 1, _, _ | 1, 2, _, _ | 1, 3, _, _ | 2, 0, _, _ | 2, 1, _, _ | 2, 2, _, _ | 2, 3, _, _ | 3, 0, _, _ | 3, 1, _, _ | 3, 2, _, _ | 3, 3, _, _ | 4, 0, _, _ | 4, 1, _, _ | 4, 2, _, _ | 4, 3, _, _ | 5, 0, _, _ | 5, 1, _, _ | 5, 2, _, _ | 5, 3, _, _ | 6, 0, _, _ | 6, 1, _, _ | 6, 2, _, _ | 6, 3, _, _ | 7, 0, _, _ | 7, 1, _, _ | 7, 2, _, _ | 7, 3, _, _ => rfl
theorem outI_set {s : S8} {i : Nat} {c : UInt8} (h : i < 32) (hc : (outS s)[i]? = some c) : (outI s i).set i c = outI s (i + 1) := by
  have hl := outS_len s
  unfold outI
  rw [List.set_append_right _ _ (by simp; omega), List.length_take, Nat.min_eq_left (by omega), Nat.sub_self]
  rw [show 32 - i = (32 - (i + 1)) + 1 by omega, List.replicate_succ, List.set_cons_zero]
  rw [List.getElem?_eq_getElem (by omega)] at hc
  rw [List.take_succ_eq_append_getElem (by omega), Option.some.inj hc]
  simp
theorem outI_len {s : S8} {i : Nat} (h : i ≤ 32) : (outI s i).length = 32 := by
  have := outS_len s
  simp [outI]; omega
theorem outI_all (s : S8) : outI s 32 = outS s := by
  have := outS_len s
  simp [outI, List.take_of_length_le (Nat.le_of_eq this)]
/-- the sum out of whole blocks and a rest -/
theorem shaB_of {b r : Bytes} {n size : Nat} (hb : b = b.take (64 * n) ++ r) (hn : 64 * n + r.length = b.length) (hr : r.length < 64) (hsz : size = if r.length + 9 ≤ 64 then 64 else 128) :
    shaB b = outS (mixN (mixN s0 b n) (tailL r size (b.length * 8)) (size / 64)) := by
  have hp : padB b = b.take (64 * n) ++ tailL r size (b.length * 8) := by
    unfold padB tailL
    have hz : padZ b.length = size - r.length - 9 := by
      unfold padZ
      rw [hsz]
      split <;> omega
    rw [hz]
    conv => lhs; rw [hb]
    simp only [List.append_assoc]
    rw [← hb]
  have hk : (b.length + 72) / 64 = n + size / 64 := by
    rw [hsz]
    split <;> omega
  unfold shaB
  rw [hk, mixN_add, hp]
  have hl : (b.take (64 * n)).length = 64 * n := by rw [List.length_take]; omega
  rw [List.drop_append_of_le_length (by omega), List.drop_of_length_le (by omega), List.nil_append]
  congr 2
  refine mixN_congr ?_
  rw [List.take_append_of_le_length (by omega), List.take_of_length_le (by omega)]
end Go.Isk
