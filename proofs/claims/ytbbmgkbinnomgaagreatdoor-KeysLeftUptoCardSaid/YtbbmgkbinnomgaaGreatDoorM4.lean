/- Reading bytes: plain mathematics. A reader is what is left of its bytes, or none once it failed. -/
import Derived.Test.YtbbmgkbinnomgaaGreatDoorM5
set_option linter.unusedVariables false
set_option linter.unusedSimpArgs false
set_option linter.unusedSectionVars false
namespace Go.Isk
def val : Bytes → Nat
  | [] => 0
  | c :: r => c.toNat % 128 + 128 * val r
abbrev big (c : UInt8) : Bool := decide (128 ≤ c.toNat)
def decU (b : Bytes) : Option (Nat × Bytes) :=
  match b.drop (b.takeWhile big).length with
  | [] => none
  | c :: r => if 9 < (b.takeWhile big).length ∨ ((b.takeWhile big).length = 9 ∧ 1 < c.toNat) ∨ (0 < (b.takeWhile big).length ∧ c.toNat = 0) then none else some (val (b.takeWhile big ++ [c]), r)
def Bigs (b : Bytes) (k : Nat) : Prop := ∀ (j : Nat) (h : j < b.length), j < k → 128 ≤ b[j].toNat
theorem tw_at : ∀ (k : Nat) (b : Bytes) (hk : k < b.length), Bigs b k → b[k].toNat < 128 → b.takeWhile big = b.take k
  | 0, c :: b, hk, _, hc => by simp only [List.getElem_cons_zero] at hc; simp [List.takeWhile, big, decide_eq_false (by omega : ¬ 128 ≤ c.toNat)]
  | k + 1, c :: b, hk, hb, hc => by
    have h0 := hb 0 (by simp) (by omega)
    simp only [List.getElem_cons_zero] at h0
    simp only [List.takeWhile, big, decide_eq_true h0, List.take_succ_cons]
    rw [tw_at k b (by simpa using hk) (fun j h hj => hb (j + 1) (by simp; omega) (by omega)) (by simpa using hc)]
  | _, [], hk, _, _ => by simp at hk
theorem tw_all : ∀ (k : Nat) (b : Bytes), k ≤ b.length → Bigs b k → k ≤ (b.takeWhile big).length
  | 0, _, _, _ => Nat.zero_le _
  | k + 1, c :: b, hk, hb => by
    have h0 := hb 0 (by simp) (by omega)
    simp only [List.getElem_cons_zero] at h0
    simp only [List.takeWhile, big, decide_eq_true h0, List.length_cons]
    have := tw_all k b (by simpa using hk) (fun j h hj => hb (j + 1) (by simp; omega) (by omega))
    omega
  | k + 1, [], hk, _ => by simp at hk
theorem decU_at {b : Bytes} {k : Nat} (hk : k < b.length) (hb : Bigs b k) (hc : b[k].toNat < 128) :
    decU b = if 9 < k ∨ (k = 9 ∧ 1 < b[k].toNat) ∨ (0 < k ∧ b[k].toNat = 0) then none else some (val (b.take (k + 1)), b.drop (k + 1)) := by
  unfold decU
  rw [tw_at k b hk hb hc]
  have hl : (b.take k).length = k := by simp; omega
  rw [hl, List.drop_eq_getElem_cons hk]
  simp only []
  rw [List.take_succ_eq_append_getElem hk]
theorem decU_short {b : Bytes} (hb : Bigs b b.length) : decU b = none := by
  unfold decU
  have := tw_all b.length b (Nat.le_refl _) hb
  rw [List.drop_of_length_le this]
theorem decU_long {b : Bytes} (h : 10 ≤ b.length) (hb : Bigs b 10) : decU b = none := by
  unfold decU
  have := tw_all 10 b h hb
  split
  · rfl
  · rw [if_pos (.inl (by omega))]
theorem val_lt : ∀ b : Bytes, val b < 128 ^ b.length
  | [] => by simp [val]
  | c :: r => by
    have := val_lt r
    simp only [val, List.length_cons, Nat.pow_succ]
    have : c.toNat % 128 < 128 := Nat.mod_lt _ (by decide)
    omega
theorem val_append : ∀ (b : Bytes) (c : UInt8), val (b ++ [c]) = val b + (c.toNat % 128) * 128 ^ b.length
  | [], c => by simp [val]
  | d :: r, c => by
    simp only [List.cons_append, val, val_append r c, List.length_cons, Nat.pow_succ]
    rw [Nat.mul_add, ← Nat.add_assoc, Nat.mul_comm (128 ^ r.length) 128, ← Nat.mul_assoc, ← Nat.mul_assoc, Nat.mul_comm 128 (c.toNat % 128)]
theorem val_take {b : Bytes} {k : Nat} (hk : k < b.length) : val (b.take (k + 1)) = val (b.take k) + (b[k].toNat % 128) * 128 ^ k := by
  rw [List.take_succ_eq_append_getElem hk, val_append, List.length_take, Nat.min_eq_left (by omega)]
theorem decU_lt {b r : Bytes} {n : Nat} (h : decU b = some (n, r)) : n < 18446744073709551616 := by
  unfold decU at h
  split at h
  · cases h
  · rename_i c r' hd
    split at h
    · cases h
    · rename_i hn
      simp only [Option.some.injEq, Prod.mk.injEq] at h
      obtain ⟨rfl, rfl⟩ := h
      rw [val_append]
      have h1 := val_lt (b.takeWhile big)
      generalize (b.takeWhile big).length = m at *
      generalize val (b.takeWhile big) = x at *
      simp only [not_or, not_and, Nat.not_lt] at hn
      have hm : m < 9 ∨ m = 9 := by omega
      have hc : c.toNat % 128 ≤ 127 := by omega
      rcases hm with hm | rfl
      · have h2 : 128 ^ m ≤ 128 ^ 8 := Nat.pow_le_pow_right (by decide) (by omega)
        have h3 : c.toNat % 128 * 128 ^ m ≤ 127 * 128 ^ 8 := Nat.mul_le_mul hc h2
        have : x < 128 ^ 8 := Nat.lt_of_lt_of_le h1 h2
        have e : 128 ^ 8 = 72057594037927936 := by decide
        omega
      · have h2 : c.toNat ≤ 1 := hn.2.1 rfl
        have h3 : c.toNat % 128 * 128 ^ 9 ≤ 1 * 128 ^ 9 := Nat.mul_le_mul (by omega) (Nat.le_refl _)
        have e : 128 ^ 9 = 9223372036854775808 := by decide
        omega
abbrev Rdr := Option Bytes
def rU (most : Nat) : Rdr → Rdr × Nat
  | none => (none, 0)
  | some b => match decU b with
    | none => (none, 0)
    | some (n, r) => if most < n then (none, 0) else (some r, n)
def unzig (n : Nat) : Int := if n % 2 = 1 then -((n / 2 : Nat) : Int) - 1 else ((n / 2 : Nat) : Int)
def all64 : Nat := 18446744073709551615
def rI (s : Rdr) : Rdr × Int := let (s', n) := rU all64 s; (s', unzig n)
def rC (most : Nat) (s : Rdr) : Rdr × Nat := match rU most s with
  | (none, _) => (none, 0)
  | (some r, n) => if r.length < n then (none, 0) else (some r, n)
def rT (n : Nat) : Rdr → Rdr × Bytes
  | none => (none, [])
  | some b => if b.length < n then (none, []) else (some (b.drop n), b.take n)
def rB (most : Nat) (s : Rdr) : Rdr × Bytes := match rU all64 s with
  | (none, _) => (none, [])
  | (some r, n) => if most < n ∨ r.length < n then (none, []) else (some (r.drop n), r.take n)
def zero32 : Bytes := List.replicate 32 0
def rH (s : Rdr) : Rdr × Bytes := match rT 32 s with
  | (none, _) => (none, zero32)
  | (some r, b) => (some r, b)
def rdLen : Rdr → Nat
  | none => 0
  | some b => b.length
theorem rU_lt {most : Nat} {s : Rdr} : (rU most s).2 < 18446744073709551616 := by
  unfold rU
  split
  · simp
  · split
    · simp
    · rename_i n r h
      have := decU_lt h
      split <;> simp; omega
theorem rU_most {most : Nat} {s : Rdr} : (rU most s).2 ≤ most := by
  unfold rU
  split
  · simp
  · split
    · simp
    · split <;> simp; omega
theorem rH_len {s : Rdr} : (rH s).2.length = 32 := by
  unfold rH rT
  cases s with
  | none => simp [zero32]
  | some b =>
    simp only []
    by_cases h : b.length < 32
    · simp [h, zero32]
    · simp [h]; omega
end Go.Isk
set_option linter.unusedVariables false
set_option linter.unusedSimpArgs false
set_option linter.unusedSectionVars false
namespace Go.Isk
def gVote (s : Rdr) : Rdr × Vote :=
  let a := rI s; let b := rI a.1; let c := rI b.1; let d := rH c.1; let e := rI d.1; let f := rB 65536 e.1
  (f.1, ⟨a.2, b.2, c.2, d.2, e.2, f.2⟩)
def gList {α : Type} (g : Rdr → Rdr × α) : Nat → Rdr → Rdr × List α
  | 0, s => (s, [])
  | n + 1, s => let a := gList g n s; let b := g a.1; (b.1, a.2 ++ [b.2])
theorem gList_len {α : Type} (g : Rdr → Rdr × α) : ∀ (n : Nat) (s : Rdr), (gList g n s).2.length = n
  | 0, _ => rfl
  | n + 1, s => by simp [gList, gList_len g n s]
def gCommit (s : Rdr) : Rdr × Commit :=
  let a := rI s; let b := rI a.1; let c := rH b.1; let d := rC 32 c.1; let e := gList gVote d.2 d.1
  (e.1, ⟨a.2, b.2, c.2, e.2⟩)
def gHeader (s : Rdr) : Rdr × Header :=
  let a := rB 64 s; let b := rI a.1; let c := rI b.1; let d := rH c.1; let e := rH d.1; let f := rH e.1; let g := rH f.1; let h := rH g.1; let i := rI h.1
  (i.1, ⟨a.2, b.2, c.2, d.2, e.2, f.2, g.2, h.2, i.2⟩)
def gBlock (s : Rdr) : Rdr × Block :=
  let a := gHeader s; let b := rC 64 a.1; let c := gList (rB 65536) b.2 b.1; let d := gCommit c.1
  (d.1, ⟨a.2, c.2, d.2⟩)
def gVal (s : Rdr) : Rdr × Validator :=
  let a := rB 64 s; let b := rH a.1; let c := rI b.1
  (c.1, ⟨a.2, b.2, c.2⟩)
def gSet (s : Rdr) : Rdr × List Validator := let a := rC 32 s; gList gVal a.2 a.1
/-- the thing that is all of some bytes -/
def dec {α : Type} (g : Rdr → Rdr × α) (b : Bytes) : Option α := match g (some b) with
  | (some [], x) => some x
  | _ => none
def noVote : Vote := ⟨0, 0, 0, zero32, 0, []⟩
def noCommit : Commit := ⟨0, 0, zero32, []⟩
def noHeader : Header := ⟨[], 0, 0, zero32, zero32, zero32, zero32, zero32, 0⟩
def noBlock : Block := ⟨noHeader, [], noCommit⟩
end Go.Isk
set_option linter.unusedVariables false
set_option linter.unusedSimpArgs false
set_option linter.unusedSectionVars false
namespace Go.Isk
theorem encU_form (n : Nat) : ∃ p c, encU n = p ++ [c] ∧ (∀ x ∈ p, 128 ≤ x.toNat) ∧ c.toNat < 128 ∧ (p ≠ [] → c.toNat ≠ 0) ∧ val (p ++ [c]) = n := by
  induction n using Nat.strongRecOn with
  | ind n ih =>
    by_cases hn : n < 128
    · have e : (UInt8.ofNat n).toNat = n := by simp only [UInt8.toNat_ofNat']; omega
      exact ⟨[], UInt8.ofNat n, encU_small hn, by simp, by omega, by simp, by simp only [List.nil_append, val, e]; omega⟩
    · obtain ⟨p, c, h1, h2, h3, h4, h5⟩ := ih (n / 128) (by omega)
      have e : (UInt8.ofNat (n % 128 + 128)).toNat = n % 128 + 128 := by simp only [UInt8.toNat_ofNat']; omega
      refine ⟨UInt8.ofNat (n % 128 + 128) :: p, c, by rw [encU_big hn, h1]; rfl, ?_, h3, fun _ => ?_, ?_⟩
      · intro x hx
        rcases List.mem_cons.1 hx with rfl | hx
        · omega
        · exact h2 x hx
      · by_cases hp : p = []
        · subst hp
          simp only [List.nil_append, val] at h5
          omega
        · exact h4 hp
      · simp only [List.cons_append, val, e, h5]
        omega
theorem decU_encU {n : Nat} (h : n < 18446744073709551616) (r : Bytes) : decU (encU n ++ r) = some (n, r) := by
  obtain ⟨p, c, h1, h2, h3, h4, h5⟩ := encU_form n
  have hl := encU_len10 h
  rw [h1] at hl ⊢
  simp only [List.length_append, List.length_cons, List.length_nil] at hl
  have ht : (p ++ [c] ++ r).takeWhile big = p := by
    rw [List.append_assoc, List.takeWhile_append_of_pos (fun x hx => by simp only [big, decide_eq_true_eq]; exact h2 x hx)]
    simp [List.takeWhile, big, decide_eq_false (by omega : ¬ 128 ≤ c.toNat)]
  unfold decU
  rw [ht, List.append_assoc, List.drop_left]
  simp only [List.singleton_append]
  rw [if_neg, h5]
  rintro (h6 | ⟨h6, h7⟩ | ⟨h6, h7⟩)
  · omega
  · rw [val_append, h6] at h5
    have e : (128 : Nat) ^ 9 = 9223372036854775808 := by decide
    rw [e] at h5
    have : c.toNat % 128 = c.toNat := Nat.mod_eq_of_lt h3
    omega
  · exact h4 (by rintro rfl; simp at h6) h7
theorem rU_enc {most n : Nat} (h : n < 18446744073709551616) (hm : n ≤ most) (r : Bytes) : rU most (some (encU n ++ r)) = (some r, n) := by
  simp only [rU, decU_encU h, if_neg (show ¬ most < n by omega)]
theorem rB_enc {most : Nat} {l : Bytes} (hm : l.length ≤ most) (h : l.length < 18446744073709551616) (r : Bytes) : rB most (some (encB l ++ r)) = (some r, l) := by
  simp only [rB, encB, List.append_assoc, rU_enc h (show l.length ≤ all64 by unfold all64; omega)]
  rw [if_neg (by simp only [List.length_append]; omega), List.drop_left, List.take_left]
theorem rH_enc {l : Bytes} (h : l.length = 32) (r : Bytes) : rH (some (l ++ r)) = (some r, l) := by
  simp only [rH, rT, if_neg (show ¬ (l ++ r).length < 32 by simp only [List.length_append]; omega)]
  rw [← h, List.drop_left, List.take_left]
theorem gList_enc {α : Type} {g : Rdr → Rdr × α} {f : α → Bytes} {l : List α} (h : ∀ x ∈ l, ∀ r, g (some (f x ++ r)) = (some r, x)) (r : Bytes) :
    ∀ n, n ≤ l.length → gList g n (some ((l.map f).flatten ++ r)) = (some (((l.drop n).map f).flatten ++ r), l.take n)
  | 0, _ => by simp [gList]
  | n + 1, hn => by
    have hn' : n < l.length := hn
    simp only [gList, gList_enc h r n (by omega)]
    rw [List.drop_eq_getElem_cons hn', List.map_cons, List.flatten_cons, List.append_assoc, h _ (List.getElem_mem hn'), List.take_succ_eq_append_getElem hn']
structure Commit.fit (c : Commit) : Prop where
  ok : c.ok
  len : c.votes.length ≤ 32
  votes : ∀ v ∈ c.votes, v.ok ∧ v.sign.length ≤ 65536
structure Block.fit (b : Block) : Prop where
  header : b.header.ok
  chain : b.header.chain.length ≤ 64
  len : b.txs.length ≤ 64
  txs : ∀ x ∈ b.txs, x.length ≤ 65536
  last : b.last.fit
end Go.Isk
