/- Reading bytes: plain mathematics. A reader is what is left of its bytes, or none once it failed. -/
import Derived.Test.YtlfelmikcdmkhaaDoorM1
set_option linter.unusedVariables false
set_option linter.unusedSimpArgs false
set_option linter.unusedSectionVars false
namespace Go.Isk
def val : Bytes → Nat
  | [] => 0
  | c :: r => c.toNat % 128 + 128 * val r
abbrev big (c : UInt8) : Bool := decide (128 ≤ c.toNat)
def decU (b : Bytes) : Option (Nat × Bytes) :=
  match b.drop (b.takeWhile big).length with
  | [] => none
  | c :: r => if 9 < (b.takeWhile big).length ∨ ((b.takeWhile big).length = 9 ∧ 1 < c.toNat) ∨ (0 < (b.takeWhile big).length ∧ c.toNat = 0) then none else some (val (b.takeWhile big ++ [c]), r)
def Bigs (b : Bytes) (k : Nat) : Prop := ∀ (j : Nat) (h : j < b.length), j < k → 128 ≤ b[j].toNat
theorem tw_at : ∀ (k : Nat) (b : Bytes) (hk : k < b.length), Bigs b k → b[k].toNat < 128 → b.takeWhile big = b.take k
  | 0, c :: b, hk, _, hc => by simp only [List.getElem_cons_zero] at hc; simp [List.takeWhile, big, decide_eq_false (by omega : ¬ 128 ≤ c.toNat)]
  | k + 1, c :: b, hk, hb, hc => by
    have h0 := hb 0 (by simp) (by omega)
    simp only [List.getElem_cons_zero] at h0
    simp only [List.takeWhile, big, decide_eq_true h0, List.take_succ_cons]
    rw [tw_at k b (by simpa using hk) (fun j h hj => hb (j + 1) (by simp; omega) (by omega)) (by simpa using hc)]
  | _, [], hk, _, _ => by simp at hk
theorem tw_all : ∀ (k : Nat) (b : Bytes), k ≤ b.length → Bigs b k → k ≤ (b.takeWhile big).length
  | 0, _, _, _ => Nat.zero_le _
  | k + 1, c :: b, hk, hb => by
    have h0 := hb 0 (by simp) (by omega)
    simp only [List.getElem_cons_zero] at h0
    simp only [List.takeWhile, big, decide_eq_true h0, List.length_cons]
    have := tw_all k b (by simpa using hk) (fun j h hj => hb (j + 1) (by simp; omega) (by omega))
    omega
  | k + 1, [], hk, _ => by simp at hk
theorem decU_at {b : Bytes} {k : Nat} (hk : k < b.length) (hb : Bigs b k) (hc : b[k].toNat < 128) :
    decU b = if 9 < k ∨ (k = 9 ∧ 1 < b[k].toNat) ∨ (0 < k ∧ b[k].toNat = 0) then none else some (val (b.take (k + 1)), b.drop (k + 1)) := by
  unfold decU
  rw [tw_at k b hk hb hc]
  have hl : (b.take k).length = k := by simp; omega
  rw [hl, List.drop_eq_getElem_cons hk]
  simp only []
  rw [List.take_succ_eq_append_getElem hk]
theorem decU_short {b : Bytes} (hb : Bigs b b.length) : decU b = none := by
  unfold decU
  have := tw_all b.length b (Nat.le_refl _) hb
  rw [List.drop_of_length_le this]
theorem decU_long {b : Bytes} (h : 10 ≤ b.length) (hb : Bigs b 10) : decU b = none := by
  unfold decU
  have := tw_all 10 b h hb
  split
  · rfl
  · rw [if_pos (.inl (by omega))]
theorem val_lt : ∀ b : Bytes, val b < 128 ^ b.length
  | [] => by simp [val]
  | c :: r => by
    have := val_lt r
    simp only [val, List.length_cons, Nat.pow_succ]
    have : c.toNat % 128 < 128 := Nat.mod_lt _ (by decide)
    omega
theorem val_append : ∀ (b : Bytes) (c : UInt8), val (b ++ [c]) = val b + (c.toNat % 128) * 128 ^ b.length
  | [], c => by simp [val]
  | d :: r, c => by
    simp only [List.cons_append, val, val_append r c, List.length_cons, Nat.pow_succ]
    rw [Nat.mul_add, ← Nat.add_assoc, Nat.mul_comm (128 ^ r.length) 128, ← Nat.mul_assoc, ← Nat.mul_assoc, Nat.mul_comm 128 (c.toNat % 128)]
theorem val_take {b : Bytes} {k : Nat} (hk : k < b.length) : val (b.take (k + 1)) = val (b.take k) + (b[k].toNat % 128) * 128 ^ k := by
  rw [List.take_succ_eq_append_getElem hk, val_append, List.length_take, Nat.min_eq_left (by omega)]
theorem decU_lt {b r : Bytes} {n : Nat} (h : decU b = some (n, r)) : n < 18446744073709551616 := by
  unfold decU at h
  split at h
  · cases h
  · rename_i c r' hd
    split at h
    · cases h
    · rename_i hn
      simp only [Option.some.injEq, Prod.mk.injEq] at h
      obtain ⟨rfl, rfl⟩ := h
      rw [val_append]
      have h1 := val_lt (b.takeWhile big)
      generalize (b.takeWhile big).length = m at *
      generalize val (b.takeWhile big) = x at *
      simp only [not_or, not_and, Nat.not_lt] at hn
      have hm : m < 9 ∨ m = 9 := by omega
      have hc : c.toNat % 128 ≤ 127 := by omega
      rcases hm with hm | rfl
      · have h2 : 128 ^ m ≤ 128 ^ 8 := Nat.pow_le_pow_right (by decide) (by omega)
        have h3 : c.toNat % 128 * 128 ^ m ≤ 127 * 128 ^ 8 := Nat.mul_le_mul hc h2
        have : x < 128 ^ 8 := Nat.lt_of_lt_of_le h1 h2
        have e : 128 ^ 8 = 72057594037927936 := by decide
        omega
      · have h2 : c.toNat ≤ 1 := hn.2.1 rfl
        have h3 : c.toNat % 128 * 128 ^ 9 ≤ 1 * 128 ^ 9 := Nat.mul_le_mul (by omega) (Nat.le_refl _)
        have e : 128 ^ 9 = 9223372036854775808 := by decide
        omega
abbrev Rdr := Option Bytes
def rU (most : Nat) : Rdr → Rdr × Nat
  | none => (none, 0)
  | some b => match decU b with
    | none => (none, 0)
    | some (n, r) => if most < n then (none, 0) else (some r, n)
def unzig (n : Nat) : Int := if n % 2 = 1 then -((n / 2 : Nat) : Int) - 1 else ((n / 2 : Nat) : Int)
def all64 : Nat := 18446744073709551615
def rI (s : Rdr) : Rdr × Int := let (s', n) := rU all64 s; (s', unzig n)
def rC (most : Nat) (s : Rdr) : Rdr × Nat := match rU most s with
  | (none, _) => (none, 0)
  | (some r, n) => if r.length < n then (none, 0) else (some r, n)
def rT (n : Nat) : Rdr → Rdr × Bytes
  | none => (none, [])
  | some b => if b.length < n then (none, []) else (some (b.drop n), b.take n)
def rB (most : Nat) (s : Rdr) : Rdr × Bytes := match rU all64 s with
  | (none, _) => (none, [])
  | (some r, n) => if most < n ∨ r.length < n then (none, []) else (some (r.drop n), r.take n)
def zero32 : Bytes := List.replicate 32 0
def rH (s : Rdr) : Rdr × Bytes := match rT 32 s with
  | (none, _) => (none, zero32)
  | (some r, b) => (some r, b)
def rdLen : Rdr → Nat
  | none => 0
  | some b => b.length
theorem rU_lt {most : Nat} {s : Rdr} : (rU most s).2 < 18446744073709551616 := by
  unfold rU
  split
  · simp
  · split
    · simp
    · rename_i n r h
      have := decU_lt h
      split <;> simp; omega
theorem rU_most {most : Nat} {s : Rdr} : (rU most s).2 ≤ most := by
  unfold rU
  split
  · simp
  · split
    · simp
    · split <;> simp; omega
theorem rC_most {most : Nat} {s : Rdr} : (rC most s).2 ≤ most := by
  unfold rC
  split
  · simp
  · rename_i h
    have := rU_most (most := most) (s := s)
    rw [h] at this
    split <;> simp; exact this
theorem unzig_i64 {n : Nat} (h : n < 18446744073709551616) : I64 (unzig n) := by
  unfold unzig I64; split <;> omega
theorem rI_i64 {s : Rdr} : I64 (rI s).2 := unzig_i64 rU_lt
theorem rH_len {s : Rdr} : (rH s).2.length = 32 := by
  unfold rH rT
  cases s with
  | none => simp [zero32]
  | some b =>
    simp only []
    by_cases h : b.length < 32
    · simp [h, zero32]
    · simp [h]; omega
theorem unzig_zig {n : Int} (h : I64 n) : unzig (zig n) = n := by
  obtain ⟨h1, h2⟩ := h
  unfold unzig zig
  by_cases hn : n < 0
  · rw [if_pos hn, if_pos (by omega)]; omega
  · rw [if_neg hn, if_neg (by omega)]; omega
end Go.Isk
