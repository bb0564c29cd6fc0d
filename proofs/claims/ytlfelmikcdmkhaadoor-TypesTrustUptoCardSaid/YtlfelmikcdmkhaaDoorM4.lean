/- What is encoded within the bounds is decoded as it was: plain mathematics. -/
import Derived.Test.YtlfelmikcdmkhaaDoorM3
set_option linter.unusedVariables false
set_option linter.unusedSimpArgs false
set_option linter.unusedSectionVars false
namespace Go.Isk
theorem encU_form (n : Nat) : ∃ p c, encU n = p ++ [c] ∧ (∀ x ∈ p, 128 ≤ x.toNat) ∧ c.toNat < 128 ∧ (p ≠ [] → c.toNat ≠ 0) ∧ val (p ++ [c]) = n := by
  induction n using Nat.strongRecOn with
  | ind n ih =>
    by_cases hn : n < 128
    · have e : (UInt8.ofNat n).toNat = n := by simp only [UInt8.toNat_ofNat']; omega
      exact ⟨[], UInt8.ofNat n, encU_small hn, by simp, by omega, by simp, by simp only [List.nil_append, val, e]; omega⟩
    · obtain ⟨p, c, h1, h2, h3, h4, h5⟩ := ih (n / 128) (by omega)
      have e : (UInt8.ofNat (n % 128 + 128)).toNat = n % 128 + 128 := by simp only [UInt8.toNat_ofNat']; omega
      refine ⟨UInt8.ofNat (n % 128 + 128) :: p, c, by rw [encU_big hn, h1]; rfl, ?_, h3, fun _ => ?_, ?_⟩
      · intro x hx
        rcases List.mem_cons.1 hx with rfl | hx
        · omega
        · exact h2 x hx
      · by_cases hp : p = []
        · subst hp
          simp only [List.nil_append, val] at h5
          omega
        · exact h4 hp
      · simp only [List.cons_append, val, e, h5]
        omega
theorem decU_encU {n : Nat} (h : n < 18446744073709551616) (r : Bytes) : decU (encU n ++ r) = some (n, r) := by
  obtain ⟨p, c, h1, h2, h3, h4, h5⟩ := encU_form n
  have hl := encU_len10 h
  rw [h1] at hl ⊢
  simp only [List.length_append, List.length_cons, List.length_nil] at hl
  have ht : (p ++ [c] ++ r).takeWhile big = p := by
    rw [List.append_assoc, List.takeWhile_append_of_pos (fun x hx => by simp only [big, decide_eq_true_eq]; exact h2 x hx)]
    simp [List.takeWhile, big, decide_eq_false (by omega : ¬ 128 ≤ c.toNat)]
  unfold decU
  rw [ht, List.append_assoc, List.drop_left]
  simp only [List.singleton_append]
  rw [if_neg, h5]
  rintro (h6 | ⟨h6, h7⟩ | ⟨h6, h7⟩)
  · omega
  · rw [val_append, h6] at h5
    have e : (128 : Nat) ^ 9 = 9223372036854775808 := by decide
    rw [e] at h5
    have : c.toNat % 128 = c.toNat := Nat.mod_eq_of_lt h3
    omega
  · exact h4 (by rintro rfl; simp at h6) h7
theorem rU_enc {most n : Nat} (h : n < 18446744073709551616) (hm : n ≤ most) (r : Bytes) : rU most (some (encU n ++ r)) = (some r, n) := by
  simp only [rU, decU_encU h, if_neg (show ¬ most < n by omega)]
theorem rI_enc {n : Int} (h : I64 n) (r : Bytes) : rI (some (encI n ++ r)) = (some r, n) := by
  have hz := zig_lt h
  simp only [rI, encI, rU_enc hz (show zig n ≤ all64 by unfold all64; omega), unzig_zig h]
structure Commit.fit (c : Commit) : Prop where
  ok : c.ok
  len : c.votes.length ≤ 32
  votes : ∀ v ∈ c.votes, v.ok ∧ v.sign.length ≤ 65536
structure Block.fit (b : Block) : Prop where
  header : b.header.ok
  chain : b.header.chain.length ≤ 64
  len : b.txs.length ≤ 64
  txs : ∀ x ∈ b.txs, x.length ≤ 65536
  last : b.last.fit
end Go.Isk
