/- What is encoded within the bounds is decoded as it was: plain mathematics. -/
import Derived.Test.YtlfelmikcdmkhaaDoorM3
set_option linter.unusedVariables false
set_option linter.unusedSimpArgs false
set_option linter.unusedSectionVars false
namespace Go.Isk
theorem encU_form (n : Nat) : ∃ p c, encU n = p ++ [c] ∧ (∀ x ∈ p, 128 ≤ x.toNat) ∧ c.toNat < 128 ∧ (p ≠ [] → c.toNat ≠ 0) ∧ val (p ++ [c]) = n := by
  induction n using Nat.strongRecOn with
  | ind n ih =>
    by_cases hn : n < 128
    · have e : (UInt8.ofNat n).toNat = n := by simp only [UInt8.toNat_ofNat']; omega
      exact ⟨[], UInt8.ofNat n, encU_small hn, by simp, by omega, by simp, by simp only [List.nil_append, val, e]; omega⟩
    · obtain ⟨p, c, h1, h2, h3, h4, h5⟩ := ih (n / 128) (by omega)
      have e : (UInt8.ofNat (n % 128 + 128)).toNat = n % 128 + 128 := by simp only [UInt8.toNat_ofNat']; omega
      refine ⟨UInt8.ofNat (n % 128 + 128) :: p, c, by rw [encU_big hn, h1]; rfl, ?_, h3, fun _ => ?_, ?_⟩
      · intro x hx
        rcases List.mem_cons.1 hx with rfl | hx
        · omega
        · exact h2 x hx
      · by_cases hp : p = []
        · subst hp
          simp only [List.nil_append, val] at h5
          omega
        · exact h4 hp
      · simp only [List.cons_append, val, e, h5]
        omega
theorem decU_encU {n : Nat} (h : n < 18446744073709551616) (r : Bytes) : decU (encU n ++ r) = some (n, r) := by
  obtain ⟨p, c, h1, h2, h3, h4, h5⟩ := encU_form n
  have hl := encU_len10 h
  rw [h1] at hl ⊢
  simp only [List.length_append, List.length_cons, List.length_nil] at hl
  have ht : (p ++ [c] ++ r).takeWhile big = p := by
    rw [List.append_assoc, List.takeWhile_append_of_pos (fun x hx => by simp only [big, decide_eq_true_eq]; exact h2 x hx)]
    simp [List.takeWhile, big, decide_eq_false (by omega : ¬ 128 ≤ c.toNat)]
  unfold decU
  rw [ht, List.append_assoc, List.drop_left]
  simp only [List.singleton_append]
  rw [if_neg, h5]
  rintro (h6 | ⟨h6, h7⟩ | ⟨h6, h7⟩)
  · omega
  · rw [val_append, h6] at h5
    have e : (128 : Nat) ^ 9 = 9223372036854775808 := by decide
    rw [e] at h5
    have : c.toNat % 128 = c.toNat := Nat.mod_eq_of_lt h3
    omega
  · exact h4 (by rintro rfl; simp at h6) h7
theorem rU_enc {most n : Nat} (h : n < 18446744073709551616) (hm : n ≤ most) (r : Bytes) : rU most (some (encU n ++ r)) = (some r, n) := by
  simp only [rU, decU_encU h, if_neg (show ¬ most < n by omega)]
theorem rI_enc {n : Int} (h : I64 n) (r : Bytes) : rI (some (encI n ++ r)) = (some r, n) := by
  have hz := zig_lt h
  simp only [rI, encI, rU_enc hz (show zig n ≤ all64 by unfold all64; omega), unzig_zig h]
theorem rB_enc {most : Nat} {l : Bytes} (hm : l.length ≤ most) (h : l.length < 18446744073709551616) (r : Bytes) : rB most (some (encB l ++ r)) = (some r, l) := by
  simp only [rB, encB, List.append_assoc, rU_enc h (show l.length ≤ all64 by unfold all64; omega)]
  rw [if_neg (by simp only [List.length_append]; omega), List.drop_left, List.take_left]
theorem rC_enc {most n : Nat} (h : n < 18446744073709551616) (hm : n ≤ most) {r : Bytes} (hr : n ≤ r.length) : rC most (some (encU n ++ r)) = (some r, n) := by
  simp only [rC, rU_enc h hm, if_neg (show ¬ r.length < n by omega)]
theorem rH_enc {l : Bytes} (h : l.length = 32) (r : Bytes) : rH (some (l ++ r)) = (some r, l) := by
  simp only [rH, rT, if_neg (show ¬ (l ++ r).length < 32 by simp only [List.length_append]; omega)]
  rw [← h, List.drop_left, List.take_left]
theorem gList_enc {α : Type} {g : Rdr → Rdr × α} {f : α → Bytes} {l : List α} (h : ∀ x ∈ l, ∀ r, g (some (f x ++ r)) = (some r, x)) (r : Bytes) :
    ∀ n, n ≤ l.length → gList g n (some ((l.map f).flatten ++ r)) = (some (((l.drop n).map f).flatten ++ r), l.take n)
  | 0, _ => by simp [gList]
  | n + 1, hn => by
    have hn' : n < l.length := hn
    simp only [gList, gList_enc h r n (by omega)]
    rw [List.drop_eq_getElem_cons hn', List.map_cons, List.flatten_cons, List.append_assoc, h _ (List.getElem_mem hn'), List.take_succ_eq_append_getElem hn']
theorem flat_pos {α : Type} {f : α → Bytes} : ∀ {l : List α}, (∀ x ∈ l, 0 < (f x).length) → l.length ≤ (l.map f).flatten.length
  | [], _ => by simp
  | a :: l, h => by
    have h1 := h a (by simp)
    have h2 := flat_pos (f := f) (l := l) fun x hx => h x (by simp [hx])
    simp only [List.map_cons, List.flatten_cons, List.length_append, List.length_cons]
    omega
/-- a counted list -/
theorem gl_enc {α : Type} {g : Rdr → Rdr × α} {f : α → Bytes} {l : List α} {most : Nat} (h : ∀ x ∈ l, ∀ r, g (some (f x ++ r)) = (some r, x)) (hp : ∀ x ∈ l, 0 < (f x).length) (hm : l.length ≤ most) (hl : l.length < 18446744073709551616) (r : Bytes) :
    rC most (some (encL f l ++ r)) = (some ((l.map f).flatten ++ r), l.length) ∧ gList g l.length (some ((l.map f).flatten ++ r)) = (some r, l) := by
  constructor
  · rw [encL, List.append_assoc, rC_enc hl hm (by have := flat_pos hp; simp only [List.length_append]; omega)]
  · rw [gList_enc h r l.length (Nat.le_refl _)]
    simp
theorem gVote_enc {v : Vote} (h : v.ok) (hs : v.sign.length ≤ 65536) (r : Bytes) : gVote (some (encVote v ++ r)) = (some r, v) := by
  simp only [gVote, encVote, List.append_assoc, rI_enc h.kind, rI_enc h.height, rI_enc h.round, rH_enc h.block, rI_enc h.validator, rB_enc hs (by omega)]
theorem encVote_pos (v : Vote) : 0 < (encVote v).length := by
  have := encI_pos v.kind
  simp only [encVote, List.length_append]; omega
theorem encB_pos (l : Bytes) : 0 < (encB l).length := by
  have := encU_pos l.length
  simp only [encB, List.length_append]; omega
structure Commit.fit (c : Commit) : Prop where
  ok : c.ok
  len : c.votes.length ≤ 32
  votes : ∀ v ∈ c.votes, v.ok ∧ v.sign.length ≤ 65536
theorem gCommit_enc {c : Commit} (h : c.fit) (r : Bytes) : gCommit (some (encCommit c ++ r)) = (some r, c) := by
  have hl := gl_enc (g := gVote) (f := encVote) (l := c.votes) (most := 32) (fun x hx r => gVote_enc (h.votes x hx).1 (h.votes x hx).2 r) (fun x _ => encVote_pos x) h.len (by have := h.len; omega) r
  simp only [gCommit, encCommit, List.append_assoc, rI_enc h.ok.height, rI_enc h.ok.round, rH_enc h.ok.block, hl.1, hl.2]
theorem gHeader_enc {x : Header} (h : x.ok) (hc : x.chain.length ≤ 64) (r : Bytes) : gHeader (some (encHeader x ++ r)) = (some r, x) := by
  simp only [gHeader, encHeader, List.append_assoc, rB_enc hc (by omega), rI_enc h.height, rI_enc h.time, rH_enc h.last, rH_enc h.app, rH_enc h.txs, rH_enc h.validators, rH_enc h.next, rI_enc h.proposer]
structure Block.fit (b : Block) : Prop where
  header : b.header.ok
  chain : b.header.chain.length ≤ 64
  len : b.txs.length ≤ 64
  txs : ∀ x ∈ b.txs, x.length ≤ 65536
  last : b.last.fit
theorem gBlock_enc {x : Block} (h : x.fit) (r : Bytes) : gBlock (some (encBlock x ++ r)) = (some r, x) := by
  have hl := gl_enc (g := rB 65536) (f := encB) (l := x.txs) (most := 64) (fun t ht r => rB_enc (h.txs t ht) (by have := h.txs t ht; omega) r) (fun t _ => encB_pos t) h.len (by have := h.len; omega) (encCommit x.last ++ r)
  simp only [gBlock, encBlock, List.append_assoc, gHeader_enc h.header h.chain, hl.1, hl.2, gCommit_enc h.last]
end Go.Isk
