/- types: things as bytes. -/
import Derived.Test.YtgagekffmamldaaGreatDoorK7
import Derived.Test.YtgagekffmamldaaGreatDoorPW
import Derived.Test.YtgagekffmamldaaGreatDoorST
set_option linter.unusedVariables false
set_option linter.unusedSimpArgs false
set_option linter.unusedSectionVars false
namespace Go.Proofs.YtgagekffmamldaaGreatDoor
open Go Go.Isk Go.RowKit
/-- the cells of a vote -/
def VoteIs (B : Nat) (w : World) (cs : List Value) (v : Vote) : Prop :=
  ∃ sv, cs = voteC (.int .i64 v.kind) (.int .i64 v.height) (.int .i64 v.round) (u8s v.block) (.int .i64 v.validator) sv ∧ v.ok ∧ SlB B w sv v.sign.length 1 (u8s v.sign)
theorem u8s_len {l : Bytes} {n : Nat} (h : l.length = n) : (u8s l).length = n := by rw [u8s_length, h]
theorem VoteIs.keep {B : Nat} {w w' : World} {cs : List Value} {v : Vote} {S : Nat → Prop} (h : VoteIs B w cs v) (hu : Upd S w w') (hs : ∀ k, S k → B ≤ k) : VoteIs B w' cs v := by
  obtain ⟨sv, rfl, hok, h⟩ := h
  exact ⟨sv, rfl, hok, h.keep hu hs⟩
theorem VoteIs.len {B : Nat} {w : World} {cs : List Value} {v : Vote} (h : VoteIs B w cs v) : cs.length = 37 := by
  obtain ⟨sv, rfl, hok, h⟩ := h
  exact voteC_len (u8s_len hok.block)
theorem VoteIs.one {B : Nat} {w : World} {cs : List Value} {v : Vote} (h : VoteIs B w cs v) : ∀ u ∈ cs, u.oneCell' = true := by
  obtain ⟨sv, rfl, hok, h⟩ := h
  have h1 := u8s_one v.block
  have h2 := (sl_cells h.1).2
  intro u hu
  simp only [voteC, List.mem_cons, List.mem_append, List.not_mem_nil, or_false] at hu
  rcases hu with rfl | rfl | rfl | hu | rfl | rfl
  · rfl
  · rfl
  · rfl
  · exact h1 u hu
  · rfl
  · exact h2
/-- the cells of a commit -/
def CommIs (B : Nat) (w : World) (cs : List Value) (c : Commit) : Prop :=
  ∃ sv, cs = commC (.int .i64 c.height) (.int .i64 c.round) (u8s c.block) sv ∧ c.ok ∧ ListIs (VoteIs B w) B w sv 37 c.votes
theorem VotesIs.keep {B : Nat} {w w' : World} {sv : Value} {l : List Vote} {S : Nat → Prop} (h : ListIs (VoteIs B w) B w sv 37 l) (hu : Upd S w w') (hs : ∀ k, S k → B ≤ k) : ListIs (VoteIs B w') B w' sv 37 l :=
  ListIs.keep h hu hs fun _ _ h => h.keep hu hs
theorem CommIs.keep {B : Nat} {w w' : World} {cs : List Value} {c : Commit} {S : Nat → Prop} (h : CommIs B w cs c) (hu : Upd S w w') (hs : ∀ k, S k → B ≤ k) : CommIs B w' cs c := by
  obtain ⟨sv, rfl, hok, h⟩ := h
  exact ⟨sv, rfl, hok, VotesIs.keep h hu hs⟩
theorem CommIs.len {B : Nat} {w : World} {cs : List Value} {c : Commit} (h : CommIs B w cs c) : cs.length = 35 := by
  obtain ⟨sv, rfl, hok, h⟩ := h
  exact commC_len (u8s_len hok.block)
theorem listIs_one {B sz : Nat} {w : World} {sv : Value} {α : Type} {R : List Value → α → Prop} {xs : List α} (h : ListIs R B w sv sz xs) : sv.cells = #[sv] ∧ sv.oneCell' = true := by
  obtain ⟨xss, h0, h1, h2, h3⟩ := h
  exact sl_cells h3.1
theorem CommIs.one {B : Nat} {w : World} {cs : List Value} {c : Commit} (h : CommIs B w cs c) : ∀ u ∈ cs, u.oneCell' = true := by
  obtain ⟨sv, rfl, hok, h⟩ := h
  have h1 := u8s_one c.block
  have h2 := (listIs_one h).2
  intro u hu
  simp only [commC, List.mem_cons, List.mem_append, List.not_mem_nil, or_false] at hu
  rcases hu with rfl | rfl | hu | rfl
  · rfl
  · rfl
  · exact h1 u hu
  · exact h2
/-- the cells of a header -/
def HeadIs (cs : List Value) (h : Header) : Prop :=
  cs = headC (str h.chain) (.int .i64 h.height) (.int .i64 h.time) (u8s h.last) (u8s h.app) (u8s h.txs) (u8s h.validators) (u8s h.next) (.int .i64 h.proposer) ∧ h.ok
theorem HeadIs.len {cs : List Value} {h : Header} (hh : HeadIs cs h) : cs.length = 164 := by
  obtain ⟨rfl, hok⟩ := hh
  exact headC_len (u8s_len hok.last) (u8s_len hok.app) (u8s_len hok.txs) (u8s_len hok.validators) (u8s_len hok.next)
theorem HeadIs.one {cs : List Value} {h : Header} (hh : HeadIs cs h) : ∀ u ∈ cs, u.oneCell' = true := by
  obtain ⟨rfl, hok⟩ := hh
  intro u hu
  simp only [headC, List.mem_cons, List.mem_append, List.not_mem_nil, or_false] at hu
  rcases hu with rfl | rfl | rfl | hu | hu | hu | hu | hu | rfl
  · rfl
  · rfl
  · rfl
  · exact u8s_one _ u hu
  · exact u8s_one _ u hu
  · exact u8s_one _ u hu
  · exact u8s_one _ u hu
  · exact u8s_one _ u hu
  · rfl
/-- the cell of some bytes -/
def ByteIs (B : Nat) (w : World) (cs : List Value) (t : Bytes) : Prop := ∃ x, cs = [x] ∧ SlB B w x t.length 1 (u8s t)
theorem ByteIs.keep {B : Nat} {w w' : World} {cs : List Value} {t : Bytes} {S : Nat → Prop} (h : ByteIs B w cs t) (hu : Upd S w w') (hs : ∀ k, S k → B ≤ k) : ByteIs B w' cs t := by
  obtain ⟨x, rfl, h⟩ := h
  exact ⟨x, rfl, h.keep hu hs⟩
theorem TxsIs.keep {B : Nat} {w w' : World} {sv : Value} {l : List Bytes} {S : Nat → Prop} (h : ListIs (ByteIs B w) B w sv 1 l) (hu : Upd S w w') (hs : ∀ k, S k → B ≤ k) : ListIs (ByteIs B w') B w' sv 1 l :=
  ListIs.keep h hu hs fun _ _ h => h.keep hu hs
/-- the cells of a block -/
def BlokIs (B : Nat) (w : World) (cs : List Value) (b : Block) : Prop :=
  ∃ hc sv cc, cs = blokC hc sv cc ∧ HeadIs hc b.header ∧ ListIs (ByteIs B w) B w sv 1 b.txs ∧ CommIs B w cc b.last
theorem BlokIs.keep {B : Nat} {w w' : World} {cs : List Value} {b : Block} {S : Nat → Prop} (h : BlokIs B w cs b) (hu : Upd S w w') (hs : ∀ k, S k → B ≤ k) : BlokIs B w' cs b := by
  obtain ⟨hc, sv, cc, rfl, h1, h2, h3⟩ := h
  exact ⟨hc, sv, cc, rfl, h1, TxsIs.keep h2 hu hs, h3.keep hu hs⟩
/-- the cells of a validator -/
def ValiIs (cs : List Value) (v : Validator) : Prop := cs = valiC (str v.name) (u8s v.key) (.int .i64 v.power) ∧ v.ok
theorem ValiIs.len {cs : List Value} {v : Validator} (h : ValiIs cs v) : cs.length = 34 := by
  obtain ⟨rfl, hok⟩ := h
  exact valiC_len (u8s_len hok.key)
theorem ValiIs.one {cs : List Value} {v : Validator} (h : ValiIs cs v) : ∀ u ∈ cs, u.oneCell' = true := by
  obtain ⟨rfl, hok⟩ := h
  intro u hu
  simp only [valiC, List.mem_cons, List.mem_append, List.not_mem_nil, or_false] at hu
  rcases hu with rfl | hu | rfl
  · rfl
  · exact u8s_one _ u hu
  · rfl
theorem ValsIs.keep {B : Nat} {w w' : World} {sv : Value} {l : List Validator} {S : Nat → Prop} (h : ListIs ValiIs B w sv 34 l) (hu : Upd S w w') (hs : ∀ k, S k → B ≤ k) : ListIs ValiIs B w' sv 34 l :=
  ListIs.keep h hu hs fun _ _ h => h
end Go.Proofs.YtgagekffmamldaaGreatDoor
set_option linter.unusedVariables false
set_option linter.unusedSimpArgs false
set_option linter.unusedSectionVars false
namespace Go.Proofs.YtgagekffmamldaaGreatDoor
open Go Go.Isk Go.RowKit
/-- r is a new slice of just these bytes; what was there stays -/
def NewB (w : World) (r : Value) (w' : World) (l : Bytes) : Prop := Sl w' r l.length 1 (u8s l) ∧ Ext w w' ∧ (∀ k, r.ownBlock = some k → w.heap.size ≤ k)
theorem NewB.after {w w1 w2 : World} {r : Value} {l : Bytes} (hu : Ext w w1) (h : NewB w1 r w2 l) : NewB w r w2 l := ⟨h.1, hu.after h.2.1, fun k hk => Nat.le_trans hu.size (h.2.2 k hk)⟩
theorem listIs_mono {α : Type} {R R' : List Value → α → Prop} {B B' sz : Nat} {w : World} {sv : Value} {xs : List α} (h : ListIs R B w sv sz xs) (hs : ∀ n ys, SlB B w sv n sz ys → SlB B' w sv n sz ys) (hR : ∀ x a, R x a → R' x a) : ListIs R' B' w sv sz xs := by
  obtain ⟨xss, h0, h1, h2, h3⟩ := h
  exact ⟨xss, h0, fun i hi x hx => hR _ _ (h1 i hi x hx), h2, hs _ _ h3⟩
theorem VoteIs.mono {B B' : Nat} {w : World} {cs : List Value} {v : Vote} (h : VoteIs B w cs v) (hB : B ≤ B') : VoteIs B' w cs v := by
  obtain ⟨sv, rfl, hok, h⟩ := h
  exact ⟨sv, rfl, hok, h.mono hB⟩
theorem VotesIs.mono {B B' : Nat} {w : World} {sv : Value} {l : List Vote} (h : ListIs (VoteIs B w) B w sv 37 l) (hB : B ≤ B') : ListIs (VoteIs B' w) B' w sv 37 l := listIs_mono h (fun _ _ h => h.mono hB) fun _ _ h => h.mono hB
theorem CommIs.mono {B B' : Nat} {w : World} {cs : List Value} {c : Commit} (h : CommIs B w cs c) (hB : B ≤ B') : CommIs B' w cs c := by
  obtain ⟨sv, rfl, hok, h⟩ := h
  exact ⟨sv, rfl, hok, VotesIs.mono h hB⟩
theorem ByteIs.mono {B B' : Nat} {w : World} {cs : List Value} {t : Bytes} (h : ByteIs B w cs t) (hB : B ≤ B') : ByteIs B' w cs t := by
  obtain ⟨x, rfl, h⟩ := h
  exact ⟨x, rfl, h.mono hB⟩
theorem TxsIs.mono {B B' : Nat} {w : World} {sv : Value} {l : List Bytes} (h : ListIs (ByteIs B w) B w sv 1 l) (hB : B ≤ B') : ListIs (ByteIs B' w) B' w sv 1 l := listIs_mono h (fun _ _ h => h.mono hB) fun _ _ h => h.mono hB
theorem BlokIs.mono {B B' : Nat} {w : World} {cs : List Value} {b : Block} (h : BlokIs B w cs b) (hB : B ≤ B') : BlokIs B' w cs b := by
  obtain ⟨hc, sv, cc, rfl, h1, h2, h3⟩ := h
  exact ⟨hc, sv, cc, rfl, h1, TxsIs.mono h2 hB, h3.mono hB⟩
theorem BlokIs.len {B : Nat} {w : World} {cs : List Value} {b : Block} (h : BlokIs B w cs b) : cs.length = 200 := by
  obtain ⟨hc, sv, cc, rfl, h1, h2, h3⟩ := h
  exact blokC_len h1.len h3.len
theorem ValsIs.mono {B B' : Nat} {w : World} {sv : Value} {l : List Validator} (h : ListIs ValiIs B w sv 34 l) (hB : B ≤ B') : ListIs ValiIs B' w sv 34 l := listIs_mono h (fun _ _ h => h.mono hB) fun _ _ h => h
end Go.Proofs.YtgagekffmamldaaGreatDoor
