/- Things that lie in blocks that stay. -/
import Derived.Test.YtgagekffmamldaaGreatDoorSL
import Derived.Test.YtgagekffmamldaaGreatDoorTF
import Derived.Test.YtgagekffmamldaaGreatDoorM3
import Derived.Test.YtgagekffmamldaaGreatDoorRR
import Derived.Test.YtgagekffmamldaaGreatDoorKX
set_option linter.unusedVariables false
set_option linter.unusedSimpArgs false
set_option linter.unusedSectionVars false
namespace Go.Proofs.YtgagekffmamldaaGreatDoor
open Go Go.Isk Go.RowKit
section
variable {S S' D : Nat → Prop} {w w' : World} {v : Value} {n sz : Nat} {xs cs : List Value} {b : Base} {L R : List It} {g : Nat} {sv : Value}
def VoteS (S : Nat → Prop) (w : World) (cs : List Value) (v : Vote) : Prop :=
  ∃ sv, cs = voteC (.int .i64 v.kind) (.int .i64 v.height) (.int .i64 v.round) (u8s v.block) (.int .i64 v.validator) sv ∧ v.ok ∧ SlS S w sv v.sign.length 1 (u8s v.sign)
theorem VoteS.keep {x : Vote} (h : VoteS S w cs x) (hu : Upd D w w') (hd : ∀ k, S k → ¬ D k) : VoteS S w' cs x := by
  obtain ⟨sv, rfl, hok, h⟩ := h
  exact ⟨sv, rfl, hok, h.keep hu hd⟩
theorem VoteS.mono {x : Vote} (h : VoteS S w cs x) (hs : ∀ k, S k → k < w.heap.size → S' k) : VoteS S' w cs x := by
  obtain ⟨sv, rfl, hok, h⟩ := h
  exact ⟨sv, rfl, hok, h.mono hs⟩
def voteF : Fam Vote := fun cs v => ⟨fun S w => VoteS S w cs v, VoteS.keep, VoteS.mono⟩
def CommS (S : Nat → Prop) (w : World) (cs : List Value) (c : Commit) : Prop :=
  ∃ sv, cs = commC (.int .i64 c.height) (.int .i64 c.round) (u8s c.block) sv ∧ c.ok ∧ (listF voteF 37 sv c.votes).holds S w
theorem CommS.keep {x : Commit} (h : CommS S w cs x) (hu : Upd D w w') (hd : ∀ k, S k → ¬ D k) : CommS S w' cs x := by
  obtain ⟨sv, rfl, hok, h⟩ := h
  exact ⟨sv, rfl, hok, (listF voteF 37 sv _).keep h hu hd⟩
theorem CommS.mono {x : Commit} (h : CommS S w cs x) (hs : ∀ k, S k → k < w.heap.size → S' k) : CommS S' w cs x := by
  obtain ⟨sv, rfl, hok, h⟩ := h
  exact ⟨sv, rfl, hok, (listF voteF 37 sv _).mono h hs⟩
def commF : Fam Commit := fun cs c => ⟨fun S w => CommS S w cs c, CommS.keep, CommS.mono⟩
def headF : Fam Header := fun cs h => pureF (HeadIs cs h)
def valiF : Fam Validator := fun cs v => pureF (ValiIs cs v)
def BlokS (S : Nat → Prop) (w : World) (cs : List Value) (b : Block) : Prop :=
  ∃ hc sv cc, cs = blokC hc sv cc ∧ HeadIs hc b.header ∧ (listF bytesF 1 sv b.txs).holds S w ∧ CommS S w cc b.last
theorem BlokS.keep {x : Block} (h : BlokS S w cs x) (hu : Upd D w w') (hd : ∀ k, S k → ¬ D k) : BlokS S w' cs x := by
  obtain ⟨hc, sv, cc, rfl, h1, h2, h3⟩ := h
  exact ⟨hc, sv, cc, rfl, h1, (listF bytesF 1 sv _).keep h2 hu hd, h3.keep hu hd⟩
theorem BlokS.mono {x : Block} (h : BlokS S w cs x) (hs : ∀ k, S k → k < w.heap.size → S' k) : BlokS S' w cs x := by
  obtain ⟨hc, sv, cc, rfl, h1, h2, h3⟩ := h
  exact ⟨hc, sv, cc, rfl, h1, (listF bytesF 1 sv _).mono h2 hs, h3.mono hs⟩
def blokF : Fam Block := fun cs c => ⟨fun S w => BlokS S w cs c, BlokS.keep, BlokS.mono⟩
variable {s : Rdr} {most : Nat}
/-- the cells of a reader of the document -/
def rdvF (cs : List Value) (s : Rdr) : Fact := ⟨fun S w => RdV S w cs s, RdV.keep, fun h hs => h.mono hs⟩
theorem rdvF.len {s : Rdr} {cs : List Value} (h : Sep b w L) (hm : Ins L (rdvF cs s).it) : cs.length = 2 ∧ ∀ u ∈ cs, u.oneCell' = true := by
  have : RdV _ _ _ _ := h.get hm
  exact ⟨this.len, this.one⟩
end
end Go.Proofs.YtgagekffmamldaaGreatDoor
