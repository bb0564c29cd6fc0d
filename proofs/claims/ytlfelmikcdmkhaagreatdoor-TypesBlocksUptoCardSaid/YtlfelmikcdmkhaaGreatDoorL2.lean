/- Layer 11's law: votes, texts, commits held against each other. -/
import Derived.Test.YtlfelmikcdmkhaaGreatDoorL1
set_option linter.unusedVariables false
set_option linter.unusedSimpArgs false
set_option linter.unusedSectionVars false
namespace Go.Proofs.YtlfelmikcdmkhaaGreatDoor
open Go Go.Isk Go.RowKit
section
variable {b : Base} {w w' : World} {L R : List It} {g : Nat} {v sv av bv : Value} {s l : Bytes} {cs ds : List Value} {k : Value → World → Prop}
theorem newB_sep {r : Value} (hs : Sep b w L) (h : NewB w r w' l) : Sep b w' ((byF r l).it :: L) := (hs.ext h.2.1).fresh hs (fun _ h => h) h.1 h.2.2
theorem encVote_len {v : Vote} (h : v.ok) (hl : v.sign.length ≤ 1073741824) : (encVote v).length ≤ v.sign.length + 100 := by
  have h1 := encI_len h.kind
  have h2 := encI_len h.height
  have h3 := encI_len h.round
  have h4 := encI_len h.validator
  have h5 := h.block
  have h6 := encB_len (l := v.sign) (by omega)
  simp only [encVote, List.length_append]
  omega
end
def CommSmall (c : Commit) : Prop := c.votes.length ≤ 32 ∧ ∀ v ∈ c.votes, v.sign.length ≤ 65536
end Go.Proofs.YtlfelmikcdmkhaaGreatDoor
