/- Layer 11's law: votes, texts, commits held against each other. -/
import Derived.Test.YtlfelmikcdmkhaaGreatDoorL1
set_option linter.unusedVariables false
set_option linter.unusedSimpArgs false
set_option linter.unusedSectionVars false
namespace Go.Proofs.YtlfelmikcdmkhaaGreatDoor
open Go Go.Isk Go.RowKit
section
variable {b : Base} {w w' : World} {L R : List It} {g : Nat} {v sv av bv : Value} {s l : Bytes} {cs ds : List Value} {k : Value → World → Prop}
theorem newB_sep {r : Value} (hs : Sep b w L) (h : NewB w r w' l) : Sep b w' ((byF r l).it :: L) := (hs.ext h.2.1).fresh hs (fun _ h => h) h.1 h.2.2
end
theorem fits_one {k : Option IntKind} {v : Value} (h : fitK k v) : fits [k] [v] := ⟨h, trivial⟩
theorem fit_i64 {n : Int} (h : I64 n) : fitK (some .i64) (.int .i64 n) := ⟨rfl, by obtain ⟨h1, h2⟩ := h; simp [Lit.wf, IntKind.min, IntKind.max, IntKind.signed, IntKind.bits]; omega⟩
theorem fit_str {s : Bytes} (h : s.length ≤ 1099511627776) : fitK none (str s) := by
  have e : (⟨s.toArray⟩ : ByteArray).size = s.length := by simp [ByteArray.size]
  show (⟨s.toArray⟩ : ByteArray).size ≤ maxLen
  rw [e]; simp only [maxLen]; omega
theorem u8s_fit {l : Bytes} (h : l.length = 32) : fits (List.replicate 32 (some .u8)) (u8s l) := h ▸ u8s_fits l
theorem rB_len {most : Nat} {s : Rdr} : (rB most s).2.length ≤ most := by
  unfold rB
  split
  · simp
  · split
    · simp
    · rename_i h
      simp only [List.length_take]
      omega
theorem gList_all {α : Type} {g : Rdr → Rdr × α} {p : α → Prop} (h : ∀ s, p (g s).2) : ∀ (n : Nat) (s : Rdr), ∀ x ∈ (gList g n s).2, p x
  | 0, s, x, hx => by simp [gList] at hx
  | n + 1, s, x, hx => by
    simp only [gList, List.mem_append, List.mem_cons, List.not_mem_nil, or_false] at hx
    rcases hx with hx | rfl
    · exact gList_all h n s x hx
    · exact h _
def CommSmall (c : Commit) : Prop := c.votes.length ≤ 32 ∧ ∀ v ∈ c.votes, v.sign.length ≤ 65536
theorem decN_p {α : Type} {g : Rdr → Rdr × α} {o : α} {l : Bytes} {p : α → Prop} (h : ∀ s, p (g s).2) (ho : p o) : p (decN g o l).1 := by
  by_cases hd : (g (some l)).1 = some []
  · rw [decN_ok hd]; exact h _
  · rw [decN_no hd]; exact ho
end Go.Proofs.YtlfelmikcdmkhaaGreatDoor
