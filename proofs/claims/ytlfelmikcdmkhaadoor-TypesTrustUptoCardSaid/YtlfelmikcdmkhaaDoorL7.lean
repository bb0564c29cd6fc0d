/- Layer 11's law TypesThird, walked. -/
import Derived.Test.YtlfelmikcdmkhaaDoorCP
set_option linter.unusedVariables false
set_option linter.unusedSimpArgs false
set_option linter.unusedSectionVars false
namespace Go.Proofs.YtlfelmikcdmkhaaDoor
open Go Go.Isk Go.RowKit
set_option maxRecDepth 20000
section
variable {b : Base} {w : World} {L R : List It} {cs ds es : List Value} {c : CaseD} {x y : Commit} {α : Type}
theorem sumC_len (g : α → Nat) : ∀ (l : List α), l.length ≤ (l.map fun v => g v + 1).sum
  | [] => by simp
  | a :: l => by
    have := sumC_len g l
    simp only [List.map_cons, List.sum_cons, List.length_cons]
    omega
theorem sumC_mem (g : α → Nat) : ∀ {l : List α} {v : α}, v ∈ l → g v + 1 ≤ (l.map fun v => g v + 1).sum
  | a :: l, v, h => by
    simp only [List.map_cons, List.sum_cons]
    rcases List.mem_cons.1 h with rfl | h
    · omega
    · have := sumC_mem g h; omega
theorem comm_open (hs : Isk.Sep b w L) (hm : Ins L (commF cs x).it) : ∃ A k, cs = commC (.int .i64 x.height) (.int .i64 x.round) (u8s x.block) (.slice A x.votes.length k) ∧ x.ok ∧ Isk.Sep b w ((listF voteF 37 (.slice A x.votes.length k) x.votes).it :: L) := by
  obtain ⟨vv, rfl, hco, hvs⟩ : CommS _ _ _ x := hs.get hm
  obtain ⟨A, k, rfl⟩ := (hs.fact (f := listF voteF 37 vv x.votes) hvs).lst_len .lst
  exact ⟨A, k, rfl, hco, hs.fact hvs⟩
theorem case_open (hs : Isk.Sep b w L) (hm : Ins L (caseF cs c).it) : ∃ A k, cs = caseV c (.slice A c.set.length k) ∧ I64 c.dg ∧ I64 c.dp ∧ Isk.Sep b w ((listF valiF 34 (.slice A c.set.length k) c.set).it :: L) := by
  obtain ⟨vv, rfl, hco, hvs⟩ : CaseS _ _ _ c := hs.get hm
  obtain ⟨A, k, rfl⟩ := (hs.fact (f := listF valiF 34 vv c.set) hvs).lst_len .lst
  exact ⟨A, k, rfl, hco.1, hco.2, hs.fact hvs⟩
end
end Go.Proofs.YtlfelmikcdmkhaaDoor
