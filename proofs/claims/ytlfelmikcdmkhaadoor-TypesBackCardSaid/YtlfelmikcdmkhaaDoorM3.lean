/- Things of bytes: plain mathematics. -/
import Derived.Test.YtlfelmikcdmkhaaDoorM2
set_option linter.unusedVariables false
set_option linter.unusedSimpArgs false
set_option linter.unusedSectionVars false
namespace Go.Isk
def gVote (s : Rdr) : Rdr × Vote :=
  let a := rI s; let b := rI a.1; let c := rI b.1; let d := rH c.1; let e := rI d.1; let f := rB 65536 e.1
  (f.1, ⟨a.2, b.2, c.2, d.2, e.2, f.2⟩)
def gList {α : Type} (g : Rdr → Rdr × α) : Nat → Rdr → Rdr × List α
  | 0, s => (s, [])
  | n + 1, s => let a := gList g n s; let b := g a.1; (b.1, a.2 ++ [b.2])
theorem gList_len {α : Type} (g : Rdr → Rdr × α) : ∀ (n : Nat) (s : Rdr), (gList g n s).2.length = n
  | 0, _ => rfl
  | n + 1, s => by simp [gList, gList_len g n s]
def gCommit (s : Rdr) : Rdr × Commit :=
  let a := rI s; let b := rI a.1; let c := rH b.1; let d := rC 32 c.1; let e := gList gVote d.2 d.1
  (e.1, ⟨a.2, b.2, c.2, e.2⟩)
def gHeader (s : Rdr) : Rdr × Header :=
  let a := rB 64 s; let b := rI a.1; let c := rI b.1; let d := rH c.1; let e := rH d.1; let f := rH e.1; let g := rH f.1; let h := rH g.1; let i := rI h.1
  (i.1, ⟨a.2, b.2, c.2, d.2, e.2, f.2, g.2, h.2, i.2⟩)
def gBlock (s : Rdr) : Rdr × Block :=
  let a := gHeader s; let b := rC 64 a.1; let c := gList (rB 65536) b.2 b.1; let d := gCommit c.1
  (d.1, ⟨a.2, c.2, d.2⟩)
def gVal (s : Rdr) : Rdr × Validator :=
  let a := rB 64 s; let b := rH a.1; let c := rI b.1
  (c.1, ⟨a.2, b.2, c.2⟩)
def gSet (s : Rdr) : Rdr × List Validator := let a := rC 32 s; gList gVal a.2 a.1
/-- the thing that is all of some bytes -/
def dec {α : Type} (g : Rdr → Rdr × α) (b : Bytes) : Option α := match g (some b) with
  | (some [], x) => some x
  | _ => none
def noVote : Vote := ⟨0, 0, 0, zero32, 0, []⟩
def noCommit : Commit := ⟨0, 0, zero32, []⟩
def noHeader : Header := ⟨[], 0, 0, zero32, zero32, zero32, zero32, zero32, 0⟩
def noBlock : Block := ⟨noHeader, [], noCommit⟩
theorem gVote_ok {s : Rdr} : (gVote s).2.ok := ⟨rI_i64, rI_i64, rI_i64, rH_len, rI_i64⟩
theorem gCommit_ok {s : Rdr} : (gCommit s).2.ok := ⟨rI_i64, rI_i64, rH_len⟩
theorem gHeader_ok {s : Rdr} : (gHeader s).2.ok := ⟨rI_i64, rI_i64, rH_len, rH_len, rH_len, rH_len, rH_len, rI_i64⟩
end Go.Isk
