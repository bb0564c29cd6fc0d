/-
  NARROWER THAN 'FOR EVERY INPUT', by the rows' own cells (each row's printed sentence says how): FilesSteps: laid · FilesRuns: laid · FilesClone: laid.
  DERIVED. THE GIVEN ROWS OF THIS SEAT. 3 by the template 'for every input the law returns true; each argument reads behind the call as it read before'; 0 by the template 'total and deterministic' (their statements: YtiaiglgfangedaaDoorTotals.lean).
  GIVEN WITH THE SEED: the statements are not yours to turn. If you find one false, say at which input.
  Laid BY PROGRAM, IN A SANDBOX (cutbox-rows.mjs): the forced cells as the released guide's own fill.sh prints them over the translation d32b0d7e1ecb0f1e… (all of the seat's roots in one cut). By AI agents, Wed Nov 11 2026. No macro, syntax, notation, axiom, sorry.
-/
import Derived.Test.YtiaiglgfangedaaDoorChecked
import GoSem.Claim
import GoSem.ClaimJoined
import GoSem.ClaimMapViews
import Derived.JoinedTies
import Derived.KernelRfl
namespace Go.Proofs.YtiaiglgfangedaaDoor
/- THE CELL 'sum', in the pinned program and in every row, IS THE sha256 OF THE DUMP (.gsa) THAT YtiaiglgfangedaaDoorProg.lean LOADS. Nothing in Lean hashes anything: it is a label: what it is worth is what the hold of that sum in a sandbox is worth. -/
noncomputable def Tryd.pinned : Pinned := { name := "ytiaiglgfangedaadoor", sum := "d32b0d7e1ecb0f1ea0c125b096ff6e37bbe7d1d35b5b0f7d09f63432d306f49e", checked := Tryd.checked }
namespace Rows
def none {H : Type} : Left H := { results := [], args := [] }

/- WHAT THE LISTED PACKAGE-LEVEL VARIABLES READ AS WHEN THE CALL BEGINS. Each datum BY PROGRAM (the guide's laid-datum.mjs) off the statement by which the dump's own 'gosem.cut.vars' lays the variable. In a bare row this is a premise. The card (YtiaiglgfangedaaDoorCards.lean) ties it to the program's text. -/
def laid_errors_errorType {H : Type} : DataW H := .iface "internal/reflectlite.rtype" (.agg [.ptr (.lit (.string [101, 114, 114, 111, 114]))])

/-- 'isthmuslaw04.FilesSteps': WHATEVER THE INPUT: true; the input reads as it did. -/
def filesStepsSpec : ChangeSpec := { name := "filesSteps", fn := fun _ => fun
  | [d1, d2] => { results := [.lit (.bool true)], args := [d1, d2] }
  | _ => none }
def filesStepsRow : OpenClaim := { program := "ytiaiglgfangedaadoor", sum := "d32b0d7e1ecb0f1ea0c125b096ff6e37bbe7d1d35b5b0f7d09f63432d306f49e", func := "isthmus/isthmuslaw04.FilesSteps", spec := "filesSteps", inPlace := ["internal/reflectlite.ValueOf", "(internal/reflectlite.Value).Type", "(internal/reflectlite.Value).IsNil", "internal/reflectlite.TypeOf", "(internal/reflectlite.Value).Elem", "(internal/reflectlite.Value).Set"], unfollowed := true, recurses := true, named := ["errors.errorType"], apart := false, laid := [("errors.errorType", laid_errors_errorType)] }
def FilesStepsSaid : Prop := filesStepsRow.holds Tryd.pinned (OpenSpec.ofChange filesStepsSpec)

/-- ITS FALSE NEIGHBOUR: 'it returns false'. Refute it at one input. -/
def filesStepsWrong : ChangeSpec := { name := "filesSteps", fn := fun _ => fun
  | [d1, d2] => { results := [.lit (.bool false)], args := [d1, d2] }
  | _ => none }
def FilesStepsWrongFalsely : Prop := filesStepsRow.holds Tryd.pinned (OpenSpec.ofChange filesStepsWrong)

/-- 'isthmuslaw04.FilesRuns': WHATEVER THE INPUT: true; the input reads as it did. -/
def filesRunsSpec : ChangeSpec := { name := "filesRuns", fn := fun _ => fun
  | [d] => { results := [.lit (.bool true)], args := [d] }
  | _ => none }
def filesRunsRow : OpenClaim := { program := "ytiaiglgfangedaadoor", sum := "d32b0d7e1ecb0f1ea0c125b096ff6e37bbe7d1d35b5b0f7d09f63432d306f49e", func := "isthmus/isthmuslaw04.FilesRuns", spec := "filesRuns", inPlace := ["internal/reflectlite.ValueOf", "(internal/reflectlite.Value).Type", "(internal/reflectlite.Value).IsNil", "internal/reflectlite.TypeOf", "(internal/reflectlite.Value).Elem", "(internal/reflectlite.Value).Set", "maps.clone"], unfollowed := true, recurses := true, named := ["errors.errorType"], apart := false, laid := [("errors.errorType", laid_errors_errorType)] }
def FilesRunsSaid : Prop := filesRunsRow.holds Tryd.pinned (OpenSpec.ofChange filesRunsSpec)

/-- ITS FALSE NEIGHBOUR: 'it returns false'. Refute it at one input. -/
def filesRunsWrong : ChangeSpec := { name := "filesRuns", fn := fun _ => fun
  | [d] => { results := [.lit (.bool false)], args := [d] }
  | _ => none }
def FilesRunsWrongFalsely : Prop := filesRunsRow.holds Tryd.pinned (OpenSpec.ofChange filesRunsWrong)

/-- 'isthmuslaw04.FilesClone': WHATEVER THE INPUT: true; the input reads as it did. -/
def filesCloneSpec : ChangeSpec := { name := "filesClone", fn := fun _ => fun
  | [d1, d2] => { results := [.lit (.bool true)], args := [d1, d2] }
  | _ => none }
def filesCloneRow : OpenClaim := { program := "ytiaiglgfangedaadoor", sum := "d32b0d7e1ecb0f1ea0c125b096ff6e37bbe7d1d35b5b0f7d09f63432d306f49e", func := "isthmus/isthmuslaw04.FilesClone", spec := "filesClone", inPlace := ["internal/reflectlite.ValueOf", "(internal/reflectlite.Value).Type", "(internal/reflectlite.Value).IsNil", "internal/reflectlite.TypeOf", "(internal/reflectlite.Value).Elem", "(internal/reflectlite.Value).Set", "maps.clone"], unfollowed := true, recurses := true, named := ["errors.errorType"], apart := false, laid := [("errors.errorType", laid_errors_errorType)] }
def FilesCloneSaid : Prop := filesCloneRow.holds Tryd.pinned (OpenSpec.ofChange filesCloneSpec)

/-- ITS FALSE NEIGHBOUR: 'it returns false'. Refute it at one input. -/
def filesCloneWrong : ChangeSpec := { name := "filesClone", fn := fun _ => fun
  | [d1, d2] => { results := [.lit (.bool false)], args := [d1, d2] }
  | _ => none }
def FilesCloneWrongFalsely : Prop := filesCloneRow.holds Tryd.pinned (OpenSpec.ofChange filesCloneWrong)

/- THE SECOND FORM. 'bulk': how many values and letters a reading holds, each counted each time it is reached (what is shared counts as often as it is met; a slice's spare places count too). A statement '..UptoSaid' is the law's where the arguments, and the package variables that the reading takes, are together of bulk at most 1048576: NARROWER than '..Said'. Prove '..Said' where nothing that the law and all that it calls make is longer than what came in: it says more and counts as full. Else prove '..UptoSaid'. A law counts once. -/
mutual
def uptoBulk {H : Type} : DataW H → Nat
  | .lit (.string bytes) => bytes.length + 1
  | .lit _ => 1
  | .nil => 1
  | .ptr d => uptoBulk d + 1
  | .slice elems spare => uptoBulkAll elems + uptoBulkAll spare + 1
  | .agg parts => uptoBulkAll parts + 1
  | .iface _ d => uptoBulk d + 1
  | .map entries => uptoBulkEntries entries + 1
  | .held _ => 1
def uptoBulkAll {H : Type} : List (DataW H) → Nat
  | [] => 0
  | d :: r => uptoBulk d + uptoBulkAll r
def uptoBulkEntries {H : Type} : List (Lit × DataW H) → Nat
  | [] => 0
  | x :: r => uptoBulkEntry x + uptoBulkEntries r
def uptoBulkEntry {H : Type} : Lit × DataW H → Nat
  | (.string bytes, d) => bytes.length + uptoBulk d + 1
  | (_, d) => uptoBulk d + 1
 end
def uptoSmall : (H : Type) → List (DataW H) → Bool := fun _ ds => decide (uptoBulkAll ds ≤ 1048576)
def OpenSpec.upto (s : _root_.Go.ChangeSpec) : _root_.Go.OpenSpec := { _root_.Go.OpenSpec.ofChange s with cond := some uptoSmall }

/-- 'isthmuslaw04.FilesSteps', WHERE WHAT IT READS IS OF BULK AT MOST 1048576: true; the input reads as it did. -/
def filesStepsUptoRow : OpenClaim := { program := "ytiaiglgfangedaadoor", sum := "d32b0d7e1ecb0f1ea0c125b096ff6e37bbe7d1d35b5b0f7d09f63432d306f49e", func := "isthmus/isthmuslaw04.FilesSteps", spec := "filesSteps", inPlace := ["internal/reflectlite.ValueOf", "(internal/reflectlite.Value).Type", "(internal/reflectlite.Value).IsNil", "internal/reflectlite.TypeOf", "(internal/reflectlite.Value).Elem", "(internal/reflectlite.Value).Set"], unfollowed := true, recurses := true, named := ["errors.errorType"], apart := false, laid := [("errors.errorType", laid_errors_errorType)], narrowed := true }
def FilesStepsUptoSaid : Prop := filesStepsUptoRow.holds Tryd.pinned (OpenSpec.upto filesStepsSpec)

/-- 'isthmuslaw04.FilesRuns', WHERE WHAT IT READS IS OF BULK AT MOST 1048576: true; the input reads as it did. -/
def filesRunsUptoRow : OpenClaim := { program := "ytiaiglgfangedaadoor", sum := "d32b0d7e1ecb0f1ea0c125b096ff6e37bbe7d1d35b5b0f7d09f63432d306f49e", func := "isthmus/isthmuslaw04.FilesRuns", spec := "filesRuns", inPlace := ["internal/reflectlite.ValueOf", "(internal/reflectlite.Value).Type", "(internal/reflectlite.Value).IsNil", "internal/reflectlite.TypeOf", "(internal/reflectlite.Value).Elem", "(internal/reflectlite.Value).Set", "maps.clone"], unfollowed := true, recurses := true, named := ["errors.errorType"], apart := false, laid := [("errors.errorType", laid_errors_errorType)], narrowed := true }
def FilesRunsUptoSaid : Prop := filesRunsUptoRow.holds Tryd.pinned (OpenSpec.upto filesRunsSpec)

/-- 'isthmuslaw04.FilesClone', WHERE WHAT IT READS IS OF BULK AT MOST 1048576: true; the input reads as it did. -/
def filesCloneUptoRow : OpenClaim := { program := "ytiaiglgfangedaadoor", sum := "d32b0d7e1ecb0f1ea0c125b096ff6e37bbe7d1d35b5b0f7d09f63432d306f49e", func := "isthmus/isthmuslaw04.FilesClone", spec := "filesClone", inPlace := ["internal/reflectlite.ValueOf", "(internal/reflectlite.Value).Type", "(internal/reflectlite.Value).IsNil", "internal/reflectlite.TypeOf", "(internal/reflectlite.Value).Elem", "(internal/reflectlite.Value).Set", "maps.clone"], unfollowed := true, recurses := true, named := ["errors.errorType"], apart := false, laid := [("errors.errorType", laid_errors_errorType)], narrowed := true }
def FilesCloneUptoSaid : Prop := filesCloneUptoRow.holds Tryd.pinned (OpenSpec.upto filesCloneSpec)

end Rows
end Go.Proofs.YtiaiglgfangedaaDoor
