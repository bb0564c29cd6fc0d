/- Structs as cells, and their fields: printed by structs.py. -/
import Derived.Test.YtlfelmikcdmkhaaGreatDoorK6
import Derived.Test.YtlfelmikcdmkhaaGreatDoorN
set_option linter.unusedVariables false
set_option linter.unusedSimpArgs false
set_option linter.unusedSectionVars false
namespace Go.Proofs.YtlfelmikcdmkhaaGreatDoor
open Go Go.Isk Go.RowKit
/-- the cells of a T.api_Vote -/
def voteC (a0 : Value) (a1 : Value) (a2 : Value) (a3 : List Value) (a4 : Value) (a5 : Value) : List Value := a0 :: (a1 :: (a2 :: ((a3 ++ (a4 :: (a5 :: ([])))))))
theorem voteC_len {a0 a1 a2 a4 a5 : Value} {a3 : List Value} (h3 : a3.length = 32) : (voteC a0 a1 a2 a3 a4 a5).length = 37 := by simp [voteC, h3]
theorem voteC_d0 {a0 a1 a2 a4 a5 : Value} {a3 : List Value}  : (voteC a0 a1 a2 a3 a4 a5).drop 0 = a0 :: (a1 :: (a2 :: ((a3 ++ (a4 :: (a5 :: ([]))))))) := rfl
theorem vote.t0 {a0 a1 a2 a4 a5 : Value} {a3 : List Value}  {g : Nat} {S : World → Prop} {k : Value → Prop} (hS : ∀ w, S w → Blk w g T.api_Vote (voteC a0 a1 a2 a3 a4 a5)) (hk : k a0) :
    tk Tryz.prog S (Instr.fieldAt T.api_Vote (.pointer (some ⟨g, 0, none⟩)) 0) fun t => tk Tryz.prog S (Instr.loadAt T.int t) k :=
  tk_get1 (off := 0) (by kernel_rfl) (by kernel_rfl) (voteC_d0 ) hS hk
theorem vote.g0 {a0 a1 a2 a4 a5 : Value} {a3 : List Value}  {g : Nat} {w : World} {k : Value → World → Prop} (hS : Blk w g T.api_Vote (voteC a0 a1 a2 a3 a4 a5)) (hk : k a0 w) :
    o1 Tryz.prog (Instr.fieldAt T.api_Vote (.pointer (some ⟨g, 0, none⟩)) 0) w fun t w => o1 Tryz.prog (Instr.loadAt T.int t) w k :=
  o1_get1 (off := 0) (by kernel_rfl) (by kernel_rfl) (voteC_d0 ) hS hk
theorem voteC_d1 {a0 a1 a2 a4 a5 : Value} {a3 : List Value}  : (voteC a0 a1 a2 a3 a4 a5).drop 1 = a1 :: (a2 :: ((a3 ++ (a4 :: (a5 :: ([])))))) := rfl
theorem vote.t1 {a0 a1 a2 a4 a5 : Value} {a3 : List Value}  {g : Nat} {S : World → Prop} {k : Value → Prop} (hS : ∀ w, S w → Blk w g T.api_Vote (voteC a0 a1 a2 a3 a4 a5)) (hk : k a1) :
    tk Tryz.prog S (Instr.fieldAt T.api_Vote (.pointer (some ⟨g, 0, none⟩)) 1) fun t => tk Tryz.prog S (Instr.loadAt T.int t) k :=
  tk_get1 (off := 1) (by kernel_rfl) (by kernel_rfl) (voteC_d1 ) hS hk
theorem vote.g1 {a0 a1 a2 a4 a5 : Value} {a3 : List Value}  {g : Nat} {w : World} {k : Value → World → Prop} (hS : Blk w g T.api_Vote (voteC a0 a1 a2 a3 a4 a5)) (hk : k a1 w) :
    o1 Tryz.prog (Instr.fieldAt T.api_Vote (.pointer (some ⟨g, 0, none⟩)) 1) w fun t w => o1 Tryz.prog (Instr.loadAt T.int t) w k :=
  o1_get1 (off := 1) (by kernel_rfl) (by kernel_rfl) (voteC_d1 ) hS hk
theorem voteC_d2 {a0 a1 a2 a4 a5 : Value} {a3 : List Value}  : (voteC a0 a1 a2 a3 a4 a5).drop 2 = a2 :: ((a3 ++ (a4 :: (a5 :: ([]))))) := rfl
theorem vote.t2 {a0 a1 a2 a4 a5 : Value} {a3 : List Value}  {g : Nat} {S : World → Prop} {k : Value → Prop} (hS : ∀ w, S w → Blk w g T.api_Vote (voteC a0 a1 a2 a3 a4 a5)) (hk : k a2) :
    tk Tryz.prog S (Instr.fieldAt T.api_Vote (.pointer (some ⟨g, 0, none⟩)) 2) fun t => tk Tryz.prog S (Instr.loadAt T.int t) k :=
  tk_get1 (off := 2) (by kernel_rfl) (by kernel_rfl) (voteC_d2 ) hS hk
theorem vote.g2 {a0 a1 a2 a4 a5 : Value} {a3 : List Value}  {g : Nat} {w : World} {k : Value → World → Prop} (hS : Blk w g T.api_Vote (voteC a0 a1 a2 a3 a4 a5)) (hk : k a2 w) :
    o1 Tryz.prog (Instr.fieldAt T.api_Vote (.pointer (some ⟨g, 0, none⟩)) 2) w fun t w => o1 Tryz.prog (Instr.loadAt T.int t) w k :=
  o1_get1 (off := 2) (by kernel_rfl) (by kernel_rfl) (voteC_d2 ) hS hk
theorem voteC_d3 {a0 a1 a2 a4 a5 : Value} {a3 : List Value}  : (voteC a0 a1 a2 a3 a4 a5).drop 3 = a3 ++ (a4 :: (a5 :: ([]))) := rfl
theorem vote.t3 {a0 a1 a2 a4 a5 : Value} {a3 : List Value}  (h3 : a3.length = 32) {g : Nat} {S : World → Prop} {k : Value → Prop} (hS : ∀ w, S w → Blk w g T.api_Vote (voteC a0 a1 a2 a3 a4 a5)) (hk : k (.agg a3.toArray)) :
    tk Tryz.prog S (Instr.fieldAt T.api_Vote (.pointer (some ⟨g, 0, none⟩)) 3) fun t => tk Tryz.prog S (Instr.loadAt T.api_Hash t) k :=
  tk_getn (off := 3) (by kernel_rfl) (by kernel_rfl) h3 (voteC_d3 ) hS hk
theorem vote.g3 {a0 a1 a2 a4 a5 : Value} {a3 : List Value}  (h3 : a3.length = 32) {g : Nat} {w : World} {k : Value → World → Prop} (hS : Blk w g T.api_Vote (voteC a0 a1 a2 a3 a4 a5)) (hk : k (.agg a3.toArray) w) :
    o1 Tryz.prog (Instr.fieldAt T.api_Vote (.pointer (some ⟨g, 0, none⟩)) 3) w fun t w => o1 Tryz.prog (Instr.loadAt T.api_Hash t) w k :=
  o1_getn (off := 3) (by kernel_rfl) (by kernel_rfl) h3 (voteC_d3 ) hS hk
theorem voteC_d4 {a0 a1 a2 a4 a5 : Value} {a3 : List Value} (h3 : a3.length = 32) : (voteC a0 a1 a2 a3 a4 a5).drop 35 = a4 :: (a5 :: ([])) := by
  unfold voteC
  simp [List.drop_append, List.drop_of_length_le, h3]
theorem vote.t4 {a0 a1 a2 a4 a5 : Value} {a3 : List Value} (h3 : a3.length = 32) {g : Nat} {S : World → Prop} {k : Value → Prop} (hS : ∀ w, S w → Blk w g T.api_Vote (voteC a0 a1 a2 a3 a4 a5)) (hk : k a4) :
    tk Tryz.prog S (Instr.fieldAt T.api_Vote (.pointer (some ⟨g, 0, none⟩)) 4) fun t => tk Tryz.prog S (Instr.loadAt T.int t) k :=
  tk_get1 (off := 35) (by kernel_rfl) (by kernel_rfl) (voteC_d4 h3) hS hk
theorem vote.g4 {a0 a1 a2 a4 a5 : Value} {a3 : List Value} (h3 : a3.length = 32) {g : Nat} {w : World} {k : Value → World → Prop} (hS : Blk w g T.api_Vote (voteC a0 a1 a2 a3 a4 a5)) (hk : k a4 w) :
    o1 Tryz.prog (Instr.fieldAt T.api_Vote (.pointer (some ⟨g, 0, none⟩)) 4) w fun t w => o1 Tryz.prog (Instr.loadAt T.int t) w k :=
  o1_get1 (off := 35) (by kernel_rfl) (by kernel_rfl) (voteC_d4 h3) hS hk
theorem voteC_d5 {a0 a1 a2 a4 a5 : Value} {a3 : List Value} (h3 : a3.length = 32) : (voteC a0 a1 a2 a3 a4 a5).drop 36 = a5 :: ([]) := by
  unfold voteC
  simp [List.drop_append, List.drop_of_length_le, h3]
theorem vote.t5 {a0 a1 a2 a4 a5 : Value} {a3 : List Value} (h3 : a3.length = 32) {g : Nat} {S : World → Prop} {k : Value → Prop} (hS : ∀ w, S w → Blk w g T.api_Vote (voteC a0 a1 a2 a3 a4 a5)) (hk : k a5) :
    tk Tryz.prog S (Instr.fieldAt T.api_Vote (.pointer (some ⟨g, 0, none⟩)) 5) fun t => tk Tryz.prog S (Instr.loadAt T.sl_uint8 t) k :=
  tk_get1 (off := 36) (by kernel_rfl) (by kernel_rfl) (voteC_d5 h3) hS hk
theorem vote.g5 {a0 a1 a2 a4 a5 : Value} {a3 : List Value} (h3 : a3.length = 32) {g : Nat} {w : World} {k : Value → World → Prop} (hS : Blk w g T.api_Vote (voteC a0 a1 a2 a3 a4 a5)) (hk : k a5 w) :
    o1 Tryz.prog (Instr.fieldAt T.api_Vote (.pointer (some ⟨g, 0, none⟩)) 5) w fun t w => o1 Tryz.prog (Instr.loadAt T.sl_uint8 t) w k :=
  o1_get1 (off := 36) (by kernel_rfl) (by kernel_rfl) (voteC_d5 h3) hS hk
/-- the cells of a T.api_Commit -/
def commC (a0 : Value) (a1 : Value) (a2 : List Value) (a3 : Value) : List Value := a0 :: (a1 :: ((a2 ++ (a3 :: ([])))))
theorem commC_len {a0 a1 a3 : Value} {a2 : List Value} (h2 : a2.length = 32) : (commC a0 a1 a2 a3).length = 35 := by simp [commC, h2]
theorem commC_d0 {a0 a1 a3 : Value} {a2 : List Value}  : (commC a0 a1 a2 a3).drop 0 = a0 :: (a1 :: ((a2 ++ (a3 :: ([]))))) := rfl
theorem comm.t0 {a0 a1 a3 : Value} {a2 : List Value}  {g : Nat} {S : World → Prop} {k : Value → Prop} (hS : ∀ w, S w → Blk w g T.api_Commit (commC a0 a1 a2 a3)) (hk : k a0) :
    tk Tryz.prog S (Instr.fieldAt T.api_Commit (.pointer (some ⟨g, 0, none⟩)) 0) fun t => tk Tryz.prog S (Instr.loadAt T.int t) k :=
  tk_get1 (off := 0) (by kernel_rfl) (by kernel_rfl) (commC_d0 ) hS hk
theorem comm.g0 {a0 a1 a3 : Value} {a2 : List Value}  {g : Nat} {w : World} {k : Value → World → Prop} (hS : Blk w g T.api_Commit (commC a0 a1 a2 a3)) (hk : k a0 w) :
    o1 Tryz.prog (Instr.fieldAt T.api_Commit (.pointer (some ⟨g, 0, none⟩)) 0) w fun t w => o1 Tryz.prog (Instr.loadAt T.int t) w k :=
  o1_get1 (off := 0) (by kernel_rfl) (by kernel_rfl) (commC_d0 ) hS hk
theorem commC_d1 {a0 a1 a3 : Value} {a2 : List Value}  : (commC a0 a1 a2 a3).drop 1 = a1 :: ((a2 ++ (a3 :: ([])))) := rfl
theorem comm.t1 {a0 a1 a3 : Value} {a2 : List Value}  {g : Nat} {S : World → Prop} {k : Value → Prop} (hS : ∀ w, S w → Blk w g T.api_Commit (commC a0 a1 a2 a3)) (hk : k a1) :
    tk Tryz.prog S (Instr.fieldAt T.api_Commit (.pointer (some ⟨g, 0, none⟩)) 1) fun t => tk Tryz.prog S (Instr.loadAt T.int t) k :=
  tk_get1 (off := 1) (by kernel_rfl) (by kernel_rfl) (commC_d1 ) hS hk
theorem comm.g1 {a0 a1 a3 : Value} {a2 : List Value}  {g : Nat} {w : World} {k : Value → World → Prop} (hS : Blk w g T.api_Commit (commC a0 a1 a2 a3)) (hk : k a1 w) :
    o1 Tryz.prog (Instr.fieldAt T.api_Commit (.pointer (some ⟨g, 0, none⟩)) 1) w fun t w => o1 Tryz.prog (Instr.loadAt T.int t) w k :=
  o1_get1 (off := 1) (by kernel_rfl) (by kernel_rfl) (commC_d1 ) hS hk
theorem commC_d2 {a0 a1 a3 : Value} {a2 : List Value}  : (commC a0 a1 a2 a3).drop 2 = a2 ++ (a3 :: ([])) := rfl
theorem comm.t2 {a0 a1 a3 : Value} {a2 : List Value}  (h2 : a2.length = 32) {g : Nat} {S : World → Prop} {k : Value → Prop} (hS : ∀ w, S w → Blk w g T.api_Commit (commC a0 a1 a2 a3)) (hk : k (.agg a2.toArray)) :
    tk Tryz.prog S (Instr.fieldAt T.api_Commit (.pointer (some ⟨g, 0, none⟩)) 2) fun t => tk Tryz.prog S (Instr.loadAt T.api_Hash t) k :=
  tk_getn (off := 2) (by kernel_rfl) (by kernel_rfl) h2 (commC_d2 ) hS hk
theorem comm.g2 {a0 a1 a3 : Value} {a2 : List Value}  (h2 : a2.length = 32) {g : Nat} {w : World} {k : Value → World → Prop} (hS : Blk w g T.api_Commit (commC a0 a1 a2 a3)) (hk : k (.agg a2.toArray) w) :
    o1 Tryz.prog (Instr.fieldAt T.api_Commit (.pointer (some ⟨g, 0, none⟩)) 2) w fun t w => o1 Tryz.prog (Instr.loadAt T.api_Hash t) w k :=
  o1_getn (off := 2) (by kernel_rfl) (by kernel_rfl) h2 (commC_d2 ) hS hk
theorem commC_d3 {a0 a1 a3 : Value} {a2 : List Value} (h2 : a2.length = 32) : (commC a0 a1 a2 a3).drop 34 = a3 :: ([]) := by
  unfold commC
  simp [List.drop_append, List.drop_of_length_le, h2]
theorem comm.t3 {a0 a1 a3 : Value} {a2 : List Value} (h2 : a2.length = 32) {g : Nat} {S : World → Prop} {k : Value → Prop} (hS : ∀ w, S w → Blk w g T.api_Commit (commC a0 a1 a2 a3)) (hk : k a3) :
    tk Tryz.prog S (Instr.fieldAt T.api_Commit (.pointer (some ⟨g, 0, none⟩)) 3) fun t => tk Tryz.prog S (Instr.loadAt T.sl_api_Vote t) k :=
  tk_get1 (off := 34) (by kernel_rfl) (by kernel_rfl) (commC_d3 h2) hS hk
theorem comm.g3 {a0 a1 a3 : Value} {a2 : List Value} (h2 : a2.length = 32) {g : Nat} {w : World} {k : Value → World → Prop} (hS : Blk w g T.api_Commit (commC a0 a1 a2 a3)) (hk : k a3 w) :
    o1 Tryz.prog (Instr.fieldAt T.api_Commit (.pointer (some ⟨g, 0, none⟩)) 3) w fun t w => o1 Tryz.prog (Instr.loadAt T.sl_api_Vote t) w k :=
  o1_get1 (off := 34) (by kernel_rfl) (by kernel_rfl) (commC_d3 h2) hS hk
/-- the cells of a T.api_Header -/
def headC (a0 : Value) (a1 : Value) (a2 : Value) (a3 : List Value) (a4 : List Value) (a5 : List Value) (a6 : List Value) (a7 : List Value) (a8 : Value) : List Value := a0 :: (a1 :: (a2 :: ((a3 ++ ((a4 ++ ((a5 ++ ((a6 ++ ((a7 ++ (a8 :: ([]))))))))))))))
theorem headC_len {a0 a1 a2 a8 : Value} {a3 a4 a5 a6 a7 : List Value} (h3 : a3.length = 32) (h4 : a4.length = 32) (h5 : a5.length = 32) (h6 : a6.length = 32) (h7 : a7.length = 32) : (headC a0 a1 a2 a3 a4 a5 a6 a7 a8).length = 164 := by simp [headC, h3, h4, h5, h6, h7]
theorem headC_d0 {a0 a1 a2 a8 : Value} {a3 a4 a5 a6 a7 : List Value}  : (headC a0 a1 a2 a3 a4 a5 a6 a7 a8).drop 0 = a0 :: (a1 :: (a2 :: ((a3 ++ ((a4 ++ ((a5 ++ ((a6 ++ ((a7 ++ (a8 :: ([])))))))))))))) := rfl
theorem head.t0 {a0 a1 a2 a8 : Value} {a3 a4 a5 a6 a7 : List Value}  {g : Nat} {S : World → Prop} {k : Value → Prop} (hS : ∀ w, S w → Blk w g T.api_Header (headC a0 a1 a2 a3 a4 a5 a6 a7 a8)) (hk : k a0) :
    tk Tryz.prog S (Instr.fieldAt T.api_Header (.pointer (some ⟨g, 0, none⟩)) 0) fun t => tk Tryz.prog S (Instr.loadAt T.string t) k :=
  tk_get1 (off := 0) (by kernel_rfl) (by kernel_rfl) (headC_d0 ) hS hk
theorem head.g0 {a0 a1 a2 a8 : Value} {a3 a4 a5 a6 a7 : List Value}  {g : Nat} {w : World} {k : Value → World → Prop} (hS : Blk w g T.api_Header (headC a0 a1 a2 a3 a4 a5 a6 a7 a8)) (hk : k a0 w) :
    o1 Tryz.prog (Instr.fieldAt T.api_Header (.pointer (some ⟨g, 0, none⟩)) 0) w fun t w => o1 Tryz.prog (Instr.loadAt T.string t) w k :=
  o1_get1 (off := 0) (by kernel_rfl) (by kernel_rfl) (headC_d0 ) hS hk
theorem headC_d1 {a0 a1 a2 a8 : Value} {a3 a4 a5 a6 a7 : List Value}  : (headC a0 a1 a2 a3 a4 a5 a6 a7 a8).drop 1 = a1 :: (a2 :: ((a3 ++ ((a4 ++ ((a5 ++ ((a6 ++ ((a7 ++ (a8 :: ([]))))))))))))) := rfl
theorem head.t1 {a0 a1 a2 a8 : Value} {a3 a4 a5 a6 a7 : List Value}  {g : Nat} {S : World → Prop} {k : Value → Prop} (hS : ∀ w, S w → Blk w g T.api_Header (headC a0 a1 a2 a3 a4 a5 a6 a7 a8)) (hk : k a1) :
    tk Tryz.prog S (Instr.fieldAt T.api_Header (.pointer (some ⟨g, 0, none⟩)) 1) fun t => tk Tryz.prog S (Instr.loadAt T.int t) k :=
  tk_get1 (off := 1) (by kernel_rfl) (by kernel_rfl) (headC_d1 ) hS hk
theorem head.g1 {a0 a1 a2 a8 : Value} {a3 a4 a5 a6 a7 : List Value}  {g : Nat} {w : World} {k : Value → World → Prop} (hS : Blk w g T.api_Header (headC a0 a1 a2 a3 a4 a5 a6 a7 a8)) (hk : k a1 w) :
    o1 Tryz.prog (Instr.fieldAt T.api_Header (.pointer (some ⟨g, 0, none⟩)) 1) w fun t w => o1 Tryz.prog (Instr.loadAt T.int t) w k :=
  o1_get1 (off := 1) (by kernel_rfl) (by kernel_rfl) (headC_d1 ) hS hk
theorem headC_d2 {a0 a1 a2 a8 : Value} {a3 a4 a5 a6 a7 : List Value}  : (headC a0 a1 a2 a3 a4 a5 a6 a7 a8).drop 2 = a2 :: ((a3 ++ ((a4 ++ ((a5 ++ ((a6 ++ ((a7 ++ (a8 :: ([])))))))))))) := rfl
theorem head.t2 {a0 a1 a2 a8 : Value} {a3 a4 a5 a6 a7 : List Value}  {g : Nat} {S : World → Prop} {k : Value → Prop} (hS : ∀ w, S w → Blk w g T.api_Header (headC a0 a1 a2 a3 a4 a5 a6 a7 a8)) (hk : k a2) :
    tk Tryz.prog S (Instr.fieldAt T.api_Header (.pointer (some ⟨g, 0, none⟩)) 2) fun t => tk Tryz.prog S (Instr.loadAt T.int t) k :=
  tk_get1 (off := 2) (by kernel_rfl) (by kernel_rfl) (headC_d2 ) hS hk
theorem head.g2 {a0 a1 a2 a8 : Value} {a3 a4 a5 a6 a7 : List Value}  {g : Nat} {w : World} {k : Value → World → Prop} (hS : Blk w g T.api_Header (headC a0 a1 a2 a3 a4 a5 a6 a7 a8)) (hk : k a2 w) :
    o1 Tryz.prog (Instr.fieldAt T.api_Header (.pointer (some ⟨g, 0, none⟩)) 2) w fun t w => o1 Tryz.prog (Instr.loadAt T.int t) w k :=
  o1_get1 (off := 2) (by kernel_rfl) (by kernel_rfl) (headC_d2 ) hS hk
theorem headC_d3 {a0 a1 a2 a8 : Value} {a3 a4 a5 a6 a7 : List Value}  : (headC a0 a1 a2 a3 a4 a5 a6 a7 a8).drop 3 = a3 ++ ((a4 ++ ((a5 ++ ((a6 ++ ((a7 ++ (a8 :: ([])))))))))) := rfl
theorem head.t3 {a0 a1 a2 a8 : Value} {a3 a4 a5 a6 a7 : List Value}  (h3 : a3.length = 32) {g : Nat} {S : World → Prop} {k : Value → Prop} (hS : ∀ w, S w → Blk w g T.api_Header (headC a0 a1 a2 a3 a4 a5 a6 a7 a8)) (hk : k (.agg a3.toArray)) :
    tk Tryz.prog S (Instr.fieldAt T.api_Header (.pointer (some ⟨g, 0, none⟩)) 3) fun t => tk Tryz.prog S (Instr.loadAt T.api_Hash t) k :=
  tk_getn (off := 3) (by kernel_rfl) (by kernel_rfl) h3 (headC_d3 ) hS hk
theorem head.g3 {a0 a1 a2 a8 : Value} {a3 a4 a5 a6 a7 : List Value}  (h3 : a3.length = 32) {g : Nat} {w : World} {k : Value → World → Prop} (hS : Blk w g T.api_Header (headC a0 a1 a2 a3 a4 a5 a6 a7 a8)) (hk : k (.agg a3.toArray) w) :
    o1 Tryz.prog (Instr.fieldAt T.api_Header (.pointer (some ⟨g, 0, none⟩)) 3) w fun t w => o1 Tryz.prog (Instr.loadAt T.api_Hash t) w k :=
  o1_getn (off := 3) (by kernel_rfl) (by kernel_rfl) h3 (headC_d3 ) hS hk
theorem headC_d4 {a0 a1 a2 a8 : Value} {a3 a4 a5 a6 a7 : List Value} (h3 : a3.length = 32) : (headC a0 a1 a2 a3 a4 a5 a6 a7 a8).drop 35 = a4 ++ ((a5 ++ ((a6 ++ ((a7 ++ (a8 :: ([])))))))) := by
  unfold headC
  simp [List.drop_append, List.drop_of_length_le, h3]
theorem head.t4 {a0 a1 a2 a8 : Value} {a3 a4 a5 a6 a7 : List Value} (h3 : a3.length = 32) (h4 : a4.length = 32) {g : Nat} {S : World → Prop} {k : Value → Prop} (hS : ∀ w, S w → Blk w g T.api_Header (headC a0 a1 a2 a3 a4 a5 a6 a7 a8)) (hk : k (.agg a4.toArray)) :
    tk Tryz.prog S (Instr.fieldAt T.api_Header (.pointer (some ⟨g, 0, none⟩)) 4) fun t => tk Tryz.prog S (Instr.loadAt T.api_Hash t) k :=
  tk_getn (off := 35) (by kernel_rfl) (by kernel_rfl) h4 (headC_d4 h3) hS hk
theorem head.g4 {a0 a1 a2 a8 : Value} {a3 a4 a5 a6 a7 : List Value} (h3 : a3.length = 32) (h4 : a4.length = 32) {g : Nat} {w : World} {k : Value → World → Prop} (hS : Blk w g T.api_Header (headC a0 a1 a2 a3 a4 a5 a6 a7 a8)) (hk : k (.agg a4.toArray) w) :
    o1 Tryz.prog (Instr.fieldAt T.api_Header (.pointer (some ⟨g, 0, none⟩)) 4) w fun t w => o1 Tryz.prog (Instr.loadAt T.api_Hash t) w k :=
  o1_getn (off := 35) (by kernel_rfl) (by kernel_rfl) h4 (headC_d4 h3) hS hk
theorem headC_d5 {a0 a1 a2 a8 : Value} {a3 a4 a5 a6 a7 : List Value} (h3 : a3.length = 32) (h4 : a4.length = 32) : (headC a0 a1 a2 a3 a4 a5 a6 a7 a8).drop 67 = a5 ++ ((a6 ++ ((a7 ++ (a8 :: ([])))))) := by
  unfold headC
  simp [List.drop_append, List.drop_of_length_le, h3, h4]
theorem head.t5 {a0 a1 a2 a8 : Value} {a3 a4 a5 a6 a7 : List Value} (h3 : a3.length = 32) (h4 : a4.length = 32) (h5 : a5.length = 32) {g : Nat} {S : World → Prop} {k : Value → Prop} (hS : ∀ w, S w → Blk w g T.api_Header (headC a0 a1 a2 a3 a4 a5 a6 a7 a8)) (hk : k (.agg a5.toArray)) :
    tk Tryz.prog S (Instr.fieldAt T.api_Header (.pointer (some ⟨g, 0, none⟩)) 5) fun t => tk Tryz.prog S (Instr.loadAt T.api_Hash t) k :=
  tk_getn (off := 67) (by kernel_rfl) (by kernel_rfl) h5 (headC_d5 h3 h4) hS hk
theorem head.g5 {a0 a1 a2 a8 : Value} {a3 a4 a5 a6 a7 : List Value} (h3 : a3.length = 32) (h4 : a4.length = 32) (h5 : a5.length = 32) {g : Nat} {w : World} {k : Value → World → Prop} (hS : Blk w g T.api_Header (headC a0 a1 a2 a3 a4 a5 a6 a7 a8)) (hk : k (.agg a5.toArray) w) :
    o1 Tryz.prog (Instr.fieldAt T.api_Header (.pointer (some ⟨g, 0, none⟩)) 5) w fun t w => o1 Tryz.prog (Instr.loadAt T.api_Hash t) w k :=
  o1_getn (off := 67) (by kernel_rfl) (by kernel_rfl) h5 (headC_d5 h3 h4) hS hk
theorem headC_d6 {a0 a1 a2 a8 : Value} {a3 a4 a5 a6 a7 : List Value} (h3 : a3.length = 32) (h4 : a4.length = 32) (h5 : a5.length = 32) : (headC a0 a1 a2 a3 a4 a5 a6 a7 a8).drop 99 = a6 ++ ((a7 ++ (a8 :: ([])))) := by
  unfold headC
  simp [List.drop_append, List.drop_of_length_le, h3, h4, h5]
theorem head.t6 {a0 a1 a2 a8 : Value} {a3 a4 a5 a6 a7 : List Value} (h3 : a3.length = 32) (h4 : a4.length = 32) (h5 : a5.length = 32) (h6 : a6.length = 32) {g : Nat} {S : World → Prop} {k : Value → Prop} (hS : ∀ w, S w → Blk w g T.api_Header (headC a0 a1 a2 a3 a4 a5 a6 a7 a8)) (hk : k (.agg a6.toArray)) :
    tk Tryz.prog S (Instr.fieldAt T.api_Header (.pointer (some ⟨g, 0, none⟩)) 6) fun t => tk Tryz.prog S (Instr.loadAt T.api_Hash t) k :=
  tk_getn (off := 99) (by kernel_rfl) (by kernel_rfl) h6 (headC_d6 h3 h4 h5) hS hk
theorem head.g6 {a0 a1 a2 a8 : Value} {a3 a4 a5 a6 a7 : List Value} (h3 : a3.length = 32) (h4 : a4.length = 32) (h5 : a5.length = 32) (h6 : a6.length = 32) {g : Nat} {w : World} {k : Value → World → Prop} (hS : Blk w g T.api_Header (headC a0 a1 a2 a3 a4 a5 a6 a7 a8)) (hk : k (.agg a6.toArray) w) :
    o1 Tryz.prog (Instr.fieldAt T.api_Header (.pointer (some ⟨g, 0, none⟩)) 6) w fun t w => o1 Tryz.prog (Instr.loadAt T.api_Hash t) w k :=
  o1_getn (off := 99) (by kernel_rfl) (by kernel_rfl) h6 (headC_d6 h3 h4 h5) hS hk
theorem headC_d7 {a0 a1 a2 a8 : Value} {a3 a4 a5 a6 a7 : List Value} (h3 : a3.length = 32) (h4 : a4.length = 32) (h5 : a5.length = 32) (h6 : a6.length = 32) : (headC a0 a1 a2 a3 a4 a5 a6 a7 a8).drop 131 = a7 ++ (a8 :: ([])) := by
  unfold headC
  simp [List.drop_append, List.drop_of_length_le, h3, h4, h5, h6]
theorem head.t7 {a0 a1 a2 a8 : Value} {a3 a4 a5 a6 a7 : List Value} (h3 : a3.length = 32) (h4 : a4.length = 32) (h5 : a5.length = 32) (h6 : a6.length = 32) (h7 : a7.length = 32) {g : Nat} {S : World → Prop} {k : Value → Prop} (hS : ∀ w, S w → Blk w g T.api_Header (headC a0 a1 a2 a3 a4 a5 a6 a7 a8)) (hk : k (.agg a7.toArray)) :
    tk Tryz.prog S (Instr.fieldAt T.api_Header (.pointer (some ⟨g, 0, none⟩)) 7) fun t => tk Tryz.prog S (Instr.loadAt T.api_Hash t) k :=
  tk_getn (off := 131) (by kernel_rfl) (by kernel_rfl) h7 (headC_d7 h3 h4 h5 h6) hS hk
theorem head.g7 {a0 a1 a2 a8 : Value} {a3 a4 a5 a6 a7 : List Value} (h3 : a3.length = 32) (h4 : a4.length = 32) (h5 : a5.length = 32) (h6 : a6.length = 32) (h7 : a7.length = 32) {g : Nat} {w : World} {k : Value → World → Prop} (hS : Blk w g T.api_Header (headC a0 a1 a2 a3 a4 a5 a6 a7 a8)) (hk : k (.agg a7.toArray) w) :
    o1 Tryz.prog (Instr.fieldAt T.api_Header (.pointer (some ⟨g, 0, none⟩)) 7) w fun t w => o1 Tryz.prog (Instr.loadAt T.api_Hash t) w k :=
  o1_getn (off := 131) (by kernel_rfl) (by kernel_rfl) h7 (headC_d7 h3 h4 h5 h6) hS hk
theorem headC_d8 {a0 a1 a2 a8 : Value} {a3 a4 a5 a6 a7 : List Value} (h3 : a3.length = 32) (h4 : a4.length = 32) (h5 : a5.length = 32) (h6 : a6.length = 32) (h7 : a7.length = 32) : (headC a0 a1 a2 a3 a4 a5 a6 a7 a8).drop 163 = a8 :: ([]) := by
  unfold headC
  simp [List.drop_append, List.drop_of_length_le, h3, h4, h5, h6, h7]
theorem head.t8 {a0 a1 a2 a8 : Value} {a3 a4 a5 a6 a7 : List Value} (h3 : a3.length = 32) (h4 : a4.length = 32) (h5 : a5.length = 32) (h6 : a6.length = 32) (h7 : a7.length = 32) {g : Nat} {S : World → Prop} {k : Value → Prop} (hS : ∀ w, S w → Blk w g T.api_Header (headC a0 a1 a2 a3 a4 a5 a6 a7 a8)) (hk : k a8) :
    tk Tryz.prog S (Instr.fieldAt T.api_Header (.pointer (some ⟨g, 0, none⟩)) 8) fun t => tk Tryz.prog S (Instr.loadAt T.int t) k :=
  tk_get1 (off := 163) (by kernel_rfl) (by kernel_rfl) (headC_d8 h3 h4 h5 h6 h7) hS hk
theorem head.g8 {a0 a1 a2 a8 : Value} {a3 a4 a5 a6 a7 : List Value} (h3 : a3.length = 32) (h4 : a4.length = 32) (h5 : a5.length = 32) (h6 : a6.length = 32) (h7 : a7.length = 32) {g : Nat} {w : World} {k : Value → World → Prop} (hS : Blk w g T.api_Header (headC a0 a1 a2 a3 a4 a5 a6 a7 a8)) (hk : k a8 w) :
    o1 Tryz.prog (Instr.fieldAt T.api_Header (.pointer (some ⟨g, 0, none⟩)) 8) w fun t w => o1 Tryz.prog (Instr.loadAt T.int t) w k :=
  o1_get1 (off := 163) (by kernel_rfl) (by kernel_rfl) (headC_d8 h3 h4 h5 h6 h7) hS hk
/-- the cells of a T.api_Block -/
def blokC (a0 : List Value) (a1 : Value) (a2 : List Value) : List Value := (a0 ++ (a1 :: ((a2 ++ ([])))))
theorem blokC_len {a1 : Value} {a0 a2 : List Value} (h0 : a0.length = 164) (h2 : a2.length = 35) : (blokC a0 a1 a2).length = 200 := by simp [blokC, h0, h2]
theorem blokC_d0 {a1 : Value} {a0 a2 : List Value}  : (blokC a0 a1 a2).drop 0 = a0 ++ (a1 :: ((a2 ++ ([])))) := rfl
theorem blok.t0 {a1 : Value} {a0 a2 : List Value}  (h0 : a0.length = 164) {g : Nat} {S : World → Prop} {k : Value → Prop} (hS : ∀ w, S w → Blk w g T.api_Block (blokC a0 a1 a2)) (hk : k (.agg a0.toArray)) :
    tk Tryz.prog S (Instr.fieldAt T.api_Block (.pointer (some ⟨g, 0, none⟩)) 0) fun t => tk Tryz.prog S (Instr.loadAt T.api_Header t) k :=
  tk_getn (off := 0) (by kernel_rfl) (by kernel_rfl) h0 (blokC_d0 ) hS hk
theorem blok.g0 {a1 : Value} {a0 a2 : List Value}  (h0 : a0.length = 164) {g : Nat} {w : World} {k : Value → World → Prop} (hS : Blk w g T.api_Block (blokC a0 a1 a2)) (hk : k (.agg a0.toArray) w) :
    o1 Tryz.prog (Instr.fieldAt T.api_Block (.pointer (some ⟨g, 0, none⟩)) 0) w fun t w => o1 Tryz.prog (Instr.loadAt T.api_Header t) w k :=
  o1_getn (off := 0) (by kernel_rfl) (by kernel_rfl) h0 (blokC_d0 ) hS hk
theorem blokC_d1 {a1 : Value} {a0 a2 : List Value} (h0 : a0.length = 164) : (blokC a0 a1 a2).drop 164 = a1 :: ((a2 ++ ([]))) := by
  unfold blokC
  simp [List.drop_append, List.drop_of_length_le, h0]
theorem blok.t1 {a1 : Value} {a0 a2 : List Value} (h0 : a0.length = 164) {g : Nat} {S : World → Prop} {k : Value → Prop} (hS : ∀ w, S w → Blk w g T.api_Block (blokC a0 a1 a2)) (hk : k a1) :
    tk Tryz.prog S (Instr.fieldAt T.api_Block (.pointer (some ⟨g, 0, none⟩)) 1) fun t => tk Tryz.prog S (Instr.loadAt T.sl_sl_uint8 t) k :=
  tk_get1 (off := 164) (by kernel_rfl) (by kernel_rfl) (blokC_d1 h0) hS hk
theorem blok.g1 {a1 : Value} {a0 a2 : List Value} (h0 : a0.length = 164) {g : Nat} {w : World} {k : Value → World → Prop} (hS : Blk w g T.api_Block (blokC a0 a1 a2)) (hk : k a1 w) :
    o1 Tryz.prog (Instr.fieldAt T.api_Block (.pointer (some ⟨g, 0, none⟩)) 1) w fun t w => o1 Tryz.prog (Instr.loadAt T.sl_sl_uint8 t) w k :=
  o1_get1 (off := 164) (by kernel_rfl) (by kernel_rfl) (blokC_d1 h0) hS hk
theorem blokC_d2 {a1 : Value} {a0 a2 : List Value} (h0 : a0.length = 164) : (blokC a0 a1 a2).drop 165 = a2 ++ ([]) := by
  unfold blokC
  simp [List.drop_append, List.drop_of_length_le, h0]
theorem blok.t2 {a1 : Value} {a0 a2 : List Value} (h0 : a0.length = 164) (h2 : a2.length = 35) {g : Nat} {S : World → Prop} {k : Value → Prop} (hS : ∀ w, S w → Blk w g T.api_Block (blokC a0 a1 a2)) (hk : k (.agg a2.toArray)) :
    tk Tryz.prog S (Instr.fieldAt T.api_Block (.pointer (some ⟨g, 0, none⟩)) 2) fun t => tk Tryz.prog S (Instr.loadAt T.api_Commit t) k :=
  tk_getn (off := 165) (by kernel_rfl) (by kernel_rfl) h2 (blokC_d2 h0) hS hk
theorem blok.g2 {a1 : Value} {a0 a2 : List Value} (h0 : a0.length = 164) (h2 : a2.length = 35) {g : Nat} {w : World} {k : Value → World → Prop} (hS : Blk w g T.api_Block (blokC a0 a1 a2)) (hk : k (.agg a2.toArray) w) :
    o1 Tryz.prog (Instr.fieldAt T.api_Block (.pointer (some ⟨g, 0, none⟩)) 2) w fun t w => o1 Tryz.prog (Instr.loadAt T.api_Commit t) w k :=
  o1_getn (off := 165) (by kernel_rfl) (by kernel_rfl) h2 (blokC_d2 h0) hS hk
/-- the cells of a T.api_Validator -/
def valiC (a0 : Value) (a1 : List Value) (a2 : Value) : List Value := a0 :: ((a1 ++ (a2 :: ([]))))
theorem valiC_len {a0 a2 : Value} {a1 : List Value} (h1 : a1.length = 32) : (valiC a0 a1 a2).length = 34 := by simp [valiC, h1]
theorem valiC_d0 {a0 a2 : Value} {a1 : List Value}  : (valiC a0 a1 a2).drop 0 = a0 :: ((a1 ++ (a2 :: ([])))) := rfl
theorem vali.t0 {a0 a2 : Value} {a1 : List Value}  {g : Nat} {S : World → Prop} {k : Value → Prop} (hS : ∀ w, S w → Blk w g T.api_Validator (valiC a0 a1 a2)) (hk : k a0) :
    tk Tryz.prog S (Instr.fieldAt T.api_Validator (.pointer (some ⟨g, 0, none⟩)) 0) fun t => tk Tryz.prog S (Instr.loadAt T.string t) k :=
  tk_get1 (off := 0) (by kernel_rfl) (by kernel_rfl) (valiC_d0 ) hS hk
theorem vali.g0 {a0 a2 : Value} {a1 : List Value}  {g : Nat} {w : World} {k : Value → World → Prop} (hS : Blk w g T.api_Validator (valiC a0 a1 a2)) (hk : k a0 w) :
    o1 Tryz.prog (Instr.fieldAt T.api_Validator (.pointer (some ⟨g, 0, none⟩)) 0) w fun t w => o1 Tryz.prog (Instr.loadAt T.string t) w k :=
  o1_get1 (off := 0) (by kernel_rfl) (by kernel_rfl) (valiC_d0 ) hS hk
theorem valiC_d1 {a0 a2 : Value} {a1 : List Value}  : (valiC a0 a1 a2).drop 1 = a1 ++ (a2 :: ([])) := rfl
theorem vali.t1 {a0 a2 : Value} {a1 : List Value}  (h1 : a1.length = 32) {g : Nat} {S : World → Prop} {k : Value → Prop} (hS : ∀ w, S w → Blk w g T.api_Validator (valiC a0 a1 a2)) (hk : k (.agg a1.toArray)) :
    tk Tryz.prog S (Instr.fieldAt T.api_Validator (.pointer (some ⟨g, 0, none⟩)) 1) fun t => tk Tryz.prog S (Instr.loadAt T.api_Hash t) k :=
  tk_getn (off := 1) (by kernel_rfl) (by kernel_rfl) h1 (valiC_d1 ) hS hk
theorem vali.g1 {a0 a2 : Value} {a1 : List Value}  (h1 : a1.length = 32) {g : Nat} {w : World} {k : Value → World → Prop} (hS : Blk w g T.api_Validator (valiC a0 a1 a2)) (hk : k (.agg a1.toArray) w) :
    o1 Tryz.prog (Instr.fieldAt T.api_Validator (.pointer (some ⟨g, 0, none⟩)) 1) w fun t w => o1 Tryz.prog (Instr.loadAt T.api_Hash t) w k :=
  o1_getn (off := 1) (by kernel_rfl) (by kernel_rfl) h1 (valiC_d1 ) hS hk
theorem valiC_d2 {a0 a2 : Value} {a1 : List Value} (h1 : a1.length = 32) : (valiC a0 a1 a2).drop 33 = a2 :: ([]) := by
  unfold valiC
  simp [List.drop_append, List.drop_of_length_le, h1]
theorem vali.t2 {a0 a2 : Value} {a1 : List Value} (h1 : a1.length = 32) {g : Nat} {S : World → Prop} {k : Value → Prop} (hS : ∀ w, S w → Blk w g T.api_Validator (valiC a0 a1 a2)) (hk : k a2) :
    tk Tryz.prog S (Instr.fieldAt T.api_Validator (.pointer (some ⟨g, 0, none⟩)) 2) fun t => tk Tryz.prog S (Instr.loadAt T.int t) k :=
  tk_get1 (off := 33) (by kernel_rfl) (by kernel_rfl) (valiC_d2 h1) hS hk
theorem vali.g2 {a0 a2 : Value} {a1 : List Value} (h1 : a1.length = 32) {g : Nat} {w : World} {k : Value → World → Prop} (hS : Blk w g T.api_Validator (valiC a0 a1 a2)) (hk : k a2 w) :
    o1 Tryz.prog (Instr.fieldAt T.api_Validator (.pointer (some ⟨g, 0, none⟩)) 2) w fun t w => o1 Tryz.prog (Instr.loadAt T.int t) w k :=
  o1_get1 (off := 33) (by kernel_rfl) (by kernel_rfl) (valiC_d2 h1) hS hk
/-- the cells of a T.api_Params -/
def paraC (a0 : Value) (a1 : Value) : List Value := a0 :: (a1 :: ([]))
theorem paraC_d0 {a0 a1 : Value}   : (paraC a0 a1).drop 0 = a0 :: (a1 :: ([])) := rfl
theorem para.t0 {a0 a1 : Value}   {g : Nat} {S : World → Prop} {k : Value → Prop} (hS : ∀ w, S w → Blk w g T.api_Params (paraC a0 a1)) (hk : k a0) :
    tk Tryz.prog S (Instr.fieldAt T.api_Params (.pointer (some ⟨g, 0, none⟩)) 0) fun t => tk Tryz.prog S (Instr.loadAt T.int t) k :=
  tk_get1 (off := 0) (by kernel_rfl) (by kernel_rfl) (paraC_d0 ) hS hk
theorem para.g0 {a0 a1 : Value}   {g : Nat} {w : World} {k : Value → World → Prop} (hS : Blk w g T.api_Params (paraC a0 a1)) (hk : k a0 w) :
    o1 Tryz.prog (Instr.fieldAt T.api_Params (.pointer (some ⟨g, 0, none⟩)) 0) w fun t w => o1 Tryz.prog (Instr.loadAt T.int t) w k :=
  o1_get1 (off := 0) (by kernel_rfl) (by kernel_rfl) (paraC_d0 ) hS hk
theorem paraC_d1 {a0 a1 : Value}   : (paraC a0 a1).drop 1 = a1 :: ([]) := rfl
theorem para.t1 {a0 a1 : Value}   {g : Nat} {S : World → Prop} {k : Value → Prop} (hS : ∀ w, S w → Blk w g T.api_Params (paraC a0 a1)) (hk : k a1) :
    tk Tryz.prog S (Instr.fieldAt T.api_Params (.pointer (some ⟨g, 0, none⟩)) 1) fun t => tk Tryz.prog S (Instr.loadAt T.int t) k :=
  tk_get1 (off := 1) (by kernel_rfl) (by kernel_rfl) (paraC_d1 ) hS hk
theorem para.g1 {a0 a1 : Value}   {g : Nat} {w : World} {k : Value → World → Prop} (hS : Blk w g T.api_Params (paraC a0 a1)) (hk : k a1 w) :
    o1 Tryz.prog (Instr.fieldAt T.api_Params (.pointer (some ⟨g, 0, none⟩)) 1) w fun t w => o1 Tryz.prog (Instr.loadAt T.int t) w k :=
  o1_get1 (off := 1) (by kernel_rfl) (by kernel_rfl) (paraC_d1 ) hS hk
/-- the cells of a T.isthmusref02_Reader -/
def rrdC (a0 : Value) (a1 : Value) : List Value := a0 :: (a1 :: ([]))
theorem rrdC_d0 {a0 a1 : Value}   : (rrdC a0 a1).drop 0 = a0 :: (a1 :: ([])) := rfl
theorem rrd.t0 {a0 a1 : Value}   {g : Nat} {S : World → Prop} {k : Value → Prop} (hS : ∀ w, S w → Blk w g T.isthmusref02_Reader (rrdC a0 a1)) (hk : k a0) :
    tk Tryz.prog S (Instr.fieldAt T.isthmusref02_Reader (.pointer (some ⟨g, 0, none⟩)) 0) fun t => tk Tryz.prog S (Instr.loadAt T.sl_uint8 t) k :=
  tk_get1 (off := 0) (by kernel_rfl) (by kernel_rfl) (rrdC_d0 ) hS hk
theorem rrd.g0 {a0 a1 : Value}   {g : Nat} {w : World} {k : Value → World → Prop} (hS : Blk w g T.isthmusref02_Reader (rrdC a0 a1)) (hk : k a0 w) :
    o1 Tryz.prog (Instr.fieldAt T.isthmusref02_Reader (.pointer (some ⟨g, 0, none⟩)) 0) w fun t w => o1 Tryz.prog (Instr.loadAt T.sl_uint8 t) w k :=
  o1_get1 (off := 0) (by kernel_rfl) (by kernel_rfl) (rrdC_d0 ) hS hk
theorem rrdC_d1 {a0 a1 : Value}   : (rrdC a0 a1).drop 1 = a1 :: ([]) := rfl
theorem rrd.t1 {a0 a1 : Value}   {g : Nat} {S : World → Prop} {k : Value → Prop} (hS : ∀ w, S w → Blk w g T.isthmusref02_Reader (rrdC a0 a1)) (hk : k a1) :
    tk Tryz.prog S (Instr.fieldAt T.isthmusref02_Reader (.pointer (some ⟨g, 0, none⟩)) 1) fun t => tk Tryz.prog S (Instr.loadAt T.int t) k :=
  tk_get1 (off := 1) (by kernel_rfl) (by kernel_rfl) (rrdC_d1 ) hS hk
theorem rrd.g1 {a0 a1 : Value}   {g : Nat} {w : World} {k : Value → World → Prop} (hS : Blk w g T.isthmusref02_Reader (rrdC a0 a1)) (hk : k a1 w) :
    o1 Tryz.prog (Instr.fieldAt T.isthmusref02_Reader (.pointer (some ⟨g, 0, none⟩)) 1) w fun t w => o1 Tryz.prog (Instr.loadAt T.int t) w k :=
  o1_get1 (off := 1) (by kernel_rfl) (by kernel_rfl) (rrdC_d1 ) hS hk
/-- the cells of a T.pack_Reader -/
def prdC (a0 : Value) (a1 : Value) : List Value := a0 :: (a1 :: ([]))
theorem prdC_d0 {a0 a1 : Value}   : (prdC a0 a1).drop 0 = a0 :: (a1 :: ([])) := rfl
theorem prd.t0 {a0 a1 : Value}   {g : Nat} {S : World → Prop} {k : Value → Prop} (hS : ∀ w, S w → Blk w g T.pack_Reader (prdC a0 a1)) (hk : k a0) :
    tk Tryz.prog S (Instr.fieldAt T.pack_Reader (.pointer (some ⟨g, 0, none⟩)) 0) fun t => tk Tryz.prog S (Instr.loadAt T.sl_uint8 t) k :=
  tk_get1 (off := 0) (by kernel_rfl) (by kernel_rfl) (prdC_d0 ) hS hk
theorem prd.g0 {a0 a1 : Value}   {g : Nat} {w : World} {k : Value → World → Prop} (hS : Blk w g T.pack_Reader (prdC a0 a1)) (hk : k a0 w) :
    o1 Tryz.prog (Instr.fieldAt T.pack_Reader (.pointer (some ⟨g, 0, none⟩)) 0) w fun t w => o1 Tryz.prog (Instr.loadAt T.sl_uint8 t) w k :=
  o1_get1 (off := 0) (by kernel_rfl) (by kernel_rfl) (prdC_d0 ) hS hk
theorem prdC_d1 {a0 a1 : Value}   : (prdC a0 a1).drop 1 = a1 :: ([]) := rfl
theorem prd.t1 {a0 a1 : Value}   {g : Nat} {S : World → Prop} {k : Value → Prop} (hS : ∀ w, S w → Blk w g T.pack_Reader (prdC a0 a1)) (hk : k a1) :
    tk Tryz.prog S (Instr.fieldAt T.pack_Reader (.pointer (some ⟨g, 0, none⟩)) 1) fun t => tk Tryz.prog S (Instr.loadAt T.error t) k :=
  tk_get1 (off := 1) (by kernel_rfl) (by kernel_rfl) (prdC_d1 ) hS hk
theorem prd.g1 {a0 a1 : Value}   {g : Nat} {w : World} {k : Value → World → Prop} (hS : Blk w g T.pack_Reader (prdC a0 a1)) (hk : k a1 w) :
    o1 Tryz.prog (Instr.fieldAt T.pack_Reader (.pointer (some ⟨g, 0, none⟩)) 1) w fun t w => o1 Tryz.prog (Instr.loadAt T.error t) w k :=
  o1_get1 (off := 1) (by kernel_rfl) (by kernel_rfl) (prdC_d1 ) hS hk
/-- the cells of a T.api_Fault -/
def faultC (a0 : Value) (a1 : Value) : List Value := a0 :: (a1 :: ([]))
theorem faultC_d0 {a0 a1 : Value}   : (faultC a0 a1).drop 0 = a0 :: (a1 :: ([])) := rfl
theorem fault.t0 {a0 a1 : Value}   {g : Nat} {S : World → Prop} {k : Value → Prop} (hS : ∀ w, S w → Blk w g T.api_Fault (faultC a0 a1)) (hk : k a0) :
    tk Tryz.prog S (Instr.fieldAt T.api_Fault (.pointer (some ⟨g, 0, none⟩)) 0) fun t => tk Tryz.prog S (Instr.loadAt T.string t) k :=
  tk_get1 (off := 0) (by kernel_rfl) (by kernel_rfl) (faultC_d0 ) hS hk
theorem fault.g0 {a0 a1 : Value}   {g : Nat} {w : World} {k : Value → World → Prop} (hS : Blk w g T.api_Fault (faultC a0 a1)) (hk : k a0 w) :
    o1 Tryz.prog (Instr.fieldAt T.api_Fault (.pointer (some ⟨g, 0, none⟩)) 0) w fun t w => o1 Tryz.prog (Instr.loadAt T.string t) w k :=
  o1_get1 (off := 0) (by kernel_rfl) (by kernel_rfl) (faultC_d0 ) hS hk
theorem faultC_d1 {a0 a1 : Value}   : (faultC a0 a1).drop 1 = a1 :: ([]) := rfl
theorem fault.t1 {a0 a1 : Value}   {g : Nat} {S : World → Prop} {k : Value → Prop} (hS : ∀ w, S w → Blk w g T.api_Fault (faultC a0 a1)) (hk : k a1) :
    tk Tryz.prog S (Instr.fieldAt T.api_Fault (.pointer (some ⟨g, 0, none⟩)) 1) fun t => tk Tryz.prog S (Instr.loadAt T.error t) k :=
  tk_get1 (off := 1) (by kernel_rfl) (by kernel_rfl) (faultC_d1 ) hS hk
theorem fault.g1 {a0 a1 : Value}   {g : Nat} {w : World} {k : Value → World → Prop} (hS : Blk w g T.api_Fault (faultC a0 a1)) (hk : k a1 w) :
    o1 Tryz.prog (Instr.fieldAt T.api_Fault (.pointer (some ⟨g, 0, none⟩)) 1) w fun t w => o1 Tryz.prog (Instr.loadAt T.error t) w k :=
  o1_get1 (off := 1) (by kernel_rfl) (by kernel_rfl) (faultC_d1 ) hS hk
/-- the cells of a T.keys_signature -/
def ksigC (a0 : Value) (a1 : Value) (a2 : Value) : List Value := a0 :: (a1 :: (a2 :: ([])))
theorem ksigC_d0 {a0 a1 a2 : Value}   : (ksigC a0 a1 a2).drop 0 = a0 :: (a1 :: (a2 :: ([]))) := rfl
theorem ksig.t0 {a0 a1 a2 : Value}   {g : Nat} {S : World → Prop} {k : Value → Prop} (hS : ∀ w, S w → Blk w g T.keys_signature (ksigC a0 a1 a2)) (hk : k a0) :
    tk Tryz.prog S (Instr.fieldAt T.keys_signature (.pointer (some ⟨g, 0, none⟩)) 0) fun t => tk Tryz.prog S (Instr.loadAt T.int t) k :=
  tk_get1 (off := 0) (by kernel_rfl) (by kernel_rfl) (ksigC_d0 ) hS hk
theorem ksig.g0 {a0 a1 a2 : Value}   {g : Nat} {w : World} {k : Value → World → Prop} (hS : Blk w g T.keys_signature (ksigC a0 a1 a2)) (hk : k a0 w) :
    o1 Tryz.prog (Instr.fieldAt T.keys_signature (.pointer (some ⟨g, 0, none⟩)) 0) w fun t w => o1 Tryz.prog (Instr.loadAt T.int t) w k :=
  o1_get1 (off := 0) (by kernel_rfl) (by kernel_rfl) (ksigC_d0 ) hS hk
theorem ksigC_d1 {a0 a1 a2 : Value}   : (ksigC a0 a1 a2).drop 1 = a1 :: (a2 :: ([])) := rfl
theorem ksig.t1 {a0 a1 a2 : Value}   {g : Nat} {S : World → Prop} {k : Value → Prop} (hS : ∀ w, S w → Blk w g T.keys_signature (ksigC a0 a1 a2)) (hk : k a1) :
    tk Tryz.prog S (Instr.fieldAt T.keys_signature (.pointer (some ⟨g, 0, none⟩)) 1) fun t => tk Tryz.prog S (Instr.loadAt T.sl_uint8 t) k :=
  tk_get1 (off := 1) (by kernel_rfl) (by kernel_rfl) (ksigC_d1 ) hS hk
theorem ksig.g1 {a0 a1 a2 : Value}   {g : Nat} {w : World} {k : Value → World → Prop} (hS : Blk w g T.keys_signature (ksigC a0 a1 a2)) (hk : k a1 w) :
    o1 Tryz.prog (Instr.fieldAt T.keys_signature (.pointer (some ⟨g, 0, none⟩)) 1) w fun t w => o1 Tryz.prog (Instr.loadAt T.sl_uint8 t) w k :=
  o1_get1 (off := 1) (by kernel_rfl) (by kernel_rfl) (ksigC_d1 ) hS hk
theorem ksigC_d2 {a0 a1 a2 : Value}   : (ksigC a0 a1 a2).drop 2 = a2 :: ([]) := rfl
theorem ksig.t2 {a0 a1 a2 : Value}   {g : Nat} {S : World → Prop} {k : Value → Prop} (hS : ∀ w, S w → Blk w g T.keys_signature (ksigC a0 a1 a2)) (hk : k a2) :
    tk Tryz.prog S (Instr.fieldAt T.keys_signature (.pointer (some ⟨g, 0, none⟩)) 2) fun t => tk Tryz.prog S (Instr.loadAt T.sl_api_Hash t) k :=
  tk_get1 (off := 2) (by kernel_rfl) (by kernel_rfl) (ksigC_d2 ) hS hk
theorem ksig.g2 {a0 a1 a2 : Value}   {g : Nat} {w : World} {k : Value → World → Prop} (hS : Blk w g T.keys_signature (ksigC a0 a1 a2)) (hk : k a2 w) :
    o1 Tryz.prog (Instr.fieldAt T.keys_signature (.pointer (some ⟨g, 0, none⟩)) 2) w fun t w => o1 Tryz.prog (Instr.loadAt T.sl_api_Hash t) w k :=
  o1_get1 (off := 2) (by kernel_rfl) (by kernel_rfl) (ksigC_d2 ) hS hk
/-- the cells of a T.isthmusref06_Signature -/
def rsigC (a0 : Value) (a1 : Value) (a2 : Value) : List Value := a0 :: (a1 :: (a2 :: ([])))
theorem rsigC_d0 {a0 a1 a2 : Value}   : (rsigC a0 a1 a2).drop 0 = a0 :: (a1 :: (a2 :: ([]))) := rfl
theorem rsig.t0 {a0 a1 a2 : Value}   {g : Nat} {S : World → Prop} {k : Value → Prop} (hS : ∀ w, S w → Blk w g T.isthmusref06_Signature (rsigC a0 a1 a2)) (hk : k a0) :
    tk Tryz.prog S (Instr.fieldAt T.isthmusref06_Signature (.pointer (some ⟨g, 0, none⟩)) 0) fun t => tk Tryz.prog S (Instr.loadAt T.int t) k :=
  tk_get1 (off := 0) (by kernel_rfl) (by kernel_rfl) (rsigC_d0 ) hS hk
theorem rsig.g0 {a0 a1 a2 : Value}   {g : Nat} {w : World} {k : Value → World → Prop} (hS : Blk w g T.isthmusref06_Signature (rsigC a0 a1 a2)) (hk : k a0 w) :
    o1 Tryz.prog (Instr.fieldAt T.isthmusref06_Signature (.pointer (some ⟨g, 0, none⟩)) 0) w fun t w => o1 Tryz.prog (Instr.loadAt T.int t) w k :=
  o1_get1 (off := 0) (by kernel_rfl) (by kernel_rfl) (rsigC_d0 ) hS hk
theorem rsigC_d1 {a0 a1 a2 : Value}   : (rsigC a0 a1 a2).drop 1 = a1 :: (a2 :: ([])) := rfl
theorem rsig.t1 {a0 a1 a2 : Value}   {g : Nat} {S : World → Prop} {k : Value → Prop} (hS : ∀ w, S w → Blk w g T.isthmusref06_Signature (rsigC a0 a1 a2)) (hk : k a1) :
    tk Tryz.prog S (Instr.fieldAt T.isthmusref06_Signature (.pointer (some ⟨g, 0, none⟩)) 1) fun t => tk Tryz.prog S (Instr.loadAt T.sl_uint8 t) k :=
  tk_get1 (off := 1) (by kernel_rfl) (by kernel_rfl) (rsigC_d1 ) hS hk
theorem rsig.g1 {a0 a1 a2 : Value}   {g : Nat} {w : World} {k : Value → World → Prop} (hS : Blk w g T.isthmusref06_Signature (rsigC a0 a1 a2)) (hk : k a1 w) :
    o1 Tryz.prog (Instr.fieldAt T.isthmusref06_Signature (.pointer (some ⟨g, 0, none⟩)) 1) w fun t w => o1 Tryz.prog (Instr.loadAt T.sl_uint8 t) w k :=
  o1_get1 (off := 1) (by kernel_rfl) (by kernel_rfl) (rsigC_d1 ) hS hk
theorem rsigC_d2 {a0 a1 a2 : Value}   : (rsigC a0 a1 a2).drop 2 = a2 :: ([]) := rfl
theorem rsig.t2 {a0 a1 a2 : Value}   {g : Nat} {S : World → Prop} {k : Value → Prop} (hS : ∀ w, S w → Blk w g T.isthmusref06_Signature (rsigC a0 a1 a2)) (hk : k a2) :
    tk Tryz.prog S (Instr.fieldAt T.isthmusref06_Signature (.pointer (some ⟨g, 0, none⟩)) 2) fun t => tk Tryz.prog S (Instr.loadAt T.sl_api_Hash t) k :=
  tk_get1 (off := 2) (by kernel_rfl) (by kernel_rfl) (rsigC_d2 ) hS hk
theorem rsig.g2 {a0 a1 a2 : Value}   {g : Nat} {w : World} {k : Value → World → Prop} (hS : Blk w g T.isthmusref06_Signature (rsigC a0 a1 a2)) (hk : k a2 w) :
    o1 Tryz.prog (Instr.fieldAt T.isthmusref06_Signature (.pointer (some ⟨g, 0, none⟩)) 2) w fun t w => o1 Tryz.prog (Instr.loadAt T.sl_api_Hash t) w k :=
  o1_get1 (off := 2) (by kernel_rfl) (by kernel_rfl) (rsigC_d2 ) hS hk
/-- the cells of a T.isthmuslaw11_Case -/
def caseC (a0 : Value) (a1 : Value) (a2 : List Value) : List Value := a0 :: (a1 :: ((a2 ++ ([]))))
theorem caseC_d0 {a0 a1 : Value} {a2 : List Value}  : (caseC a0 a1 a2).drop 0 = a0 :: (a1 :: ((a2 ++ ([])))) := rfl
theorem case.t0 {a0 a1 : Value} {a2 : List Value}  {g : Nat} {S : World → Prop} {k : Value → Prop} (hS : ∀ w, S w → Blk w g T.isthmuslaw11_Case (caseC a0 a1 a2)) (hk : k a0) :
    tk Tryz.prog S (Instr.fieldAt T.isthmuslaw11_Case (.pointer (some ⟨g, 0, none⟩)) 0) fun t => tk Tryz.prog S (Instr.loadAt T.string t) k :=
  tk_get1 (off := 0) (by kernel_rfl) (by kernel_rfl) (caseC_d0 ) hS hk
theorem case.g0 {a0 a1 : Value} {a2 : List Value}  {g : Nat} {w : World} {k : Value → World → Prop} (hS : Blk w g T.isthmuslaw11_Case (caseC a0 a1 a2)) (hk : k a0 w) :
    o1 Tryz.prog (Instr.fieldAt T.isthmuslaw11_Case (.pointer (some ⟨g, 0, none⟩)) 0) w fun t w => o1 Tryz.prog (Instr.loadAt T.string t) w k :=
  o1_get1 (off := 0) (by kernel_rfl) (by kernel_rfl) (caseC_d0 ) hS hk
theorem caseC_d1 {a0 a1 : Value} {a2 : List Value}  : (caseC a0 a1 a2).drop 1 = a1 :: ((a2 ++ ([]))) := rfl
theorem case.t1 {a0 a1 : Value} {a2 : List Value}  {g : Nat} {S : World → Prop} {k : Value → Prop} (hS : ∀ w, S w → Blk w g T.isthmuslaw11_Case (caseC a0 a1 a2)) (hk : k a1) :
    tk Tryz.prog S (Instr.fieldAt T.isthmuslaw11_Case (.pointer (some ⟨g, 0, none⟩)) 1) fun t => tk Tryz.prog S (Instr.loadAt T.sl_api_Validator t) k :=
  tk_get1 (off := 1) (by kernel_rfl) (by kernel_rfl) (caseC_d1 ) hS hk
theorem case.g1 {a0 a1 : Value} {a2 : List Value}  {g : Nat} {w : World} {k : Value → World → Prop} (hS : Blk w g T.isthmuslaw11_Case (caseC a0 a1 a2)) (hk : k a1 w) :
    o1 Tryz.prog (Instr.fieldAt T.isthmuslaw11_Case (.pointer (some ⟨g, 0, none⟩)) 1) w fun t w => o1 Tryz.prog (Instr.loadAt T.sl_api_Validator t) w k :=
  o1_get1 (off := 1) (by kernel_rfl) (by kernel_rfl) (caseC_d1 ) hS hk
theorem caseC_d2 {a0 a1 : Value} {a2 : List Value}  : (caseC a0 a1 a2).drop 2 = a2 ++ ([]) := rfl
theorem case.t2 {a0 a1 : Value} {a2 : List Value}  (h2 : a2.length = 2) {g : Nat} {S : World → Prop} {k : Value → Prop} (hS : ∀ w, S w → Blk w g T.isthmuslaw11_Case (caseC a0 a1 a2)) (hk : k (.agg a2.toArray)) :
    tk Tryz.prog S (Instr.fieldAt T.isthmuslaw11_Case (.pointer (some ⟨g, 0, none⟩)) 2) fun t => tk Tryz.prog S (Instr.loadAt T.api_Params t) k :=
  tk_getn (off := 2) (by kernel_rfl) (by kernel_rfl) h2 (caseC_d2 ) hS hk
theorem case.g2 {a0 a1 : Value} {a2 : List Value}  (h2 : a2.length = 2) {g : Nat} {w : World} {k : Value → World → Prop} (hS : Blk w g T.isthmuslaw11_Case (caseC a0 a1 a2)) (hk : k (.agg a2.toArray) w) :
    o1 Tryz.prog (Instr.fieldAt T.isthmuslaw11_Case (.pointer (some ⟨g, 0, none⟩)) 2) w fun t w => o1 Tryz.prog (Instr.loadAt T.api_Params t) w k :=
  o1_getn (off := 2) (by kernel_rfl) (by kernel_rfl) h2 (caseC_d2 ) hS hk
end Go.Proofs.YtlfelmikcdmkhaaGreatDoor
