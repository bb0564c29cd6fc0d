/- Structs as cells, and their fields: printed by structs.py. -/
import Derived.Test.YtbbmgkbinnomgaaGreatDoorFT
import Derived.Test.YtbbmgkbinnomgaaGreatDoorN
set_option linter.unusedVariables false
set_option linter.unusedSimpArgs false
set_option linter.unusedSectionVars false
namespace Go.Proofs.YtbbmgkbinnomgaaGreatDoor
open Go Go.Isk Go.RowKit
/-- the cells of a T.keys_Signer -/
def signerC (a0 : Value) (a1 : Value) (a2 : List Value) (a3 : List Value) (a4 : Value) (a5 : Value) (a6 : Value) : List Value := a0 :: (a1 :: ((a2 ++ ((a3 ++ (a4 :: (a5 :: (a6 :: ([])))))))))
theorem signerC_d0 {a0 a1 a4 a5 a6 : Value} {a2 a3 : List Value}  : (signerC a0 a1 a2 a3 a4 a5 a6).drop 0 = a0 :: (a1 :: ((a2 ++ ((a3 ++ (a4 :: (a5 :: (a6 :: ([]))))))))) := rfl
theorem signer.t0 {a0 a1 a4 a5 a6 : Value} {a2 a3 : List Value}  {g : Nat} {S : World → Prop} {k : Value → Prop} (hS : ∀ w, S w → Blk w g T.keys_Signer (signerC a0 a1 a2 a3 a4 a5 a6)) (hk : k a0) :
    tk Tryz.prog S (Instr.fieldAt T.keys_Signer (.pointer (some ⟨g, 0, none⟩)) 0) fun t => tk Tryz.prog S (Instr.loadAt T.p_files_FS t) k :=
  tk_get1 (off := 0) (by kernel_rfl) (by kernel_rfl) (signerC_d0 ) hS hk
theorem signer.g0 {a0 a1 a4 a5 a6 : Value} {a2 a3 : List Value}  {g : Nat} {w : World} {k : Value → World → Prop} (hS : Blk w g T.keys_Signer (signerC a0 a1 a2 a3 a4 a5 a6)) (hk : k a0 w) :
    o1 Tryz.prog (Instr.fieldAt T.keys_Signer (.pointer (some ⟨g, 0, none⟩)) 0) w fun t w => o1 Tryz.prog (Instr.loadAt T.p_files_FS t) w k :=
  o1_get1 (off := 0) (by kernel_rfl) (by kernel_rfl) (signerC_d0 ) hS hk
theorem signerC_d1 {a0 a1 a4 a5 a6 : Value} {a2 a3 : List Value}  : (signerC a0 a1 a2 a3 a4 a5 a6).drop 1 = a1 :: ((a2 ++ ((a3 ++ (a4 :: (a5 :: (a6 :: ([])))))))) := rfl
theorem signer.t1 {a0 a1 a4 a5 a6 : Value} {a2 a3 : List Value}  {g : Nat} {S : World → Prop} {k : Value → Prop} (hS : ∀ w, S w → Blk w g T.keys_Signer (signerC a0 a1 a2 a3 a4 a5 a6)) (hk : k a1) :
    tk Tryz.prog S (Instr.fieldAt T.keys_Signer (.pointer (some ⟨g, 0, none⟩)) 1) fun t => tk Tryz.prog S (Instr.loadAt T.string t) k :=
  tk_get1 (off := 1) (by kernel_rfl) (by kernel_rfl) (signerC_d1 ) hS hk
theorem signer.g1 {a0 a1 a4 a5 a6 : Value} {a2 a3 : List Value}  {g : Nat} {w : World} {k : Value → World → Prop} (hS : Blk w g T.keys_Signer (signerC a0 a1 a2 a3 a4 a5 a6)) (hk : k a1 w) :
    o1 Tryz.prog (Instr.fieldAt T.keys_Signer (.pointer (some ⟨g, 0, none⟩)) 1) w fun t w => o1 Tryz.prog (Instr.loadAt T.string t) w k :=
  o1_get1 (off := 1) (by kernel_rfl) (by kernel_rfl) (signerC_d1 ) hS hk
theorem signerC_d2 {a0 a1 a4 a5 a6 : Value} {a2 a3 : List Value}  : (signerC a0 a1 a2 a3 a4 a5 a6).drop 2 = a2 ++ ((a3 ++ (a4 :: (a5 :: (a6 :: ([])))))) := rfl
theorem signer.t2 {a0 a1 a4 a5 a6 : Value} {a2 a3 : List Value}  (h2 : a2.length = 32) {g : Nat} {S : World → Prop} {k : Value → Prop} (hS : ∀ w, S w → Blk w g T.keys_Signer (signerC a0 a1 a2 a3 a4 a5 a6)) (hk : k (.agg a2.toArray)) :
    tk Tryz.prog S (Instr.fieldAt T.keys_Signer (.pointer (some ⟨g, 0, none⟩)) 2) fun t => tk Tryz.prog S (Instr.loadAt T.api_Hash t) k :=
  tk_getn (off := 2) (by kernel_rfl) (by kernel_rfl) h2 (signerC_d2 ) hS hk
theorem signer.g2 {a0 a1 a4 a5 a6 : Value} {a2 a3 : List Value}  (h2 : a2.length = 32) {g : Nat} {w : World} {k : Value → World → Prop} (hS : Blk w g T.keys_Signer (signerC a0 a1 a2 a3 a4 a5 a6)) (hk : k (.agg a2.toArray) w) :
    o1 Tryz.prog (Instr.fieldAt T.keys_Signer (.pointer (some ⟨g, 0, none⟩)) 2) w fun t w => o1 Tryz.prog (Instr.loadAt T.api_Hash t) w k :=
  o1_getn (off := 2) (by kernel_rfl) (by kernel_rfl) h2 (signerC_d2 ) hS hk
theorem signerC_d3 {a0 a1 a4 a5 a6 : Value} {a2 a3 : List Value} (h2 : a2.length = 32) : (signerC a0 a1 a2 a3 a4 a5 a6).drop 34 = a3 ++ (a4 :: (a5 :: (a6 :: ([])))) := by
  unfold signerC
  simp [List.drop_append, List.drop_of_length_le, h2]
theorem signer.t3 {a0 a1 a4 a5 a6 : Value} {a2 a3 : List Value} (h2 : a2.length = 32) (h3 : a3.length = 2) {g : Nat} {S : World → Prop} {k : Value → Prop} (hS : ∀ w, S w → Blk w g T.keys_Signer (signerC a0 a1 a2 a3 a4 a5 a6)) (hk : k (.agg a3.toArray)) :
    tk Tryz.prog S (Instr.fieldAt T.keys_Signer (.pointer (some ⟨g, 0, none⟩)) 3) fun t => tk Tryz.prog S (Instr.loadAt T.api_Params t) k :=
  tk_getn (off := 34) (by kernel_rfl) (by kernel_rfl) h3 (signerC_d3 h2) hS hk
theorem signer.g3 {a0 a1 a4 a5 a6 : Value} {a2 a3 : List Value} (h2 : a2.length = 32) (h3 : a3.length = 2) {g : Nat} {w : World} {k : Value → World → Prop} (hS : Blk w g T.keys_Signer (signerC a0 a1 a2 a3 a4 a5 a6)) (hk : k (.agg a3.toArray) w) :
    o1 Tryz.prog (Instr.fieldAt T.keys_Signer (.pointer (some ⟨g, 0, none⟩)) 3) w fun t w => o1 Tryz.prog (Instr.loadAt T.api_Params t) w k :=
  o1_getn (off := 34) (by kernel_rfl) (by kernel_rfl) h3 (signerC_d3 h2) hS hk
theorem signerC_d4 {a0 a1 a4 a5 a6 : Value} {a2 a3 : List Value} (h2 : a2.length = 32) (h3 : a3.length = 2) : (signerC a0 a1 a2 a3 a4 a5 a6).drop 36 = a4 :: (a5 :: (a6 :: ([]))) := by
  unfold signerC
  simp [List.drop_append, List.drop_of_length_le, h2, h3]
theorem signer.t4 {a0 a1 a4 a5 a6 : Value} {a2 a3 : List Value} (h2 : a2.length = 32) (h3 : a3.length = 2) {g : Nat} {S : World → Prop} {k : Value → Prop} (hS : ∀ w, S w → Blk w g T.keys_Signer (signerC a0 a1 a2 a3 a4 a5 a6)) (hk : k a4) :
    tk Tryz.prog S (Instr.fieldAt T.keys_Signer (.pointer (some ⟨g, 0, none⟩)) 4) fun t => tk Tryz.prog S (Instr.loadAt T.sl_api_Hash t) k :=
  tk_get1 (off := 36) (by kernel_rfl) (by kernel_rfl) (signerC_d4 h2 h3) hS hk
theorem signer.g4 {a0 a1 a4 a5 a6 : Value} {a2 a3 : List Value} (h2 : a2.length = 32) (h3 : a3.length = 2) {g : Nat} {w : World} {k : Value → World → Prop} (hS : Blk w g T.keys_Signer (signerC a0 a1 a2 a3 a4 a5 a6)) (hk : k a4 w) :
    o1 Tryz.prog (Instr.fieldAt T.keys_Signer (.pointer (some ⟨g, 0, none⟩)) 4) w fun t w => o1 Tryz.prog (Instr.loadAt T.sl_api_Hash t) w k :=
  o1_get1 (off := 36) (by kernel_rfl) (by kernel_rfl) (signerC_d4 h2 h3) hS hk
theorem signerC_d5 {a0 a1 a4 a5 a6 : Value} {a2 a3 : List Value} (h2 : a2.length = 32) (h3 : a3.length = 2) : (signerC a0 a1 a2 a3 a4 a5 a6).drop 37 = a5 :: (a6 :: ([])) := by
  unfold signerC
  simp [List.drop_append, List.drop_of_length_le, h2, h3]
theorem signer.t5 {a0 a1 a4 a5 a6 : Value} {a2 a3 : List Value} (h2 : a2.length = 32) (h3 : a3.length = 2) {g : Nat} {S : World → Prop} {k : Value → Prop} (hS : ∀ w, S w → Blk w g T.keys_Signer (signerC a0 a1 a2 a3 a4 a5 a6)) (hk : k a5) :
    tk Tryz.prog S (Instr.fieldAt T.keys_Signer (.pointer (some ⟨g, 0, none⟩)) 5) fun t => tk Tryz.prog S (Instr.loadAt T.int t) k :=
  tk_get1 (off := 37) (by kernel_rfl) (by kernel_rfl) (signerC_d5 h2 h3) hS hk
theorem signer.g5 {a0 a1 a4 a5 a6 : Value} {a2 a3 : List Value} (h2 : a2.length = 32) (h3 : a3.length = 2) {g : Nat} {w : World} {k : Value → World → Prop} (hS : Blk w g T.keys_Signer (signerC a0 a1 a2 a3 a4 a5 a6)) (hk : k a5 w) :
    o1 Tryz.prog (Instr.fieldAt T.keys_Signer (.pointer (some ⟨g, 0, none⟩)) 5) w fun t w => o1 Tryz.prog (Instr.loadAt T.int t) w k :=
  o1_get1 (off := 37) (by kernel_rfl) (by kernel_rfl) (signerC_d5 h2 h3) hS hk
theorem signerC_d6 {a0 a1 a4 a5 a6 : Value} {a2 a3 : List Value} (h2 : a2.length = 32) (h3 : a3.length = 2) : (signerC a0 a1 a2 a3 a4 a5 a6).drop 38 = a6 :: ([]) := by
  unfold signerC
  simp [List.drop_append, List.drop_of_length_le, h2, h3]
theorem signer.t6 {a0 a1 a4 a5 a6 : Value} {a2 a3 : List Value} (h2 : a2.length = 32) (h3 : a3.length = 2) {g : Nat} {S : World → Prop} {k : Value → Prop} (hS : ∀ w, S w → Blk w g T.keys_Signer (signerC a0 a1 a2 a3 a4 a5 a6)) (hk : k a6) :
    tk Tryz.prog S (Instr.fieldAt T.keys_Signer (.pointer (some ⟨g, 0, none⟩)) 6) fun t => tk Tryz.prog S (Instr.loadAt T.error t) k :=
  tk_get1 (off := 38) (by kernel_rfl) (by kernel_rfl) (signerC_d6 h2 h3) hS hk
theorem signer.g6 {a0 a1 a4 a5 a6 : Value} {a2 a3 : List Value} (h2 : a2.length = 32) (h3 : a3.length = 2) {g : Nat} {w : World} {k : Value → World → Prop} (hS : Blk w g T.keys_Signer (signerC a0 a1 a2 a3 a4 a5 a6)) (hk : k a6 w) :
    o1 Tryz.prog (Instr.fieldAt T.keys_Signer (.pointer (some ⟨g, 0, none⟩)) 6) w fun t w => o1 Tryz.prog (Instr.loadAt T.error t) w k :=
  o1_get1 (off := 38) (by kernel_rfl) (by kernel_rfl) (signerC_d6 h2 h3) hS hk
end Go.Proofs.YtbbmgkbinnomgaaGreatDoor
