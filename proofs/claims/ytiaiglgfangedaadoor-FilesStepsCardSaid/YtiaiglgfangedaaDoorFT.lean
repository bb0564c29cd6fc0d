/- Structs as cells, and their fields: printed by structs.py. -/
import Derived.Test.YtiaiglgfangedaaDoorK6
import Derived.Test.YtiaiglgfangedaaDoorN
set_option linter.unusedVariables false
set_option linter.unusedSimpArgs false
set_option linter.unusedSectionVars false
namespace Go.Proofs.YtiaiglgfangedaaDoor
open Go Go.Isk Go.RowKit
/-- the cells of a T.files_FS -/
def fsC (a0 : Value) (a1 : Value) (a2 : Value) (a3 : Value) (a4 : Value) : List Value := a0 :: (a1 :: (a2 :: (a3 :: (a4 :: ([])))))
theorem fsC_d0 {a0 a1 a2 a3 a4 : Value}   : (fsC a0 a1 a2 a3 a4).drop 0 = a0 :: (a1 :: (a2 :: (a3 :: (a4 :: ([]))))) := rfl
theorem fs.t0 {a0 a1 a2 a3 a4 : Value}   {g : Nat} {S : World → Prop} {k : Value → Prop} (hS : ∀ w, S w → Blk w g T.files_FS (fsC a0 a1 a2 a3 a4)) (hk : k a0) :
    tk Tryd.prog S (Instr.fieldAt T.files_FS (.pointer (some ⟨g, 0, none⟩)) 0) fun t => tk Tryd.prog S (Instr.loadAt T.map_string_files_file t) k :=
  tk_get1 (off := 0) (by kernel_rfl) (by kernel_rfl) (fsC_d0 ) hS hk
theorem fsC_d1 {a0 a1 a2 a3 a4 : Value}   : (fsC a0 a1 a2 a3 a4).drop 1 = a1 :: (a2 :: (a3 :: (a4 :: ([])))) := rfl
theorem fs.t1 {a0 a1 a2 a3 a4 : Value}   {g : Nat} {S : World → Prop} {k : Value → Prop} (hS : ∀ w, S w → Blk w g T.files_FS (fsC a0 a1 a2 a3 a4)) (hk : k a1) :
    tk Tryd.prog S (Instr.fieldAt T.files_FS (.pointer (some ⟨g, 0, none⟩)) 1) fun t => tk Tryd.prog S (Instr.loadAt T.int t) k :=
  tk_get1 (off := 1) (by kernel_rfl) (by kernel_rfl) (fsC_d1 ) hS hk
theorem fs.g1 {a0 a1 a2 a3 a4 : Value}   {g : Nat} {w : World} {k : Value → World → Prop} (hS : Blk w g T.files_FS (fsC a0 a1 a2 a3 a4)) (hk : k a1 w) :
    o1 Tryd.prog (Instr.fieldAt T.files_FS (.pointer (some ⟨g, 0, none⟩)) 1) w fun t w => o1 Tryd.prog (Instr.loadAt T.int t) w k :=
  o1_get1 (off := 1) (by kernel_rfl) (by kernel_rfl) (fsC_d1 ) hS hk
theorem fsC_d2 {a0 a1 a2 a3 a4 : Value}   : (fsC a0 a1 a2 a3 a4).drop 2 = a2 :: (a3 :: (a4 :: ([]))) := rfl
theorem fs.t2 {a0 a1 a2 a3 a4 : Value}   {g : Nat} {S : World → Prop} {k : Value → Prop} (hS : ∀ w, S w → Blk w g T.files_FS (fsC a0 a1 a2 a3 a4)) (hk : k a2) :
    tk Tryd.prog S (Instr.fieldAt T.files_FS (.pointer (some ⟨g, 0, none⟩)) 2) fun t => tk Tryd.prog S (Instr.loadAt T.bool t) k :=
  tk_get1 (off := 2) (by kernel_rfl) (by kernel_rfl) (fsC_d2 ) hS hk
theorem fs.g2 {a0 a1 a2 a3 a4 : Value}   {g : Nat} {w : World} {k : Value → World → Prop} (hS : Blk w g T.files_FS (fsC a0 a1 a2 a3 a4)) (hk : k a2 w) :
    o1 Tryd.prog (Instr.fieldAt T.files_FS (.pointer (some ⟨g, 0, none⟩)) 2) w fun t w => o1 Tryd.prog (Instr.loadAt T.bool t) w k :=
  o1_get1 (off := 2) (by kernel_rfl) (by kernel_rfl) (fsC_d2 ) hS hk
theorem fsC_d3 {a0 a1 a2 a3 a4 : Value}   : (fsC a0 a1 a2 a3 a4).drop 3 = a3 :: (a4 :: ([])) := rfl
theorem fs.t3 {a0 a1 a2 a3 a4 : Value}   {g : Nat} {S : World → Prop} {k : Value → Prop} (hS : ∀ w, S w → Blk w g T.files_FS (fsC a0 a1 a2 a3 a4)) (hk : k a3) :
    tk Tryd.prog S (Instr.fieldAt T.files_FS (.pointer (some ⟨g, 0, none⟩)) 3) fun t => tk Tryd.prog S (Instr.loadAt T.int t) k :=
  tk_get1 (off := 3) (by kernel_rfl) (by kernel_rfl) (fsC_d3 ) hS hk
theorem fs.g3 {a0 a1 a2 a3 a4 : Value}   {g : Nat} {w : World} {k : Value → World → Prop} (hS : Blk w g T.files_FS (fsC a0 a1 a2 a3 a4)) (hk : k a3 w) :
    o1 Tryd.prog (Instr.fieldAt T.files_FS (.pointer (some ⟨g, 0, none⟩)) 3) w fun t w => o1 Tryd.prog (Instr.loadAt T.int t) w k :=
  o1_get1 (off := 3) (by kernel_rfl) (by kernel_rfl) (fsC_d3 ) hS hk
theorem fsC_d4 {a0 a1 a2 a3 a4 : Value}   : (fsC a0 a1 a2 a3 a4).drop 4 = a4 :: ([]) := rfl
theorem fs.t4 {a0 a1 a2 a3 a4 : Value}   {g : Nat} {S : World → Prop} {k : Value → Prop} (hS : ∀ w, S w → Blk w g T.files_FS (fsC a0 a1 a2 a3 a4)) (hk : k a4) :
    tk Tryd.prog S (Instr.fieldAt T.files_FS (.pointer (some ⟨g, 0, none⟩)) 4) fun t => tk Tryd.prog S (Instr.loadAt T.bool t) k :=
  tk_get1 (off := 4) (by kernel_rfl) (by kernel_rfl) (fsC_d4 ) hS hk
theorem fs.g4 {a0 a1 a2 a3 a4 : Value}   {g : Nat} {w : World} {k : Value → World → Prop} (hS : Blk w g T.files_FS (fsC a0 a1 a2 a3 a4)) (hk : k a4 w) :
    o1 Tryd.prog (Instr.fieldAt T.files_FS (.pointer (some ⟨g, 0, none⟩)) 4) w fun t w => o1 Tryd.prog (Instr.loadAt T.bool t) w k :=
  o1_get1 (off := 4) (by kernel_rfl) (by kernel_rfl) (fsC_d4 ) hS hk
/-- the cells of a T.files_file -/
def fileC (a0 : Value) (a1 : Value) : List Value := a0 :: (a1 :: ([]))
theorem fileC_d0 {a0 a1 : Value}   : (fileC a0 a1).drop 0 = a0 :: (a1 :: ([])) := rfl
theorem file.t0 {a0 a1 : Value}   {g : Nat} {S : World → Prop} {k : Value → Prop} (hS : ∀ w, S w → Blk w g T.files_file (fileC a0 a1)) (hk : k a0) :
    tk Tryd.prog S (Instr.fieldAt T.files_file (.pointer (some ⟨g, 0, none⟩)) 0) fun t => tk Tryd.prog S (Instr.loadAt T.sl_uint8 t) k :=
  tk_get1 (off := 0) (by kernel_rfl) (by kernel_rfl) (fileC_d0 ) hS hk
theorem fileC_d1 {a0 a1 : Value}   : (fileC a0 a1).drop 1 = a1 :: ([]) := rfl
theorem file.t1 {a0 a1 : Value}   {g : Nat} {S : World → Prop} {k : Value → Prop} (hS : ∀ w, S w → Blk w g T.files_file (fileC a0 a1)) (hk : k a1) :
    tk Tryd.prog S (Instr.fieldAt T.files_file (.pointer (some ⟨g, 0, none⟩)) 1) fun t => tk Tryd.prog S (Instr.loadAt T.int t) k :=
  tk_get1 (off := 1) (by kernel_rfl) (by kernel_rfl) (fileC_d1 ) hS hk
theorem file.g1 {a0 a1 : Value}   {g : Nat} {w : World} {k : Value → World → Prop} (hS : Blk w g T.files_file (fileC a0 a1)) (hk : k a1 w) :
    o1 Tryd.prog (Instr.fieldAt T.files_file (.pointer (some ⟨g, 0, none⟩)) 1) w fun t w => o1 Tryd.prog (Instr.loadAt T.int t) w k :=
  o1_get1 (off := 1) (by kernel_rfl) (by kernel_rfl) (fileC_d1 ) hS hk
/-- the cells of a T.isthmuslaw04_Act -/
def act4C (a0 : Value) (a1 : Value) (a2 : Value) (a3 : Value) (a4 : Value) (a5 : Value) : List Value := a0 :: (a1 :: (a2 :: (a3 :: (a4 :: (a5 :: ([]))))))
theorem act4C_d0 {a0 a1 a2 a3 a4 a5 : Value}   : (act4C a0 a1 a2 a3 a4 a5).drop 0 = a0 :: (a1 :: (a2 :: (a3 :: (a4 :: (a5 :: ([])))))) := rfl
theorem act4.t0 {a0 a1 a2 a3 a4 a5 : Value}   {g : Nat} {S : World → Prop} {k : Value → Prop} (hS : ∀ w, S w → Blk w g T.isthmuslaw04_Act (act4C a0 a1 a2 a3 a4 a5)) (hk : k a0) :
    tk Tryd.prog S (Instr.fieldAt T.isthmuslaw04_Act (.pointer (some ⟨g, 0, none⟩)) 0) fun t => tk Tryd.prog S (Instr.loadAt T.int t) k :=
  tk_get1 (off := 0) (by kernel_rfl) (by kernel_rfl) (act4C_d0 ) hS hk
theorem act4C_d1 {a0 a1 a2 a3 a4 a5 : Value}   : (act4C a0 a1 a2 a3 a4 a5).drop 1 = a1 :: (a2 :: (a3 :: (a4 :: (a5 :: ([]))))) := rfl
theorem act4.t1 {a0 a1 a2 a3 a4 a5 : Value}   {g : Nat} {S : World → Prop} {k : Value → Prop} (hS : ∀ w, S w → Blk w g T.isthmuslaw04_Act (act4C a0 a1 a2 a3 a4 a5)) (hk : k a1) :
    tk Tryd.prog S (Instr.fieldAt T.isthmuslaw04_Act (.pointer (some ⟨g, 0, none⟩)) 1) fun t => tk Tryd.prog S (Instr.loadAt T.int t) k :=
  tk_get1 (off := 1) (by kernel_rfl) (by kernel_rfl) (act4C_d1 ) hS hk
theorem act4.g1 {a0 a1 a2 a3 a4 a5 : Value}   {g : Nat} {w : World} {k : Value → World → Prop} (hS : Blk w g T.isthmuslaw04_Act (act4C a0 a1 a2 a3 a4 a5)) (hk : k a1 w) :
    o1 Tryd.prog (Instr.fieldAt T.isthmuslaw04_Act (.pointer (some ⟨g, 0, none⟩)) 1) w fun t w => o1 Tryd.prog (Instr.loadAt T.int t) w k :=
  o1_get1 (off := 1) (by kernel_rfl) (by kernel_rfl) (act4C_d1 ) hS hk
theorem act4C_d2 {a0 a1 a2 a3 a4 a5 : Value}   : (act4C a0 a1 a2 a3 a4 a5).drop 2 = a2 :: (a3 :: (a4 :: (a5 :: ([])))) := rfl
theorem act4.t2 {a0 a1 a2 a3 a4 a5 : Value}   {g : Nat} {S : World → Prop} {k : Value → Prop} (hS : ∀ w, S w → Blk w g T.isthmuslaw04_Act (act4C a0 a1 a2 a3 a4 a5)) (hk : k a2) :
    tk Tryd.prog S (Instr.fieldAt T.isthmuslaw04_Act (.pointer (some ⟨g, 0, none⟩)) 2) fun t => tk Tryd.prog S (Instr.loadAt T.string t) k :=
  tk_get1 (off := 2) (by kernel_rfl) (by kernel_rfl) (act4C_d2 ) hS hk
theorem act4.g2 {a0 a1 a2 a3 a4 a5 : Value}   {g : Nat} {w : World} {k : Value → World → Prop} (hS : Blk w g T.isthmuslaw04_Act (act4C a0 a1 a2 a3 a4 a5)) (hk : k a2 w) :
    o1 Tryd.prog (Instr.fieldAt T.isthmuslaw04_Act (.pointer (some ⟨g, 0, none⟩)) 2) w fun t w => o1 Tryd.prog (Instr.loadAt T.string t) w k :=
  o1_get1 (off := 2) (by kernel_rfl) (by kernel_rfl) (act4C_d2 ) hS hk
theorem act4C_d3 {a0 a1 a2 a3 a4 a5 : Value}   : (act4C a0 a1 a2 a3 a4 a5).drop 3 = a3 :: (a4 :: (a5 :: ([]))) := rfl
theorem act4.t3 {a0 a1 a2 a3 a4 a5 : Value}   {g : Nat} {S : World → Prop} {k : Value → Prop} (hS : ∀ w, S w → Blk w g T.isthmuslaw04_Act (act4C a0 a1 a2 a3 a4 a5)) (hk : k a3) :
    tk Tryd.prog S (Instr.fieldAt T.isthmuslaw04_Act (.pointer (some ⟨g, 0, none⟩)) 3) fun t => tk Tryd.prog S (Instr.loadAt T.string t) k :=
  tk_get1 (off := 3) (by kernel_rfl) (by kernel_rfl) (act4C_d3 ) hS hk
theorem act4.g3 {a0 a1 a2 a3 a4 a5 : Value}   {g : Nat} {w : World} {k : Value → World → Prop} (hS : Blk w g T.isthmuslaw04_Act (act4C a0 a1 a2 a3 a4 a5)) (hk : k a3 w) :
    o1 Tryd.prog (Instr.fieldAt T.isthmuslaw04_Act (.pointer (some ⟨g, 0, none⟩)) 3) w fun t w => o1 Tryd.prog (Instr.loadAt T.string t) w k :=
  o1_get1 (off := 3) (by kernel_rfl) (by kernel_rfl) (act4C_d3 ) hS hk
theorem act4C_d4 {a0 a1 a2 a3 a4 a5 : Value}   : (act4C a0 a1 a2 a3 a4 a5).drop 4 = a4 :: (a5 :: ([])) := rfl
theorem act4.t4 {a0 a1 a2 a3 a4 a5 : Value}   {g : Nat} {S : World → Prop} {k : Value → Prop} (hS : ∀ w, S w → Blk w g T.isthmuslaw04_Act (act4C a0 a1 a2 a3 a4 a5)) (hk : k a4) :
    tk Tryd.prog S (Instr.fieldAt T.isthmuslaw04_Act (.pointer (some ⟨g, 0, none⟩)) 4) fun t => tk Tryd.prog S (Instr.loadAt T.sl_uint8 t) k :=
  tk_get1 (off := 4) (by kernel_rfl) (by kernel_rfl) (act4C_d4 ) hS hk
theorem act4.g4 {a0 a1 a2 a3 a4 a5 : Value}   {g : Nat} {w : World} {k : Value → World → Prop} (hS : Blk w g T.isthmuslaw04_Act (act4C a0 a1 a2 a3 a4 a5)) (hk : k a4 w) :
    o1 Tryd.prog (Instr.fieldAt T.isthmuslaw04_Act (.pointer (some ⟨g, 0, none⟩)) 4) w fun t w => o1 Tryd.prog (Instr.loadAt T.sl_uint8 t) w k :=
  o1_get1 (off := 4) (by kernel_rfl) (by kernel_rfl) (act4C_d4 ) hS hk
theorem act4C_d5 {a0 a1 a2 a3 a4 a5 : Value}   : (act4C a0 a1 a2 a3 a4 a5).drop 5 = a5 :: ([]) := rfl
theorem act4.t5 {a0 a1 a2 a3 a4 a5 : Value}   {g : Nat} {S : World → Prop} {k : Value → Prop} (hS : ∀ w, S w → Blk w g T.isthmuslaw04_Act (act4C a0 a1 a2 a3 a4 a5)) (hk : k a5) :
    tk Tryd.prog S (Instr.fieldAt T.isthmuslaw04_Act (.pointer (some ⟨g, 0, none⟩)) 5) fun t => tk Tryd.prog S (Instr.loadAt T.sl_int t) k :=
  tk_get1 (off := 5) (by kernel_rfl) (by kernel_rfl) (act4C_d5 ) hS hk
theorem act4.g5 {a0 a1 a2 a3 a4 a5 : Value}   {g : Nat} {w : World} {k : Value → World → Prop} (hS : Blk w g T.isthmuslaw04_Act (act4C a0 a1 a2 a3 a4 a5)) (hk : k a5 w) :
    o1 Tryd.prog (Instr.fieldAt T.isthmuslaw04_Act (.pointer (some ⟨g, 0, none⟩)) 5) w fun t w => o1 Tryd.prog (Instr.loadAt T.sl_int t) w k :=
  o1_get1 (off := 5) (by kernel_rfl) (by kernel_rfl) (act4C_d5 ) hS hk
end Go.Proofs.YtiaiglgfangedaaDoor
