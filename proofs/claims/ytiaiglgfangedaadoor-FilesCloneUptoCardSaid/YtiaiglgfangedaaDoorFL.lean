/- Structs as cells, and their fields: printed by structs.py. -/
import Derived.Test.YtiaiglgfangedaaDoorK6
import Derived.Test.YtiaiglgfangedaaDoorN
import Derived.Test.YtiaiglgfangedaaDoorKT
set_option linter.unusedVariables false
set_option linter.unusedSimpArgs false
set_option linter.unusedSectionVars false
namespace Go.Proofs.YtiaiglgfangedaaDoor
open Go Go.Isk Go.RowKit
/-- the cells of a T.files_FS -/
def fsC (a0 : Value) (a1 : Value) (a2 : Value) (a3 : Value) (a4 : Value) : List Value := a0 :: (a1 :: (a2 :: (a3 :: (a4 :: ([])))))
theorem fsC_d0 {a0 a1 a2 a3 a4 : Value}   : (fsC a0 a1 a2 a3 a4).drop 0 = a0 :: (a1 :: (a2 :: (a3 :: (a4 :: ([]))))) := rfl
theorem fs.t0 {a0 a1 a2 a3 a4 : Value}   {g : Nat} {S : World → Prop} {k : Value → Prop} (hS : ∀ w, S w → Blk w g T.files_FS (fsC a0 a1 a2 a3 a4)) (hk : k a0) :
    tk Tryd.prog S (Instr.fieldAt T.files_FS (.pointer (some ⟨g, 0, none⟩)) 0) fun t => tk Tryd.prog S (Instr.loadAt T.map_string_files_file t) k :=
  tk_get1 (off := 0) (by kernel_rfl) (by kernel_rfl) (fsC_d0 ) hS hk
theorem fsC_d1 {a0 a1 a2 a3 a4 : Value}   : (fsC a0 a1 a2 a3 a4).drop 1 = a1 :: (a2 :: (a3 :: (a4 :: ([])))) := rfl
theorem fs.t1 {a0 a1 a2 a3 a4 : Value}   {g : Nat} {S : World → Prop} {k : Value → Prop} (hS : ∀ w, S w → Blk w g T.files_FS (fsC a0 a1 a2 a3 a4)) (hk : k a1) :
    tk Tryd.prog S (Instr.fieldAt T.files_FS (.pointer (some ⟨g, 0, none⟩)) 1) fun t => tk Tryd.prog S (Instr.loadAt T.int t) k :=
  tk_get1 (off := 1) (by kernel_rfl) (by kernel_rfl) (fsC_d1 ) hS hk
theorem fs.g1 {a0 a1 a2 a3 a4 : Value}   {g : Nat} {w : World} {k : Value → World → Prop} (hS : Blk w g T.files_FS (fsC a0 a1 a2 a3 a4)) (hk : k a1 w) :
    o1 Tryd.prog (Instr.fieldAt T.files_FS (.pointer (some ⟨g, 0, none⟩)) 1) w fun t w => o1 Tryd.prog (Instr.loadAt T.int t) w k :=
  o1_get1 (off := 1) (by kernel_rfl) (by kernel_rfl) (fsC_d1 ) hS hk
theorem fsC_d2 {a0 a1 a2 a3 a4 : Value}   : (fsC a0 a1 a2 a3 a4).drop 2 = a2 :: (a3 :: (a4 :: ([]))) := rfl
theorem fs.t2 {a0 a1 a2 a3 a4 : Value}   {g : Nat} {S : World → Prop} {k : Value → Prop} (hS : ∀ w, S w → Blk w g T.files_FS (fsC a0 a1 a2 a3 a4)) (hk : k a2) :
    tk Tryd.prog S (Instr.fieldAt T.files_FS (.pointer (some ⟨g, 0, none⟩)) 2) fun t => tk Tryd.prog S (Instr.loadAt T.bool t) k :=
  tk_get1 (off := 2) (by kernel_rfl) (by kernel_rfl) (fsC_d2 ) hS hk
theorem fs.g2 {a0 a1 a2 a3 a4 : Value}   {g : Nat} {w : World} {k : Value → World → Prop} (hS : Blk w g T.files_FS (fsC a0 a1 a2 a3 a4)) (hk : k a2 w) :
    o1 Tryd.prog (Instr.fieldAt T.files_FS (.pointer (some ⟨g, 0, none⟩)) 2) w fun t w => o1 Tryd.prog (Instr.loadAt T.bool t) w k :=
  o1_get1 (off := 2) (by kernel_rfl) (by kernel_rfl) (fsC_d2 ) hS hk
theorem fsC_d3 {a0 a1 a2 a3 a4 : Value}   : (fsC a0 a1 a2 a3 a4).drop 3 = a3 :: (a4 :: ([])) := rfl
theorem fs.t3 {a0 a1 a2 a3 a4 : Value}   {g : Nat} {S : World → Prop} {k : Value → Prop} (hS : ∀ w, S w → Blk w g T.files_FS (fsC a0 a1 a2 a3 a4)) (hk : k a3) :
    tk Tryd.prog S (Instr.fieldAt T.files_FS (.pointer (some ⟨g, 0, none⟩)) 3) fun t => tk Tryd.prog S (Instr.loadAt T.int t) k :=
  tk_get1 (off := 3) (by kernel_rfl) (by kernel_rfl) (fsC_d3 ) hS hk
theorem fs.g3 {a0 a1 a2 a3 a4 : Value}   {g : Nat} {w : World} {k : Value → World → Prop} (hS : Blk w g T.files_FS (fsC a0 a1 a2 a3 a4)) (hk : k a3 w) :
    o1 Tryd.prog (Instr.fieldAt T.files_FS (.pointer (some ⟨g, 0, none⟩)) 3) w fun t w => o1 Tryd.prog (Instr.loadAt T.int t) w k :=
  o1_get1 (off := 3) (by kernel_rfl) (by kernel_rfl) (fsC_d3 ) hS hk
theorem fsC_d4 {a0 a1 a2 a3 a4 : Value}   : (fsC a0 a1 a2 a3 a4).drop 4 = a4 :: ([]) := rfl
theorem fs.t4 {a0 a1 a2 a3 a4 : Value}   {g : Nat} {S : World → Prop} {k : Value → Prop} (hS : ∀ w, S w → Blk w g T.files_FS (fsC a0 a1 a2 a3 a4)) (hk : k a4) :
    tk Tryd.prog S (Instr.fieldAt T.files_FS (.pointer (some ⟨g, 0, none⟩)) 4) fun t => tk Tryd.prog S (Instr.loadAt T.bool t) k :=
  tk_get1 (off := 4) (by kernel_rfl) (by kernel_rfl) (fsC_d4 ) hS hk
theorem fs.g4 {a0 a1 a2 a3 a4 : Value}   {g : Nat} {w : World} {k : Value → World → Prop} (hS : Blk w g T.files_FS (fsC a0 a1 a2 a3 a4)) (hk : k a4 w) :
    o1 Tryd.prog (Instr.fieldAt T.files_FS (.pointer (some ⟨g, 0, none⟩)) 4) w fun t w => o1 Tryd.prog (Instr.loadAt T.bool t) w k :=
  o1_get1 (off := 4) (by kernel_rfl) (by kernel_rfl) (fsC_d4 ) hS hk
/-- the cells of a T.files_file -/
def fileC (a0 : Value) (a1 : Value) : List Value := a0 :: (a1 :: ([]))
theorem fileC_d0 {a0 a1 : Value}   : (fileC a0 a1).drop 0 = a0 :: (a1 :: ([])) := rfl
theorem file.t0 {a0 a1 : Value}   {g : Nat} {S : World → Prop} {k : Value → Prop} (hS : ∀ w, S w → Blk w g T.files_file (fileC a0 a1)) (hk : k a0) :
    tk Tryd.prog S (Instr.fieldAt T.files_file (.pointer (some ⟨g, 0, none⟩)) 0) fun t => tk Tryd.prog S (Instr.loadAt T.sl_uint8 t) k :=
  tk_get1 (off := 0) (by kernel_rfl) (by kernel_rfl) (fileC_d0 ) hS hk
theorem fileC_d1 {a0 a1 : Value}   : (fileC a0 a1).drop 1 = a1 :: ([]) := rfl
theorem file.t1 {a0 a1 : Value}   {g : Nat} {S : World → Prop} {k : Value → Prop} (hS : ∀ w, S w → Blk w g T.files_file (fileC a0 a1)) (hk : k a1) :
    tk Tryd.prog S (Instr.fieldAt T.files_file (.pointer (some ⟨g, 0, none⟩)) 1) fun t => tk Tryd.prog S (Instr.loadAt T.int t) k :=
  tk_get1 (off := 1) (by kernel_rfl) (by kernel_rfl) (fileC_d1 ) hS hk
theorem file.g1 {a0 a1 : Value}   {g : Nat} {w : World} {k : Value → World → Prop} (hS : Blk w g T.files_file (fileC a0 a1)) (hk : k a1 w) :
    o1 Tryd.prog (Instr.fieldAt T.files_file (.pointer (some ⟨g, 0, none⟩)) 1) w fun t w => o1 Tryd.prog (Instr.loadAt T.int t) w k :=
  o1_get1 (off := 1) (by kernel_rfl) (by kernel_rfl) (fileC_d1 ) hS hk
/-- the cells of a T.isthmuslaw04_Act -/
def act4C (a0 : Value) (a1 : Value) (a2 : Value) (a3 : Value) (a4 : Value) (a5 : Value) : List Value := a0 :: (a1 :: (a2 :: (a3 :: (a4 :: (a5 :: ([]))))))
theorem act4C_d0 {a0 a1 a2 a3 a4 a5 : Value}   : (act4C a0 a1 a2 a3 a4 a5).drop 0 = a0 :: (a1 :: (a2 :: (a3 :: (a4 :: (a5 :: ([])))))) := rfl
theorem act4.t0 {a0 a1 a2 a3 a4 a5 : Value}   {g : Nat} {S : World → Prop} {k : Value → Prop} (hS : ∀ w, S w → Blk w g T.isthmuslaw04_Act (act4C a0 a1 a2 a3 a4 a5)) (hk : k a0) :
    tk Tryd.prog S (Instr.fieldAt T.isthmuslaw04_Act (.pointer (some ⟨g, 0, none⟩)) 0) fun t => tk Tryd.prog S (Instr.loadAt T.int t) k :=
  tk_get1 (off := 0) (by kernel_rfl) (by kernel_rfl) (act4C_d0 ) hS hk
theorem act4C_d1 {a0 a1 a2 a3 a4 a5 : Value}   : (act4C a0 a1 a2 a3 a4 a5).drop 1 = a1 :: (a2 :: (a3 :: (a4 :: (a5 :: ([]))))) := rfl
theorem act4.t1 {a0 a1 a2 a3 a4 a5 : Value}   {g : Nat} {S : World → Prop} {k : Value → Prop} (hS : ∀ w, S w → Blk w g T.isthmuslaw04_Act (act4C a0 a1 a2 a3 a4 a5)) (hk : k a1) :
    tk Tryd.prog S (Instr.fieldAt T.isthmuslaw04_Act (.pointer (some ⟨g, 0, none⟩)) 1) fun t => tk Tryd.prog S (Instr.loadAt T.int t) k :=
  tk_get1 (off := 1) (by kernel_rfl) (by kernel_rfl) (act4C_d1 ) hS hk
theorem act4.g1 {a0 a1 a2 a3 a4 a5 : Value}   {g : Nat} {w : World} {k : Value → World → Prop} (hS : Blk w g T.isthmuslaw04_Act (act4C a0 a1 a2 a3 a4 a5)) (hk : k a1 w) :
    o1 Tryd.prog (Instr.fieldAt T.isthmuslaw04_Act (.pointer (some ⟨g, 0, none⟩)) 1) w fun t w => o1 Tryd.prog (Instr.loadAt T.int t) w k :=
  o1_get1 (off := 1) (by kernel_rfl) (by kernel_rfl) (act4C_d1 ) hS hk
theorem act4C_d2 {a0 a1 a2 a3 a4 a5 : Value}   : (act4C a0 a1 a2 a3 a4 a5).drop 2 = a2 :: (a3 :: (a4 :: (a5 :: ([])))) := rfl
theorem act4.t2 {a0 a1 a2 a3 a4 a5 : Value}   {g : Nat} {S : World → Prop} {k : Value → Prop} (hS : ∀ w, S w → Blk w g T.isthmuslaw04_Act (act4C a0 a1 a2 a3 a4 a5)) (hk : k a2) :
    tk Tryd.prog S (Instr.fieldAt T.isthmuslaw04_Act (.pointer (some ⟨g, 0, none⟩)) 2) fun t => tk Tryd.prog S (Instr.loadAt T.string t) k :=
  tk_get1 (off := 2) (by kernel_rfl) (by kernel_rfl) (act4C_d2 ) hS hk
theorem act4.g2 {a0 a1 a2 a3 a4 a5 : Value}   {g : Nat} {w : World} {k : Value → World → Prop} (hS : Blk w g T.isthmuslaw04_Act (act4C a0 a1 a2 a3 a4 a5)) (hk : k a2 w) :
    o1 Tryd.prog (Instr.fieldAt T.isthmuslaw04_Act (.pointer (some ⟨g, 0, none⟩)) 2) w fun t w => o1 Tryd.prog (Instr.loadAt T.string t) w k :=
  o1_get1 (off := 2) (by kernel_rfl) (by kernel_rfl) (act4C_d2 ) hS hk
theorem act4C_d3 {a0 a1 a2 a3 a4 a5 : Value}   : (act4C a0 a1 a2 a3 a4 a5).drop 3 = a3 :: (a4 :: (a5 :: ([]))) := rfl
theorem act4.t3 {a0 a1 a2 a3 a4 a5 : Value}   {g : Nat} {S : World → Prop} {k : Value → Prop} (hS : ∀ w, S w → Blk w g T.isthmuslaw04_Act (act4C a0 a1 a2 a3 a4 a5)) (hk : k a3) :
    tk Tryd.prog S (Instr.fieldAt T.isthmuslaw04_Act (.pointer (some ⟨g, 0, none⟩)) 3) fun t => tk Tryd.prog S (Instr.loadAt T.string t) k :=
  tk_get1 (off := 3) (by kernel_rfl) (by kernel_rfl) (act4C_d3 ) hS hk
theorem act4.g3 {a0 a1 a2 a3 a4 a5 : Value}   {g : Nat} {w : World} {k : Value → World → Prop} (hS : Blk w g T.isthmuslaw04_Act (act4C a0 a1 a2 a3 a4 a5)) (hk : k a3 w) :
    o1 Tryd.prog (Instr.fieldAt T.isthmuslaw04_Act (.pointer (some ⟨g, 0, none⟩)) 3) w fun t w => o1 Tryd.prog (Instr.loadAt T.string t) w k :=
  o1_get1 (off := 3) (by kernel_rfl) (by kernel_rfl) (act4C_d3 ) hS hk
theorem act4C_d4 {a0 a1 a2 a3 a4 a5 : Value}   : (act4C a0 a1 a2 a3 a4 a5).drop 4 = a4 :: (a5 :: ([])) := rfl
theorem act4.t4 {a0 a1 a2 a3 a4 a5 : Value}   {g : Nat} {S : World → Prop} {k : Value → Prop} (hS : ∀ w, S w → Blk w g T.isthmuslaw04_Act (act4C a0 a1 a2 a3 a4 a5)) (hk : k a4) :
    tk Tryd.prog S (Instr.fieldAt T.isthmuslaw04_Act (.pointer (some ⟨g, 0, none⟩)) 4) fun t => tk Tryd.prog S (Instr.loadAt T.sl_uint8 t) k :=
  tk_get1 (off := 4) (by kernel_rfl) (by kernel_rfl) (act4C_d4 ) hS hk
theorem act4.g4 {a0 a1 a2 a3 a4 a5 : Value}   {g : Nat} {w : World} {k : Value → World → Prop} (hS : Blk w g T.isthmuslaw04_Act (act4C a0 a1 a2 a3 a4 a5)) (hk : k a4 w) :
    o1 Tryd.prog (Instr.fieldAt T.isthmuslaw04_Act (.pointer (some ⟨g, 0, none⟩)) 4) w fun t w => o1 Tryd.prog (Instr.loadAt T.sl_uint8 t) w k :=
  o1_get1 (off := 4) (by kernel_rfl) (by kernel_rfl) (act4C_d4 ) hS hk
theorem act4C_d5 {a0 a1 a2 a3 a4 a5 : Value}   : (act4C a0 a1 a2 a3 a4 a5).drop 5 = a5 :: ([]) := rfl
theorem act4.t5 {a0 a1 a2 a3 a4 a5 : Value}   {g : Nat} {S : World → Prop} {k : Value → Prop} (hS : ∀ w, S w → Blk w g T.isthmuslaw04_Act (act4C a0 a1 a2 a3 a4 a5)) (hk : k a5) :
    tk Tryd.prog S (Instr.fieldAt T.isthmuslaw04_Act (.pointer (some ⟨g, 0, none⟩)) 5) fun t => tk Tryd.prog S (Instr.loadAt T.sl_int t) k :=
  tk_get1 (off := 5) (by kernel_rfl) (by kernel_rfl) (act4C_d5 ) hS hk
theorem act4.g5 {a0 a1 a2 a3 a4 a5 : Value}   {g : Nat} {w : World} {k : Value → World → Prop} (hS : Blk w g T.isthmuslaw04_Act (act4C a0 a1 a2 a3 a4 a5)) (hk : k a5 w) :
    o1 Tryd.prog (Instr.fieldAt T.isthmuslaw04_Act (.pointer (some ⟨g, 0, none⟩)) 5) w fun t w => o1 Tryd.prog (Instr.loadAt T.sl_int t) w k :=
  o1_get1 (off := 5) (by kernel_rfl) (by kernel_rfl) (act4C_d5 ) hS hk
end Go.Proofs.YtiaiglgfangedaaDoor
set_option linter.unusedVariables false
set_option linter.unusedSimpArgs false
set_option linter.unusedSectionVars false
namespace Go.Proofs.YtiaiglgfangedaaDoor
open Go Go.Isk Go.RowKit
theorem fs.a0 {w : World} {g o : Nat} {k : Value → World → Prop} (hk : k (.pointer (some ⟨g, o + 0, none⟩)) w) : o1 Tryd.prog (Instr.fieldAt T.files_FS (.pointer (some ⟨g, o, none⟩)) 0) w k := st_of (fieldAt_run (by kernel_rfl) g o w) hk
theorem fs.c0 {g o : Nat} {k : Value → Prop} {S : World → Prop} (hk : k (.pointer (some ⟨g, o + 0, none⟩))) : tk Tryd.prog S (Instr.fieldAt T.files_FS (.pointer (some ⟨g, o, none⟩)) 0) k := tk_of _ (fun w _ => fieldAt_run (by kernel_rfl) g o w) hk
theorem fs.r0 {a0 a1 a2 a3 a4 : Value} {b : Base} {w : World} {L : List It} {g o : Nat} {k : Value → World → Prop} (h : Sep b w L) (hr : Rng L g o (fsC a0 a1 a2 a3 a4))  (hk : k a0 w) : o1 Tryd.prog (Instr.loadAt T.map_string_files_file (.pointer (some ⟨g, o + 0, none⟩))) w k := st_of (load_one (by kernel_rfl) (range_cell (h.rng hr) (get_of_drop (fsC_d0 )))) hk
theorem fs.e0 {a0 a1 a2 a3 a4 : Value} {L : List It} {g o : Nat} {k : Value → Prop} {S : World → Prop} (hS : ∀ w, S w → Mayr L w) (hr : Rng L g o (fsC a0 a1 a2 a3 a4))  (hk : k a0) : tk Tryd.prog S (Instr.loadAt T.map_string_files_file (.pointer (some ⟨g, o + 0, none⟩))) k := tk_of _ (fun w hw => load_one (by kernel_rfl) (range_cell ((hS w hw).rng hr) (get_of_drop (fsC_d0 )))) hk
theorem fs.s0 {a0 a1 a2 a3 a4 : Value} {x : Value} {b : Base} {w : World} {L R : List It} {g : Nat} {k : Value → World → Prop} {tt : TypeId} (h : Sep b w L) (hm : Has L (blkI g tt (fsC a0 a1 a2 a3 a4)) R)  (hv : x.cells = #[x] ∧ x.oneCell' = true) (hk : ∀ w', Sep b w' (blkI g tt (fsC x a1 a2 a3 a4) :: R) → k undef w') :
    o1 Tryd.prog (Instr.fieldAt T.files_FS (.pointer (some ⟨g, 0, none⟩)) 0) w fun a w => o0 Tryd.prog (Instr.storeAt T.map_string_files_file a x) w k :=
  sp_s1 (off := 0) (by kernel_rfl) (by kernel_rfl) (by simp [fsC]) (by simp [fsC, List.set_append]) hv h hm hk
theorem fs.k1 {a0 a1 a2 a3 a4 : Value} {L : List It} {g o : Nat} {k : Value → Prop} {S : World → Prop} (hS : ∀ w, S w → Mayr L w) (hr : Rng L g o (fsC a0 a1 a2 a3 a4))  (hk : k a1) :
    tk Tryd.prog S (Instr.fieldAt T.files_FS (.pointer (some ⟨g, o, none⟩)) 1) fun t => tk Tryd.prog S (Instr.loadAt T.int t) k :=
  tk_f1 (off := 1) (by kernel_rfl) (by kernel_rfl) (fsC_d1 ) hS hr hk
theorem fs.a1 {w : World} {g o : Nat} {k : Value → World → Prop} (hk : k (.pointer (some ⟨g, o + 1, none⟩)) w) : o1 Tryd.prog (Instr.fieldAt T.files_FS (.pointer (some ⟨g, o, none⟩)) 1) w k := st_of (fieldAt_run (by kernel_rfl) g o w) hk
theorem fs.c1 {g o : Nat} {k : Value → Prop} {S : World → Prop} (hk : k (.pointer (some ⟨g, o + 1, none⟩))) : tk Tryd.prog S (Instr.fieldAt T.files_FS (.pointer (some ⟨g, o, none⟩)) 1) k := tk_of _ (fun w _ => fieldAt_run (by kernel_rfl) g o w) hk
theorem fs.r1 {a0 a1 a2 a3 a4 : Value} {b : Base} {w : World} {L : List It} {g o : Nat} {k : Value → World → Prop} (h : Sep b w L) (hr : Rng L g o (fsC a0 a1 a2 a3 a4))  (hk : k a1 w) : o1 Tryd.prog (Instr.loadAt T.int (.pointer (some ⟨g, o + 1, none⟩))) w k := st_of (load_one (by kernel_rfl) (range_cell (h.rng hr) (get_of_drop (fsC_d1 )))) hk
theorem fs.e1 {a0 a1 a2 a3 a4 : Value} {L : List It} {g o : Nat} {k : Value → Prop} {S : World → Prop} (hS : ∀ w, S w → Mayr L w) (hr : Rng L g o (fsC a0 a1 a2 a3 a4))  (hk : k a1) : tk Tryd.prog S (Instr.loadAt T.int (.pointer (some ⟨g, o + 1, none⟩))) k := tk_of _ (fun w hw => load_one (by kernel_rfl) (range_cell ((hS w hw).rng hr) (get_of_drop (fsC_d1 )))) hk
theorem fs.s1 {a0 a1 a2 a3 a4 : Value} {x : Value} {b : Base} {w : World} {L R : List It} {g : Nat} {k : Value → World → Prop} {tt : TypeId} (h : Sep b w L) (hm : Has L (blkI g tt (fsC a0 a1 a2 a3 a4)) R)  (hv : x.cells = #[x] ∧ x.oneCell' = true) (hk : ∀ w', Sep b w' (blkI g tt (fsC a0 x a2 a3 a4) :: R) → k undef w') :
    o1 Tryd.prog (Instr.fieldAt T.files_FS (.pointer (some ⟨g, 0, none⟩)) 1) w fun a w => o0 Tryd.prog (Instr.storeAt T.int a x) w k :=
  sp_s1 (off := 1) (by kernel_rfl) (by kernel_rfl) (by simp [fsC]) (by simp [fsC, List.set_append]) hv h hm hk
theorem fs.l2 {a0 a1 a2 a3 a4 : Value} {b : Base} {w : World} {L : List It} {g o : Nat} {k : Value → World → Prop} (h : Sep b w L) (hr : Rng L g o (fsC a0 a1 a2 a3 a4))  (hk : k a2 w) :
    o1 Tryd.prog (Instr.fieldAt T.files_FS (.pointer (some ⟨g, o, none⟩)) 2) w fun t w => o1 Tryd.prog (Instr.loadAt T.bool t) w k :=
  sp_f1 (off := 2) (by kernel_rfl) (by kernel_rfl) (fsC_d2 ) h hr hk
theorem fs.k2 {a0 a1 a2 a3 a4 : Value} {L : List It} {g o : Nat} {k : Value → Prop} {S : World → Prop} (hS : ∀ w, S w → Mayr L w) (hr : Rng L g o (fsC a0 a1 a2 a3 a4))  (hk : k a2) :
    tk Tryd.prog S (Instr.fieldAt T.files_FS (.pointer (some ⟨g, o, none⟩)) 2) fun t => tk Tryd.prog S (Instr.loadAt T.bool t) k :=
  tk_f1 (off := 2) (by kernel_rfl) (by kernel_rfl) (fsC_d2 ) hS hr hk
theorem fs.a2 {w : World} {g o : Nat} {k : Value → World → Prop} (hk : k (.pointer (some ⟨g, o + 2, none⟩)) w) : o1 Tryd.prog (Instr.fieldAt T.files_FS (.pointer (some ⟨g, o, none⟩)) 2) w k := st_of (fieldAt_run (by kernel_rfl) g o w) hk
theorem fs.c2 {g o : Nat} {k : Value → Prop} {S : World → Prop} (hk : k (.pointer (some ⟨g, o + 2, none⟩))) : tk Tryd.prog S (Instr.fieldAt T.files_FS (.pointer (some ⟨g, o, none⟩)) 2) k := tk_of _ (fun w _ => fieldAt_run (by kernel_rfl) g o w) hk
theorem fs.r2 {a0 a1 a2 a3 a4 : Value} {b : Base} {w : World} {L : List It} {g o : Nat} {k : Value → World → Prop} (h : Sep b w L) (hr : Rng L g o (fsC a0 a1 a2 a3 a4))  (hk : k a2 w) : o1 Tryd.prog (Instr.loadAt T.bool (.pointer (some ⟨g, o + 2, none⟩))) w k := st_of (load_one (by kernel_rfl) (range_cell (h.rng hr) (get_of_drop (fsC_d2 )))) hk
theorem fs.e2 {a0 a1 a2 a3 a4 : Value} {L : List It} {g o : Nat} {k : Value → Prop} {S : World → Prop} (hS : ∀ w, S w → Mayr L w) (hr : Rng L g o (fsC a0 a1 a2 a3 a4))  (hk : k a2) : tk Tryd.prog S (Instr.loadAt T.bool (.pointer (some ⟨g, o + 2, none⟩))) k := tk_of _ (fun w hw => load_one (by kernel_rfl) (range_cell ((hS w hw).rng hr) (get_of_drop (fsC_d2 )))) hk
theorem fs.s2 {a0 a1 a2 a3 a4 : Value} {x : Value} {b : Base} {w : World} {L R : List It} {g : Nat} {k : Value → World → Prop} {tt : TypeId} (h : Sep b w L) (hm : Has L (blkI g tt (fsC a0 a1 a2 a3 a4)) R)  (hv : x.cells = #[x] ∧ x.oneCell' = true) (hk : ∀ w', Sep b w' (blkI g tt (fsC a0 a1 x a3 a4) :: R) → k undef w') :
    o1 Tryd.prog (Instr.fieldAt T.files_FS (.pointer (some ⟨g, 0, none⟩)) 2) w fun a w => o0 Tryd.prog (Instr.storeAt T.bool a x) w k :=
  sp_s1 (off := 2) (by kernel_rfl) (by kernel_rfl) (by simp [fsC]) (by simp [fsC, List.set_append]) hv h hm hk
theorem fs.k3 {a0 a1 a2 a3 a4 : Value} {L : List It} {g o : Nat} {k : Value → Prop} {S : World → Prop} (hS : ∀ w, S w → Mayr L w) (hr : Rng L g o (fsC a0 a1 a2 a3 a4))  (hk : k a3) :
    tk Tryd.prog S (Instr.fieldAt T.files_FS (.pointer (some ⟨g, o, none⟩)) 3) fun t => tk Tryd.prog S (Instr.loadAt T.int t) k :=
  tk_f1 (off := 3) (by kernel_rfl) (by kernel_rfl) (fsC_d3 ) hS hr hk
theorem fs.a3 {w : World} {g o : Nat} {k : Value → World → Prop} (hk : k (.pointer (some ⟨g, o + 3, none⟩)) w) : o1 Tryd.prog (Instr.fieldAt T.files_FS (.pointer (some ⟨g, o, none⟩)) 3) w k := st_of (fieldAt_run (by kernel_rfl) g o w) hk
theorem fs.c3 {g o : Nat} {k : Value → Prop} {S : World → Prop} (hk : k (.pointer (some ⟨g, o + 3, none⟩))) : tk Tryd.prog S (Instr.fieldAt T.files_FS (.pointer (some ⟨g, o, none⟩)) 3) k := tk_of _ (fun w _ => fieldAt_run (by kernel_rfl) g o w) hk
theorem fs.r3 {a0 a1 a2 a3 a4 : Value} {b : Base} {w : World} {L : List It} {g o : Nat} {k : Value → World → Prop} (h : Sep b w L) (hr : Rng L g o (fsC a0 a1 a2 a3 a4))  (hk : k a3 w) : o1 Tryd.prog (Instr.loadAt T.int (.pointer (some ⟨g, o + 3, none⟩))) w k := st_of (load_one (by kernel_rfl) (range_cell (h.rng hr) (get_of_drop (fsC_d3 )))) hk
theorem fs.e3 {a0 a1 a2 a3 a4 : Value} {L : List It} {g o : Nat} {k : Value → Prop} {S : World → Prop} (hS : ∀ w, S w → Mayr L w) (hr : Rng L g o (fsC a0 a1 a2 a3 a4))  (hk : k a3) : tk Tryd.prog S (Instr.loadAt T.int (.pointer (some ⟨g, o + 3, none⟩))) k := tk_of _ (fun w hw => load_one (by kernel_rfl) (range_cell ((hS w hw).rng hr) (get_of_drop (fsC_d3 )))) hk
theorem fs.s3 {a0 a1 a2 a3 a4 : Value} {x : Value} {b : Base} {w : World} {L R : List It} {g : Nat} {k : Value → World → Prop} {tt : TypeId} (h : Sep b w L) (hm : Has L (blkI g tt (fsC a0 a1 a2 a3 a4)) R)  (hv : x.cells = #[x] ∧ x.oneCell' = true) (hk : ∀ w', Sep b w' (blkI g tt (fsC a0 a1 a2 x a4) :: R) → k undef w') :
    o1 Tryd.prog (Instr.fieldAt T.files_FS (.pointer (some ⟨g, 0, none⟩)) 3) w fun a w => o0 Tryd.prog (Instr.storeAt T.int a x) w k :=
  sp_s1 (off := 3) (by kernel_rfl) (by kernel_rfl) (by simp [fsC]) (by simp [fsC, List.set_append]) hv h hm hk
theorem fs.k4 {a0 a1 a2 a3 a4 : Value} {L : List It} {g o : Nat} {k : Value → Prop} {S : World → Prop} (hS : ∀ w, S w → Mayr L w) (hr : Rng L g o (fsC a0 a1 a2 a3 a4))  (hk : k a4) :
    tk Tryd.prog S (Instr.fieldAt T.files_FS (.pointer (some ⟨g, o, none⟩)) 4) fun t => tk Tryd.prog S (Instr.loadAt T.bool t) k :=
  tk_f1 (off := 4) (by kernel_rfl) (by kernel_rfl) (fsC_d4 ) hS hr hk
theorem fs.a4 {w : World} {g o : Nat} {k : Value → World → Prop} (hk : k (.pointer (some ⟨g, o + 4, none⟩)) w) : o1 Tryd.prog (Instr.fieldAt T.files_FS (.pointer (some ⟨g, o, none⟩)) 4) w k := st_of (fieldAt_run (by kernel_rfl) g o w) hk
theorem fs.c4 {g o : Nat} {k : Value → Prop} {S : World → Prop} (hk : k (.pointer (some ⟨g, o + 4, none⟩))) : tk Tryd.prog S (Instr.fieldAt T.files_FS (.pointer (some ⟨g, o, none⟩)) 4) k := tk_of _ (fun w _ => fieldAt_run (by kernel_rfl) g o w) hk
theorem fs.r4 {a0 a1 a2 a3 a4 : Value} {b : Base} {w : World} {L : List It} {g o : Nat} {k : Value → World → Prop} (h : Sep b w L) (hr : Rng L g o (fsC a0 a1 a2 a3 a4))  (hk : k a4 w) : o1 Tryd.prog (Instr.loadAt T.bool (.pointer (some ⟨g, o + 4, none⟩))) w k := st_of (load_one (by kernel_rfl) (range_cell (h.rng hr) (get_of_drop (fsC_d4 )))) hk
theorem fs.e4 {a0 a1 a2 a3 a4 : Value} {L : List It} {g o : Nat} {k : Value → Prop} {S : World → Prop} (hS : ∀ w, S w → Mayr L w) (hr : Rng L g o (fsC a0 a1 a2 a3 a4))  (hk : k a4) : tk Tryd.prog S (Instr.loadAt T.bool (.pointer (some ⟨g, o + 4, none⟩))) k := tk_of _ (fun w hw => load_one (by kernel_rfl) (range_cell ((hS w hw).rng hr) (get_of_drop (fsC_d4 )))) hk
theorem fs.s4 {a0 a1 a2 a3 a4 : Value} {x : Value} {b : Base} {w : World} {L R : List It} {g : Nat} {k : Value → World → Prop} {tt : TypeId} (h : Sep b w L) (hm : Has L (blkI g tt (fsC a0 a1 a2 a3 a4)) R)  (hv : x.cells = #[x] ∧ x.oneCell' = true) (hk : ∀ w', Sep b w' (blkI g tt (fsC a0 a1 a2 a3 x) :: R) → k undef w') :
    o1 Tryd.prog (Instr.fieldAt T.files_FS (.pointer (some ⟨g, 0, none⟩)) 4) w fun a w => o0 Tryd.prog (Instr.storeAt T.bool a x) w k :=
  sp_s1 (off := 4) (by kernel_rfl) (by kernel_rfl) (by simp [fsC]) (by simp [fsC, List.set_append]) hv h hm hk
theorem file.a0 {w : World} {g o : Nat} {k : Value → World → Prop} (hk : k (.pointer (some ⟨g, o + 0, none⟩)) w) : o1 Tryd.prog (Instr.fieldAt T.files_file (.pointer (some ⟨g, o, none⟩)) 0) w k := st_of (fieldAt_run (by kernel_rfl) g o w) hk
theorem file.c0 {g o : Nat} {k : Value → Prop} {S : World → Prop} (hk : k (.pointer (some ⟨g, o + 0, none⟩))) : tk Tryd.prog S (Instr.fieldAt T.files_file (.pointer (some ⟨g, o, none⟩)) 0) k := tk_of _ (fun w _ => fieldAt_run (by kernel_rfl) g o w) hk
theorem file.r0 {a0 a1 : Value} {b : Base} {w : World} {L : List It} {g o : Nat} {k : Value → World → Prop} (h : Sep b w L) (hr : Rng L g o (fileC a0 a1))  (hk : k a0 w) : o1 Tryd.prog (Instr.loadAt T.sl_uint8 (.pointer (some ⟨g, o + 0, none⟩))) w k := st_of (load_one (by kernel_rfl) (range_cell (h.rng hr) (get_of_drop (fileC_d0 )))) hk
theorem file.e0 {a0 a1 : Value} {L : List It} {g o : Nat} {k : Value → Prop} {S : World → Prop} (hS : ∀ w, S w → Mayr L w) (hr : Rng L g o (fileC a0 a1))  (hk : k a0) : tk Tryd.prog S (Instr.loadAt T.sl_uint8 (.pointer (some ⟨g, o + 0, none⟩))) k := tk_of _ (fun w hw => load_one (by kernel_rfl) (range_cell ((hS w hw).rng hr) (get_of_drop (fileC_d0 )))) hk
theorem file.s0 {a0 a1 : Value} {x : Value} {b : Base} {w : World} {L R : List It} {g : Nat} {k : Value → World → Prop} {tt : TypeId} (h : Sep b w L) (hm : Has L (blkI g tt (fileC a0 a1)) R)  (hv : x.cells = #[x] ∧ x.oneCell' = true) (hk : ∀ w', Sep b w' (blkI g tt (fileC x a1) :: R) → k undef w') :
    o1 Tryd.prog (Instr.fieldAt T.files_file (.pointer (some ⟨g, 0, none⟩)) 0) w fun a w => o0 Tryd.prog (Instr.storeAt T.sl_uint8 a x) w k :=
  sp_s1 (off := 0) (by kernel_rfl) (by kernel_rfl) (by simp [fileC]) (by simp [fileC, List.set_append]) hv h hm hk
theorem file.k1 {a0 a1 : Value} {L : List It} {g o : Nat} {k : Value → Prop} {S : World → Prop} (hS : ∀ w, S w → Mayr L w) (hr : Rng L g o (fileC a0 a1))  (hk : k a1) :
    tk Tryd.prog S (Instr.fieldAt T.files_file (.pointer (some ⟨g, o, none⟩)) 1) fun t => tk Tryd.prog S (Instr.loadAt T.int t) k :=
  tk_f1 (off := 1) (by kernel_rfl) (by kernel_rfl) (fileC_d1 ) hS hr hk
theorem file.a1 {w : World} {g o : Nat} {k : Value → World → Prop} (hk : k (.pointer (some ⟨g, o + 1, none⟩)) w) : o1 Tryd.prog (Instr.fieldAt T.files_file (.pointer (some ⟨g, o, none⟩)) 1) w k := st_of (fieldAt_run (by kernel_rfl) g o w) hk
theorem file.c1 {g o : Nat} {k : Value → Prop} {S : World → Prop} (hk : k (.pointer (some ⟨g, o + 1, none⟩))) : tk Tryd.prog S (Instr.fieldAt T.files_file (.pointer (some ⟨g, o, none⟩)) 1) k := tk_of _ (fun w _ => fieldAt_run (by kernel_rfl) g o w) hk
theorem file.r1 {a0 a1 : Value} {b : Base} {w : World} {L : List It} {g o : Nat} {k : Value → World → Prop} (h : Sep b w L) (hr : Rng L g o (fileC a0 a1))  (hk : k a1 w) : o1 Tryd.prog (Instr.loadAt T.int (.pointer (some ⟨g, o + 1, none⟩))) w k := st_of (load_one (by kernel_rfl) (range_cell (h.rng hr) (get_of_drop (fileC_d1 )))) hk
theorem file.e1 {a0 a1 : Value} {L : List It} {g o : Nat} {k : Value → Prop} {S : World → Prop} (hS : ∀ w, S w → Mayr L w) (hr : Rng L g o (fileC a0 a1))  (hk : k a1) : tk Tryd.prog S (Instr.loadAt T.int (.pointer (some ⟨g, o + 1, none⟩))) k := tk_of _ (fun w hw => load_one (by kernel_rfl) (range_cell ((hS w hw).rng hr) (get_of_drop (fileC_d1 )))) hk
theorem file.s1 {a0 a1 : Value} {x : Value} {b : Base} {w : World} {L R : List It} {g : Nat} {k : Value → World → Prop} {tt : TypeId} (h : Sep b w L) (hm : Has L (blkI g tt (fileC a0 a1)) R)  (hv : x.cells = #[x] ∧ x.oneCell' = true) (hk : ∀ w', Sep b w' (blkI g tt (fileC a0 x) :: R) → k undef w') :
    o1 Tryd.prog (Instr.fieldAt T.files_file (.pointer (some ⟨g, 0, none⟩)) 1) w fun a w => o0 Tryd.prog (Instr.storeAt T.int a x) w k :=
  sp_s1 (off := 1) (by kernel_rfl) (by kernel_rfl) (by simp [fileC]) (by simp [fileC, List.set_append]) hv h hm hk
theorem act4.a0 {w : World} {g o : Nat} {k : Value → World → Prop} (hk : k (.pointer (some ⟨g, o + 0, none⟩)) w) : o1 Tryd.prog (Instr.fieldAt T.isthmuslaw04_Act (.pointer (some ⟨g, o, none⟩)) 0) w k := st_of (fieldAt_run (by kernel_rfl) g o w) hk
theorem act4.c0 {g o : Nat} {k : Value → Prop} {S : World → Prop} (hk : k (.pointer (some ⟨g, o + 0, none⟩))) : tk Tryd.prog S (Instr.fieldAt T.isthmuslaw04_Act (.pointer (some ⟨g, o, none⟩)) 0) k := tk_of _ (fun w _ => fieldAt_run (by kernel_rfl) g o w) hk
theorem act4.r0 {a0 a1 a2 a3 a4 a5 : Value} {b : Base} {w : World} {L : List It} {g o : Nat} {k : Value → World → Prop} (h : Sep b w L) (hr : Rng L g o (act4C a0 a1 a2 a3 a4 a5))  (hk : k a0 w) : o1 Tryd.prog (Instr.loadAt T.int (.pointer (some ⟨g, o + 0, none⟩))) w k := st_of (load_one (by kernel_rfl) (range_cell (h.rng hr) (get_of_drop (act4C_d0 )))) hk
theorem act4.e0 {a0 a1 a2 a3 a4 a5 : Value} {L : List It} {g o : Nat} {k : Value → Prop} {S : World → Prop} (hS : ∀ w, S w → Mayr L w) (hr : Rng L g o (act4C a0 a1 a2 a3 a4 a5))  (hk : k a0) : tk Tryd.prog S (Instr.loadAt T.int (.pointer (some ⟨g, o + 0, none⟩))) k := tk_of _ (fun w hw => load_one (by kernel_rfl) (range_cell ((hS w hw).rng hr) (get_of_drop (act4C_d0 )))) hk
theorem act4.s0 {a0 a1 a2 a3 a4 a5 : Value} {x : Value} {b : Base} {w : World} {L R : List It} {g : Nat} {k : Value → World → Prop} {tt : TypeId} (h : Sep b w L) (hm : Has L (blkI g tt (act4C a0 a1 a2 a3 a4 a5)) R)  (hv : x.cells = #[x] ∧ x.oneCell' = true) (hk : ∀ w', Sep b w' (blkI g tt (act4C x a1 a2 a3 a4 a5) :: R) → k undef w') :
    o1 Tryd.prog (Instr.fieldAt T.isthmuslaw04_Act (.pointer (some ⟨g, 0, none⟩)) 0) w fun a w => o0 Tryd.prog (Instr.storeAt T.int a x) w k :=
  sp_s1 (off := 0) (by kernel_rfl) (by kernel_rfl) (by simp [act4C]) (by simp [act4C, List.set_append]) hv h hm hk
theorem act4.k1 {a0 a1 a2 a3 a4 a5 : Value} {L : List It} {g o : Nat} {k : Value → Prop} {S : World → Prop} (hS : ∀ w, S w → Mayr L w) (hr : Rng L g o (act4C a0 a1 a2 a3 a4 a5))  (hk : k a1) :
    tk Tryd.prog S (Instr.fieldAt T.isthmuslaw04_Act (.pointer (some ⟨g, o, none⟩)) 1) fun t => tk Tryd.prog S (Instr.loadAt T.int t) k :=
  tk_f1 (off := 1) (by kernel_rfl) (by kernel_rfl) (act4C_d1 ) hS hr hk
theorem act4.a1 {w : World} {g o : Nat} {k : Value → World → Prop} (hk : k (.pointer (some ⟨g, o + 1, none⟩)) w) : o1 Tryd.prog (Instr.fieldAt T.isthmuslaw04_Act (.pointer (some ⟨g, o, none⟩)) 1) w k := st_of (fieldAt_run (by kernel_rfl) g o w) hk
theorem act4.c1 {g o : Nat} {k : Value → Prop} {S : World → Prop} (hk : k (.pointer (some ⟨g, o + 1, none⟩))) : tk Tryd.prog S (Instr.fieldAt T.isthmuslaw04_Act (.pointer (some ⟨g, o, none⟩)) 1) k := tk_of _ (fun w _ => fieldAt_run (by kernel_rfl) g o w) hk
theorem act4.r1 {a0 a1 a2 a3 a4 a5 : Value} {b : Base} {w : World} {L : List It} {g o : Nat} {k : Value → World → Prop} (h : Sep b w L) (hr : Rng L g o (act4C a0 a1 a2 a3 a4 a5))  (hk : k a1 w) : o1 Tryd.prog (Instr.loadAt T.int (.pointer (some ⟨g, o + 1, none⟩))) w k := st_of (load_one (by kernel_rfl) (range_cell (h.rng hr) (get_of_drop (act4C_d1 )))) hk
theorem act4.e1 {a0 a1 a2 a3 a4 a5 : Value} {L : List It} {g o : Nat} {k : Value → Prop} {S : World → Prop} (hS : ∀ w, S w → Mayr L w) (hr : Rng L g o (act4C a0 a1 a2 a3 a4 a5))  (hk : k a1) : tk Tryd.prog S (Instr.loadAt T.int (.pointer (some ⟨g, o + 1, none⟩))) k := tk_of _ (fun w hw => load_one (by kernel_rfl) (range_cell ((hS w hw).rng hr) (get_of_drop (act4C_d1 )))) hk
theorem act4.s1 {a0 a1 a2 a3 a4 a5 : Value} {x : Value} {b : Base} {w : World} {L R : List It} {g : Nat} {k : Value → World → Prop} {tt : TypeId} (h : Sep b w L) (hm : Has L (blkI g tt (act4C a0 a1 a2 a3 a4 a5)) R)  (hv : x.cells = #[x] ∧ x.oneCell' = true) (hk : ∀ w', Sep b w' (blkI g tt (act4C a0 x a2 a3 a4 a5) :: R) → k undef w') :
    o1 Tryd.prog (Instr.fieldAt T.isthmuslaw04_Act (.pointer (some ⟨g, 0, none⟩)) 1) w fun a w => o0 Tryd.prog (Instr.storeAt T.int a x) w k :=
  sp_s1 (off := 1) (by kernel_rfl) (by kernel_rfl) (by simp [act4C]) (by simp [act4C, List.set_append]) hv h hm hk
theorem act4.l2 {a0 a1 a2 a3 a4 a5 : Value} {b : Base} {w : World} {L : List It} {g o : Nat} {k : Value → World → Prop} (h : Sep b w L) (hr : Rng L g o (act4C a0 a1 a2 a3 a4 a5))  (hk : k a2 w) :
    o1 Tryd.prog (Instr.fieldAt T.isthmuslaw04_Act (.pointer (some ⟨g, o, none⟩)) 2) w fun t w => o1 Tryd.prog (Instr.loadAt T.string t) w k :=
  sp_f1 (off := 2) (by kernel_rfl) (by kernel_rfl) (act4C_d2 ) h hr hk
theorem act4.k2 {a0 a1 a2 a3 a4 a5 : Value} {L : List It} {g o : Nat} {k : Value → Prop} {S : World → Prop} (hS : ∀ w, S w → Mayr L w) (hr : Rng L g o (act4C a0 a1 a2 a3 a4 a5))  (hk : k a2) :
    tk Tryd.prog S (Instr.fieldAt T.isthmuslaw04_Act (.pointer (some ⟨g, o, none⟩)) 2) fun t => tk Tryd.prog S (Instr.loadAt T.string t) k :=
  tk_f1 (off := 2) (by kernel_rfl) (by kernel_rfl) (act4C_d2 ) hS hr hk
theorem act4.a2 {w : World} {g o : Nat} {k : Value → World → Prop} (hk : k (.pointer (some ⟨g, o + 2, none⟩)) w) : o1 Tryd.prog (Instr.fieldAt T.isthmuslaw04_Act (.pointer (some ⟨g, o, none⟩)) 2) w k := st_of (fieldAt_run (by kernel_rfl) g o w) hk
theorem act4.c2 {g o : Nat} {k : Value → Prop} {S : World → Prop} (hk : k (.pointer (some ⟨g, o + 2, none⟩))) : tk Tryd.prog S (Instr.fieldAt T.isthmuslaw04_Act (.pointer (some ⟨g, o, none⟩)) 2) k := tk_of _ (fun w _ => fieldAt_run (by kernel_rfl) g o w) hk
theorem act4.r2 {a0 a1 a2 a3 a4 a5 : Value} {b : Base} {w : World} {L : List It} {g o : Nat} {k : Value → World → Prop} (h : Sep b w L) (hr : Rng L g o (act4C a0 a1 a2 a3 a4 a5))  (hk : k a2 w) : o1 Tryd.prog (Instr.loadAt T.string (.pointer (some ⟨g, o + 2, none⟩))) w k := st_of (load_one (by kernel_rfl) (range_cell (h.rng hr) (get_of_drop (act4C_d2 )))) hk
theorem act4.e2 {a0 a1 a2 a3 a4 a5 : Value} {L : List It} {g o : Nat} {k : Value → Prop} {S : World → Prop} (hS : ∀ w, S w → Mayr L w) (hr : Rng L g o (act4C a0 a1 a2 a3 a4 a5))  (hk : k a2) : tk Tryd.prog S (Instr.loadAt T.string (.pointer (some ⟨g, o + 2, none⟩))) k := tk_of _ (fun w hw => load_one (by kernel_rfl) (range_cell ((hS w hw).rng hr) (get_of_drop (act4C_d2 )))) hk
theorem act4.s2 {a0 a1 a2 a3 a4 a5 : Value} {x : Value} {b : Base} {w : World} {L R : List It} {g : Nat} {k : Value → World → Prop} {tt : TypeId} (h : Sep b w L) (hm : Has L (blkI g tt (act4C a0 a1 a2 a3 a4 a5)) R)  (hv : x.cells = #[x] ∧ x.oneCell' = true) (hk : ∀ w', Sep b w' (blkI g tt (act4C a0 a1 x a3 a4 a5) :: R) → k undef w') :
    o1 Tryd.prog (Instr.fieldAt T.isthmuslaw04_Act (.pointer (some ⟨g, 0, none⟩)) 2) w fun a w => o0 Tryd.prog (Instr.storeAt T.string a x) w k :=
  sp_s1 (off := 2) (by kernel_rfl) (by kernel_rfl) (by simp [act4C]) (by simp [act4C, List.set_append]) hv h hm hk
theorem act4.k3 {a0 a1 a2 a3 a4 a5 : Value} {L : List It} {g o : Nat} {k : Value → Prop} {S : World → Prop} (hS : ∀ w, S w → Mayr L w) (hr : Rng L g o (act4C a0 a1 a2 a3 a4 a5))  (hk : k a3) :
    tk Tryd.prog S (Instr.fieldAt T.isthmuslaw04_Act (.pointer (some ⟨g, o, none⟩)) 3) fun t => tk Tryd.prog S (Instr.loadAt T.string t) k :=
  tk_f1 (off := 3) (by kernel_rfl) (by kernel_rfl) (act4C_d3 ) hS hr hk
theorem act4.a3 {w : World} {g o : Nat} {k : Value → World → Prop} (hk : k (.pointer (some ⟨g, o + 3, none⟩)) w) : o1 Tryd.prog (Instr.fieldAt T.isthmuslaw04_Act (.pointer (some ⟨g, o, none⟩)) 3) w k := st_of (fieldAt_run (by kernel_rfl) g o w) hk
theorem act4.c3 {g o : Nat} {k : Value → Prop} {S : World → Prop} (hk : k (.pointer (some ⟨g, o + 3, none⟩))) : tk Tryd.prog S (Instr.fieldAt T.isthmuslaw04_Act (.pointer (some ⟨g, o, none⟩)) 3) k := tk_of _ (fun w _ => fieldAt_run (by kernel_rfl) g o w) hk
theorem act4.r3 {a0 a1 a2 a3 a4 a5 : Value} {b : Base} {w : World} {L : List It} {g o : Nat} {k : Value → World → Prop} (h : Sep b w L) (hr : Rng L g o (act4C a0 a1 a2 a3 a4 a5))  (hk : k a3 w) : o1 Tryd.prog (Instr.loadAt T.string (.pointer (some ⟨g, o + 3, none⟩))) w k := st_of (load_one (by kernel_rfl) (range_cell (h.rng hr) (get_of_drop (act4C_d3 )))) hk
theorem act4.e3 {a0 a1 a2 a3 a4 a5 : Value} {L : List It} {g o : Nat} {k : Value → Prop} {S : World → Prop} (hS : ∀ w, S w → Mayr L w) (hr : Rng L g o (act4C a0 a1 a2 a3 a4 a5))  (hk : k a3) : tk Tryd.prog S (Instr.loadAt T.string (.pointer (some ⟨g, o + 3, none⟩))) k := tk_of _ (fun w hw => load_one (by kernel_rfl) (range_cell ((hS w hw).rng hr) (get_of_drop (act4C_d3 )))) hk
theorem act4.s3 {a0 a1 a2 a3 a4 a5 : Value} {x : Value} {b : Base} {w : World} {L R : List It} {g : Nat} {k : Value → World → Prop} {tt : TypeId} (h : Sep b w L) (hm : Has L (blkI g tt (act4C a0 a1 a2 a3 a4 a5)) R)  (hv : x.cells = #[x] ∧ x.oneCell' = true) (hk : ∀ w', Sep b w' (blkI g tt (act4C a0 a1 a2 x a4 a5) :: R) → k undef w') :
    o1 Tryd.prog (Instr.fieldAt T.isthmuslaw04_Act (.pointer (some ⟨g, 0, none⟩)) 3) w fun a w => o0 Tryd.prog (Instr.storeAt T.string a x) w k :=
  sp_s1 (off := 3) (by kernel_rfl) (by kernel_rfl) (by simp [act4C]) (by simp [act4C, List.set_append]) hv h hm hk
theorem act4.k4 {a0 a1 a2 a3 a4 a5 : Value} {L : List It} {g o : Nat} {k : Value → Prop} {S : World → Prop} (hS : ∀ w, S w → Mayr L w) (hr : Rng L g o (act4C a0 a1 a2 a3 a4 a5))  (hk : k a4) :
    tk Tryd.prog S (Instr.fieldAt T.isthmuslaw04_Act (.pointer (some ⟨g, o, none⟩)) 4) fun t => tk Tryd.prog S (Instr.loadAt T.sl_uint8 t) k :=
  tk_f1 (off := 4) (by kernel_rfl) (by kernel_rfl) (act4C_d4 ) hS hr hk
theorem act4.a4 {w : World} {g o : Nat} {k : Value → World → Prop} (hk : k (.pointer (some ⟨g, o + 4, none⟩)) w) : o1 Tryd.prog (Instr.fieldAt T.isthmuslaw04_Act (.pointer (some ⟨g, o, none⟩)) 4) w k := st_of (fieldAt_run (by kernel_rfl) g o w) hk
theorem act4.c4 {g o : Nat} {k : Value → Prop} {S : World → Prop} (hk : k (.pointer (some ⟨g, o + 4, none⟩))) : tk Tryd.prog S (Instr.fieldAt T.isthmuslaw04_Act (.pointer (some ⟨g, o, none⟩)) 4) k := tk_of _ (fun w _ => fieldAt_run (by kernel_rfl) g o w) hk
theorem act4.r4 {a0 a1 a2 a3 a4 a5 : Value} {b : Base} {w : World} {L : List It} {g o : Nat} {k : Value → World → Prop} (h : Sep b w L) (hr : Rng L g o (act4C a0 a1 a2 a3 a4 a5))  (hk : k a4 w) : o1 Tryd.prog (Instr.loadAt T.sl_uint8 (.pointer (some ⟨g, o + 4, none⟩))) w k := st_of (load_one (by kernel_rfl) (range_cell (h.rng hr) (get_of_drop (act4C_d4 )))) hk
theorem act4.e4 {a0 a1 a2 a3 a4 a5 : Value} {L : List It} {g o : Nat} {k : Value → Prop} {S : World → Prop} (hS : ∀ w, S w → Mayr L w) (hr : Rng L g o (act4C a0 a1 a2 a3 a4 a5))  (hk : k a4) : tk Tryd.prog S (Instr.loadAt T.sl_uint8 (.pointer (some ⟨g, o + 4, none⟩))) k := tk_of _ (fun w hw => load_one (by kernel_rfl) (range_cell ((hS w hw).rng hr) (get_of_drop (act4C_d4 )))) hk
theorem act4.s4 {a0 a1 a2 a3 a4 a5 : Value} {x : Value} {b : Base} {w : World} {L R : List It} {g : Nat} {k : Value → World → Prop} {tt : TypeId} (h : Sep b w L) (hm : Has L (blkI g tt (act4C a0 a1 a2 a3 a4 a5)) R)  (hv : x.cells = #[x] ∧ x.oneCell' = true) (hk : ∀ w', Sep b w' (blkI g tt (act4C a0 a1 a2 a3 x a5) :: R) → k undef w') :
    o1 Tryd.prog (Instr.fieldAt T.isthmuslaw04_Act (.pointer (some ⟨g, 0, none⟩)) 4) w fun a w => o0 Tryd.prog (Instr.storeAt T.sl_uint8 a x) w k :=
  sp_s1 (off := 4) (by kernel_rfl) (by kernel_rfl) (by simp [act4C]) (by simp [act4C, List.set_append]) hv h hm hk
theorem act4.k5 {a0 a1 a2 a3 a4 a5 : Value} {L : List It} {g o : Nat} {k : Value → Prop} {S : World → Prop} (hS : ∀ w, S w → Mayr L w) (hr : Rng L g o (act4C a0 a1 a2 a3 a4 a5))  (hk : k a5) :
    tk Tryd.prog S (Instr.fieldAt T.isthmuslaw04_Act (.pointer (some ⟨g, o, none⟩)) 5) fun t => tk Tryd.prog S (Instr.loadAt T.sl_int t) k :=
  tk_f1 (off := 5) (by kernel_rfl) (by kernel_rfl) (act4C_d5 ) hS hr hk
theorem act4.a5 {w : World} {g o : Nat} {k : Value → World → Prop} (hk : k (.pointer (some ⟨g, o + 5, none⟩)) w) : o1 Tryd.prog (Instr.fieldAt T.isthmuslaw04_Act (.pointer (some ⟨g, o, none⟩)) 5) w k := st_of (fieldAt_run (by kernel_rfl) g o w) hk
theorem act4.c5 {g o : Nat} {k : Value → Prop} {S : World → Prop} (hk : k (.pointer (some ⟨g, o + 5, none⟩))) : tk Tryd.prog S (Instr.fieldAt T.isthmuslaw04_Act (.pointer (some ⟨g, o, none⟩)) 5) k := tk_of _ (fun w _ => fieldAt_run (by kernel_rfl) g o w) hk
theorem act4.r5 {a0 a1 a2 a3 a4 a5 : Value} {b : Base} {w : World} {L : List It} {g o : Nat} {k : Value → World → Prop} (h : Sep b w L) (hr : Rng L g o (act4C a0 a1 a2 a3 a4 a5))  (hk : k a5 w) : o1 Tryd.prog (Instr.loadAt T.sl_int (.pointer (some ⟨g, o + 5, none⟩))) w k := st_of (load_one (by kernel_rfl) (range_cell (h.rng hr) (get_of_drop (act4C_d5 )))) hk
theorem act4.e5 {a0 a1 a2 a3 a4 a5 : Value} {L : List It} {g o : Nat} {k : Value → Prop} {S : World → Prop} (hS : ∀ w, S w → Mayr L w) (hr : Rng L g o (act4C a0 a1 a2 a3 a4 a5))  (hk : k a5) : tk Tryd.prog S (Instr.loadAt T.sl_int (.pointer (some ⟨g, o + 5, none⟩))) k := tk_of _ (fun w hw => load_one (by kernel_rfl) (range_cell ((hS w hw).rng hr) (get_of_drop (act4C_d5 )))) hk
end Go.Proofs.YtiaiglgfangedaaDoor
