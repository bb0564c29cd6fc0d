/- Structs as cells, and their fields: printed by structs.py. -/
import Derived.Test.YtbbmgkbinnomgaaGreatDoorFT
import Derived.Test.YtbbmgkbinnomgaaGreatDoorN
set_option linter.unusedVariables false
set_option linter.unusedSimpArgs false
set_option linter.unusedSectionVars false
namespace Go.Proofs.YtbbmgkbinnomgaaGreatDoor
open Go Go.Isk Go.RowKit
/-- the cells of a T.api_Vote -/
def voteC (a0 : Value) (a1 : Value) (a2 : Value) (a3 : List Value) (a4 : Value) (a5 : Value) : List Value := a0 :: (a1 :: (a2 :: ((a3 ++ (a4 :: (a5 :: ([])))))))
theorem voteC_len {a0 a1 a2 a4 a5 : Value} {a3 : List Value} (h3 : a3.length = 32) : (voteC a0 a1 a2 a3 a4 a5).length = 37 := by simp [voteC, h3]
theorem voteC_d0 {a0 a1 a2 a4 a5 : Value} {a3 : List Value}  : (voteC a0 a1 a2 a3 a4 a5).drop 0 = a0 :: (a1 :: (a2 :: ((a3 ++ (a4 :: (a5 :: ([]))))))) := rfl
theorem voteC_d1 {a0 a1 a2 a4 a5 : Value} {a3 : List Value}  : (voteC a0 a1 a2 a3 a4 a5).drop 1 = a1 :: (a2 :: ((a3 ++ (a4 :: (a5 :: ([])))))) := rfl
theorem voteC_d2 {a0 a1 a2 a4 a5 : Value} {a3 : List Value}  : (voteC a0 a1 a2 a3 a4 a5).drop 2 = a2 :: ((a3 ++ (a4 :: (a5 :: ([]))))) := rfl
theorem voteC_d3 {a0 a1 a2 a4 a5 : Value} {a3 : List Value}  : (voteC a0 a1 a2 a3 a4 a5).drop 3 = a3 ++ (a4 :: (a5 :: ([]))) := rfl
theorem voteC_d4 {a0 a1 a2 a4 a5 : Value} {a3 : List Value} (h3 : a3.length = 32) : (voteC a0 a1 a2 a3 a4 a5).drop 35 = a4 :: (a5 :: ([])) := by
  unfold voteC
  simp [List.drop_append, List.drop_of_length_le, h3]
theorem voteC_d5 {a0 a1 a2 a4 a5 : Value} {a3 : List Value} (h3 : a3.length = 32) : (voteC a0 a1 a2 a3 a4 a5).drop 36 = a5 :: ([]) := by
  unfold voteC
  simp [List.drop_append, List.drop_of_length_le, h3]
/-- the cells of a T.api_Commit -/
def commC (a0 : Value) (a1 : Value) (a2 : List Value) (a3 : Value) : List Value := a0 :: (a1 :: ((a2 ++ (a3 :: ([])))))
theorem commC_len {a0 a1 a3 : Value} {a2 : List Value} (h2 : a2.length = 32) : (commC a0 a1 a2 a3).length = 35 := by simp [commC, h2]
theorem commC_d0 {a0 a1 a3 : Value} {a2 : List Value}  : (commC a0 a1 a2 a3).drop 0 = a0 :: (a1 :: ((a2 ++ (a3 :: ([]))))) := rfl
theorem commC_d1 {a0 a1 a3 : Value} {a2 : List Value}  : (commC a0 a1 a2 a3).drop 1 = a1 :: ((a2 ++ (a3 :: ([])))) := rfl
theorem commC_d2 {a0 a1 a3 : Value} {a2 : List Value}  : (commC a0 a1 a2 a3).drop 2 = a2 ++ (a3 :: ([])) := rfl
/-- the cells of a T.api_Header -/
def headC (a0 : Value) (a1 : Value) (a2 : Value) (a3 : List Value) (a4 : List Value) (a5 : List Value) (a6 : List Value) (a7 : List Value) (a8 : Value) : List Value := a0 :: (a1 :: (a2 :: ((a3 ++ ((a4 ++ ((a5 ++ ((a6 ++ ((a7 ++ (a8 :: ([]))))))))))))))
theorem headC_len {a0 a1 a2 a8 : Value} {a3 a4 a5 a6 a7 : List Value} (h3 : a3.length = 32) (h4 : a4.length = 32) (h5 : a5.length = 32) (h6 : a6.length = 32) (h7 : a7.length = 32) : (headC a0 a1 a2 a3 a4 a5 a6 a7 a8).length = 164 := by simp [headC, h3, h4, h5, h6, h7]
theorem headC_d0 {a0 a1 a2 a8 : Value} {a3 a4 a5 a6 a7 : List Value}  : (headC a0 a1 a2 a3 a4 a5 a6 a7 a8).drop 0 = a0 :: (a1 :: (a2 :: ((a3 ++ ((a4 ++ ((a5 ++ ((a6 ++ ((a7 ++ (a8 :: ([])))))))))))))) := rfl
theorem headC_d1 {a0 a1 a2 a8 : Value} {a3 a4 a5 a6 a7 : List Value}  : (headC a0 a1 a2 a3 a4 a5 a6 a7 a8).drop 1 = a1 :: (a2 :: ((a3 ++ ((a4 ++ ((a5 ++ ((a6 ++ ((a7 ++ (a8 :: ([]))))))))))))) := rfl
theorem headC_d2 {a0 a1 a2 a8 : Value} {a3 a4 a5 a6 a7 : List Value}  : (headC a0 a1 a2 a3 a4 a5 a6 a7 a8).drop 2 = a2 :: ((a3 ++ ((a4 ++ ((a5 ++ ((a6 ++ ((a7 ++ (a8 :: ([])))))))))))) := rfl
theorem headC_d3 {a0 a1 a2 a8 : Value} {a3 a4 a5 a6 a7 : List Value}  : (headC a0 a1 a2 a3 a4 a5 a6 a7 a8).drop 3 = a3 ++ ((a4 ++ ((a5 ++ ((a6 ++ ((a7 ++ (a8 :: ([])))))))))) := rfl
theorem headC_d4 {a0 a1 a2 a8 : Value} {a3 a4 a5 a6 a7 : List Value} (h3 : a3.length = 32) : (headC a0 a1 a2 a3 a4 a5 a6 a7 a8).drop 35 = a4 ++ ((a5 ++ ((a6 ++ ((a7 ++ (a8 :: ([])))))))) := by
  unfold headC
  simp [List.drop_append, List.drop_of_length_le, h3]
theorem headC_d5 {a0 a1 a2 a8 : Value} {a3 a4 a5 a6 a7 : List Value} (h3 : a3.length = 32) (h4 : a4.length = 32) : (headC a0 a1 a2 a3 a4 a5 a6 a7 a8).drop 67 = a5 ++ ((a6 ++ ((a7 ++ (a8 :: ([])))))) := by
  unfold headC
  simp [List.drop_append, List.drop_of_length_le, h3, h4]
theorem headC_d6 {a0 a1 a2 a8 : Value} {a3 a4 a5 a6 a7 : List Value} (h3 : a3.length = 32) (h4 : a4.length = 32) (h5 : a5.length = 32) : (headC a0 a1 a2 a3 a4 a5 a6 a7 a8).drop 99 = a6 ++ ((a7 ++ (a8 :: ([])))) := by
  unfold headC
  simp [List.drop_append, List.drop_of_length_le, h3, h4, h5]
theorem headC_d8 {a0 a1 a2 a8 : Value} {a3 a4 a5 a6 a7 : List Value} (h3 : a3.length = 32) (h4 : a4.length = 32) (h5 : a5.length = 32) (h6 : a6.length = 32) (h7 : a7.length = 32) : (headC a0 a1 a2 a3 a4 a5 a6 a7 a8).drop 163 = a8 :: ([]) := by
  unfold headC
  simp [List.drop_append, List.drop_of_length_le, h3, h4, h5, h6, h7]
/-- the cells of a T.api_Block -/
def blokC (a0 : List Value) (a1 : Value) (a2 : List Value) : List Value := (a0 ++ (a1 :: ((a2 ++ ([])))))
theorem blokC_len {a1 : Value} {a0 a2 : List Value} (h0 : a0.length = 164) (h2 : a2.length = 35) : (blokC a0 a1 a2).length = 200 := by simp [blokC, h0, h2]
theorem blokC_d1 {a1 : Value} {a0 a2 : List Value} (h0 : a0.length = 164) : (blokC a0 a1 a2).drop 164 = a1 :: ((a2 ++ ([]))) := by
  unfold blokC
  simp [List.drop_append, List.drop_of_length_le, h0]
/-- the cells of a T.api_Validator -/
def valiC (a0 : Value) (a1 : List Value) (a2 : Value) : List Value := a0 :: ((a1 ++ (a2 :: ([]))))
theorem valiC_len {a0 a2 : Value} {a1 : List Value} (h1 : a1.length = 32) : (valiC a0 a1 a2).length = 34 := by simp [valiC, h1]
theorem valiC_d0 {a0 a2 : Value} {a1 : List Value}  : (valiC a0 a1 a2).drop 0 = a0 :: ((a1 ++ (a2 :: ([])))) := rfl
theorem valiC_d1 {a0 a2 : Value} {a1 : List Value}  : (valiC a0 a1 a2).drop 1 = a1 ++ (a2 :: ([])) := rfl
theorem valiC_d2 {a0 a2 : Value} {a1 : List Value} (h1 : a1.length = 32) : (valiC a0 a1 a2).drop 33 = a2 :: ([]) := by
  unfold valiC
  simp [List.drop_append, List.drop_of_length_le, h1]
/-- the cells of a T.api_Params -/
def paraC (a0 : Value) (a1 : Value) : List Value := a0 :: (a1 :: ([]))
theorem paraC_d0 {a0 a1 : Value}   : (paraC a0 a1).drop 0 = a0 :: (a1 :: ([])) := rfl
theorem para.t0 {a0 a1 : Value}   {g : Nat} {S : World → Prop} {k : Value → Prop} (hS : ∀ w, S w → Blk w g T.api_Params (paraC a0 a1)) (hk : k a0) :
    tk Tryz.prog S (Instr.fieldAt T.api_Params (.pointer (some ⟨g, 0, none⟩)) 0) fun t => tk Tryz.prog S (Instr.loadAt T.int t) k :=
  tk_get1 (off := 0) (by kernel_rfl) (by kernel_rfl) (paraC_d0 ) hS hk
theorem para.g0 {a0 a1 : Value}   {g : Nat} {w : World} {k : Value → World → Prop} (hS : Blk w g T.api_Params (paraC a0 a1)) (hk : k a0 w) :
    o1 Tryz.prog (Instr.fieldAt T.api_Params (.pointer (some ⟨g, 0, none⟩)) 0) w fun t w => o1 Tryz.prog (Instr.loadAt T.int t) w k :=
  o1_get1 (off := 0) (by kernel_rfl) (by kernel_rfl) (paraC_d0 ) hS hk
theorem paraC_d1 {a0 a1 : Value}   : (paraC a0 a1).drop 1 = a1 :: ([]) := rfl
theorem para.t1 {a0 a1 : Value}   {g : Nat} {S : World → Prop} {k : Value → Prop} (hS : ∀ w, S w → Blk w g T.api_Params (paraC a0 a1)) (hk : k a1) :
    tk Tryz.prog S (Instr.fieldAt T.api_Params (.pointer (some ⟨g, 0, none⟩)) 1) fun t => tk Tryz.prog S (Instr.loadAt T.int t) k :=
  tk_get1 (off := 1) (by kernel_rfl) (by kernel_rfl) (paraC_d1 ) hS hk
theorem para.g1 {a0 a1 : Value}   {g : Nat} {w : World} {k : Value → World → Prop} (hS : Blk w g T.api_Params (paraC a0 a1)) (hk : k a1 w) :
    o1 Tryz.prog (Instr.fieldAt T.api_Params (.pointer (some ⟨g, 0, none⟩)) 1) w fun t w => o1 Tryz.prog (Instr.loadAt T.int t) w k :=
  o1_get1 (off := 1) (by kernel_rfl) (by kernel_rfl) (paraC_d1 ) hS hk
/-- the cells of a T.isthmusref02_Reader -/
def rrdC (a0 : Value) (a1 : Value) : List Value := a0 :: (a1 :: ([]))
theorem rrdC_d0 {a0 a1 : Value}   : (rrdC a0 a1).drop 0 = a0 :: (a1 :: ([])) := rfl
theorem rrd.t0 {a0 a1 : Value}   {g : Nat} {S : World → Prop} {k : Value → Prop} (hS : ∀ w, S w → Blk w g T.isthmusref02_Reader (rrdC a0 a1)) (hk : k a0) :
    tk Tryz.prog S (Instr.fieldAt T.isthmusref02_Reader (.pointer (some ⟨g, 0, none⟩)) 0) fun t => tk Tryz.prog S (Instr.loadAt T.sl_uint8 t) k :=
  tk_get1 (off := 0) (by kernel_rfl) (by kernel_rfl) (rrdC_d0 ) hS hk
theorem rrd.g0 {a0 a1 : Value}   {g : Nat} {w : World} {k : Value → World → Prop} (hS : Blk w g T.isthmusref02_Reader (rrdC a0 a1)) (hk : k a0 w) :
    o1 Tryz.prog (Instr.fieldAt T.isthmusref02_Reader (.pointer (some ⟨g, 0, none⟩)) 0) w fun t w => o1 Tryz.prog (Instr.loadAt T.sl_uint8 t) w k :=
  o1_get1 (off := 0) (by kernel_rfl) (by kernel_rfl) (rrdC_d0 ) hS hk
theorem rrdC_d1 {a0 a1 : Value}   : (rrdC a0 a1).drop 1 = a1 :: ([]) := rfl
theorem rrd.t1 {a0 a1 : Value}   {g : Nat} {S : World → Prop} {k : Value → Prop} (hS : ∀ w, S w → Blk w g T.isthmusref02_Reader (rrdC a0 a1)) (hk : k a1) :
    tk Tryz.prog S (Instr.fieldAt T.isthmusref02_Reader (.pointer (some ⟨g, 0, none⟩)) 1) fun t => tk Tryz.prog S (Instr.loadAt T.int t) k :=
  tk_get1 (off := 1) (by kernel_rfl) (by kernel_rfl) (rrdC_d1 ) hS hk
theorem rrd.g1 {a0 a1 : Value}   {g : Nat} {w : World} {k : Value → World → Prop} (hS : Blk w g T.isthmusref02_Reader (rrdC a0 a1)) (hk : k a1 w) :
    o1 Tryz.prog (Instr.fieldAt T.isthmusref02_Reader (.pointer (some ⟨g, 0, none⟩)) 1) w fun t w => o1 Tryz.prog (Instr.loadAt T.int t) w k :=
  o1_get1 (off := 1) (by kernel_rfl) (by kernel_rfl) (rrdC_d1 ) hS hk
/-- the cells of a T.pack_Reader -/
def prdC (a0 : Value) (a1 : Value) : List Value := a0 :: (a1 :: ([]))
theorem prdC_d0 {a0 a1 : Value}   : (prdC a0 a1).drop 0 = a0 :: (a1 :: ([])) := rfl
theorem prd.t0 {a0 a1 : Value}   {g : Nat} {S : World → Prop} {k : Value → Prop} (hS : ∀ w, S w → Blk w g T.pack_Reader (prdC a0 a1)) (hk : k a0) :
    tk Tryz.prog S (Instr.fieldAt T.pack_Reader (.pointer (some ⟨g, 0, none⟩)) 0) fun t => tk Tryz.prog S (Instr.loadAt T.sl_uint8 t) k :=
  tk_get1 (off := 0) (by kernel_rfl) (by kernel_rfl) (prdC_d0 ) hS hk
theorem prd.g0 {a0 a1 : Value}   {g : Nat} {w : World} {k : Value → World → Prop} (hS : Blk w g T.pack_Reader (prdC a0 a1)) (hk : k a0 w) :
    o1 Tryz.prog (Instr.fieldAt T.pack_Reader (.pointer (some ⟨g, 0, none⟩)) 0) w fun t w => o1 Tryz.prog (Instr.loadAt T.sl_uint8 t) w k :=
  o1_get1 (off := 0) (by kernel_rfl) (by kernel_rfl) (prdC_d0 ) hS hk
theorem prdC_d1 {a0 a1 : Value}   : (prdC a0 a1).drop 1 = a1 :: ([]) := rfl
theorem prd.t1 {a0 a1 : Value}   {g : Nat} {S : World → Prop} {k : Value → Prop} (hS : ∀ w, S w → Blk w g T.pack_Reader (prdC a0 a1)) (hk : k a1) :
    tk Tryz.prog S (Instr.fieldAt T.pack_Reader (.pointer (some ⟨g, 0, none⟩)) 1) fun t => tk Tryz.prog S (Instr.loadAt T.error t) k :=
  tk_get1 (off := 1) (by kernel_rfl) (by kernel_rfl) (prdC_d1 ) hS hk
theorem prd.g1 {a0 a1 : Value}   {g : Nat} {w : World} {k : Value → World → Prop} (hS : Blk w g T.pack_Reader (prdC a0 a1)) (hk : k a1 w) :
    o1 Tryz.prog (Instr.fieldAt T.pack_Reader (.pointer (some ⟨g, 0, none⟩)) 1) w fun t w => o1 Tryz.prog (Instr.loadAt T.error t) w k :=
  o1_get1 (off := 1) (by kernel_rfl) (by kernel_rfl) (prdC_d1 ) hS hk
/-- the cells of a T.api_Fault -/
def faultC (a0 : Value) (a1 : Value) : List Value := a0 :: (a1 :: ([]))
theorem faultC_d0 {a0 a1 : Value}   : (faultC a0 a1).drop 0 = a0 :: (a1 :: ([])) := rfl
theorem fault.t0 {a0 a1 : Value}   {g : Nat} {S : World → Prop} {k : Value → Prop} (hS : ∀ w, S w → Blk w g T.api_Fault (faultC a0 a1)) (hk : k a0) :
    tk Tryz.prog S (Instr.fieldAt T.api_Fault (.pointer (some ⟨g, 0, none⟩)) 0) fun t => tk Tryz.prog S (Instr.loadAt T.string t) k :=
  tk_get1 (off := 0) (by kernel_rfl) (by kernel_rfl) (faultC_d0 ) hS hk
theorem fault.g0 {a0 a1 : Value}   {g : Nat} {w : World} {k : Value → World → Prop} (hS : Blk w g T.api_Fault (faultC a0 a1)) (hk : k a0 w) :
    o1 Tryz.prog (Instr.fieldAt T.api_Fault (.pointer (some ⟨g, 0, none⟩)) 0) w fun t w => o1 Tryz.prog (Instr.loadAt T.string t) w k :=
  o1_get1 (off := 0) (by kernel_rfl) (by kernel_rfl) (faultC_d0 ) hS hk
theorem faultC_d1 {a0 a1 : Value}   : (faultC a0 a1).drop 1 = a1 :: ([]) := rfl
theorem fault.t1 {a0 a1 : Value}   {g : Nat} {S : World → Prop} {k : Value → Prop} (hS : ∀ w, S w → Blk w g T.api_Fault (faultC a0 a1)) (hk : k a1) :
    tk Tryz.prog S (Instr.fieldAt T.api_Fault (.pointer (some ⟨g, 0, none⟩)) 1) fun t => tk Tryz.prog S (Instr.loadAt T.error t) k :=
  tk_get1 (off := 1) (by kernel_rfl) (by kernel_rfl) (faultC_d1 ) hS hk
theorem fault.g1 {a0 a1 : Value}   {g : Nat} {w : World} {k : Value → World → Prop} (hS : Blk w g T.api_Fault (faultC a0 a1)) (hk : k a1 w) :
    o1 Tryz.prog (Instr.fieldAt T.api_Fault (.pointer (some ⟨g, 0, none⟩)) 1) w fun t w => o1 Tryz.prog (Instr.loadAt T.error t) w k :=
  o1_get1 (off := 1) (by kernel_rfl) (by kernel_rfl) (faultC_d1 ) hS hk
/-- the cells of a T.keys_signature -/
def ksigC (a0 : Value) (a1 : Value) (a2 : Value) : List Value := a0 :: (a1 :: (a2 :: ([])))
theorem ksigC_d0 {a0 a1 a2 : Value}   : (ksigC a0 a1 a2).drop 0 = a0 :: (a1 :: (a2 :: ([]))) := rfl
theorem ksig.t0 {a0 a1 a2 : Value}   {g : Nat} {S : World → Prop} {k : Value → Prop} (hS : ∀ w, S w → Blk w g T.keys_signature (ksigC a0 a1 a2)) (hk : k a0) :
    tk Tryz.prog S (Instr.fieldAt T.keys_signature (.pointer (some ⟨g, 0, none⟩)) 0) fun t => tk Tryz.prog S (Instr.loadAt T.int t) k :=
  tk_get1 (off := 0) (by kernel_rfl) (by kernel_rfl) (ksigC_d0 ) hS hk
theorem ksig.g0 {a0 a1 a2 : Value}   {g : Nat} {w : World} {k : Value → World → Prop} (hS : Blk w g T.keys_signature (ksigC a0 a1 a2)) (hk : k a0 w) :
    o1 Tryz.prog (Instr.fieldAt T.keys_signature (.pointer (some ⟨g, 0, none⟩)) 0) w fun t w => o1 Tryz.prog (Instr.loadAt T.int t) w k :=
  o1_get1 (off := 0) (by kernel_rfl) (by kernel_rfl) (ksigC_d0 ) hS hk
theorem ksigC_d1 {a0 a1 a2 : Value}   : (ksigC a0 a1 a2).drop 1 = a1 :: (a2 :: ([])) := rfl
theorem ksig.t1 {a0 a1 a2 : Value}   {g : Nat} {S : World → Prop} {k : Value → Prop} (hS : ∀ w, S w → Blk w g T.keys_signature (ksigC a0 a1 a2)) (hk : k a1) :
    tk Tryz.prog S (Instr.fieldAt T.keys_signature (.pointer (some ⟨g, 0, none⟩)) 1) fun t => tk Tryz.prog S (Instr.loadAt T.sl_uint8 t) k :=
  tk_get1 (off := 1) (by kernel_rfl) (by kernel_rfl) (ksigC_d1 ) hS hk
theorem ksig.g1 {a0 a1 a2 : Value}   {g : Nat} {w : World} {k : Value → World → Prop} (hS : Blk w g T.keys_signature (ksigC a0 a1 a2)) (hk : k a1 w) :
    o1 Tryz.prog (Instr.fieldAt T.keys_signature (.pointer (some ⟨g, 0, none⟩)) 1) w fun t w => o1 Tryz.prog (Instr.loadAt T.sl_uint8 t) w k :=
  o1_get1 (off := 1) (by kernel_rfl) (by kernel_rfl) (ksigC_d1 ) hS hk
theorem ksigC_d2 {a0 a1 a2 : Value}   : (ksigC a0 a1 a2).drop 2 = a2 :: ([]) := rfl
theorem ksig.t2 {a0 a1 a2 : Value}   {g : Nat} {S : World → Prop} {k : Value → Prop} (hS : ∀ w, S w → Blk w g T.keys_signature (ksigC a0 a1 a2)) (hk : k a2) :
    tk Tryz.prog S (Instr.fieldAt T.keys_signature (.pointer (some ⟨g, 0, none⟩)) 2) fun t => tk Tryz.prog S (Instr.loadAt T.sl_api_Hash t) k :=
  tk_get1 (off := 2) (by kernel_rfl) (by kernel_rfl) (ksigC_d2 ) hS hk
theorem ksig.g2 {a0 a1 a2 : Value}   {g : Nat} {w : World} {k : Value → World → Prop} (hS : Blk w g T.keys_signature (ksigC a0 a1 a2)) (hk : k a2 w) :
    o1 Tryz.prog (Instr.fieldAt T.keys_signature (.pointer (some ⟨g, 0, none⟩)) 2) w fun t w => o1 Tryz.prog (Instr.loadAt T.sl_api_Hash t) w k :=
  o1_get1 (off := 2) (by kernel_rfl) (by kernel_rfl) (ksigC_d2 ) hS hk
/-- the cells of a T.isthmusref06_Signature -/
def rsigC (a0 : Value) (a1 : Value) (a2 : Value) : List Value := a0 :: (a1 :: (a2 :: ([])))
theorem rsigC_d0 {a0 a1 a2 : Value}   : (rsigC a0 a1 a2).drop 0 = a0 :: (a1 :: (a2 :: ([]))) := rfl
theorem rsig.t0 {a0 a1 a2 : Value}   {g : Nat} {S : World → Prop} {k : Value → Prop} (hS : ∀ w, S w → Blk w g T.isthmusref06_Signature (rsigC a0 a1 a2)) (hk : k a0) :
    tk Tryz.prog S (Instr.fieldAt T.isthmusref06_Signature (.pointer (some ⟨g, 0, none⟩)) 0) fun t => tk Tryz.prog S (Instr.loadAt T.int t) k :=
  tk_get1 (off := 0) (by kernel_rfl) (by kernel_rfl) (rsigC_d0 ) hS hk
theorem rsig.g0 {a0 a1 a2 : Value}   {g : Nat} {w : World} {k : Value → World → Prop} (hS : Blk w g T.isthmusref06_Signature (rsigC a0 a1 a2)) (hk : k a0 w) :
    o1 Tryz.prog (Instr.fieldAt T.isthmusref06_Signature (.pointer (some ⟨g, 0, none⟩)) 0) w fun t w => o1 Tryz.prog (Instr.loadAt T.int t) w k :=
  o1_get1 (off := 0) (by kernel_rfl) (by kernel_rfl) (rsigC_d0 ) hS hk
theorem rsigC_d1 {a0 a1 a2 : Value}   : (rsigC a0 a1 a2).drop 1 = a1 :: (a2 :: ([])) := rfl
theorem rsig.t1 {a0 a1 a2 : Value}   {g : Nat} {S : World → Prop} {k : Value → Prop} (hS : ∀ w, S w → Blk w g T.isthmusref06_Signature (rsigC a0 a1 a2)) (hk : k a1) :
    tk Tryz.prog S (Instr.fieldAt T.isthmusref06_Signature (.pointer (some ⟨g, 0, none⟩)) 1) fun t => tk Tryz.prog S (Instr.loadAt T.sl_uint8 t) k :=
  tk_get1 (off := 1) (by kernel_rfl) (by kernel_rfl) (rsigC_d1 ) hS hk
theorem rsig.g1 {a0 a1 a2 : Value}   {g : Nat} {w : World} {k : Value → World → Prop} (hS : Blk w g T.isthmusref06_Signature (rsigC a0 a1 a2)) (hk : k a1 w) :
    o1 Tryz.prog (Instr.fieldAt T.isthmusref06_Signature (.pointer (some ⟨g, 0, none⟩)) 1) w fun t w => o1 Tryz.prog (Instr.loadAt T.sl_uint8 t) w k :=
  o1_get1 (off := 1) (by kernel_rfl) (by kernel_rfl) (rsigC_d1 ) hS hk
theorem rsigC_d2 {a0 a1 a2 : Value}   : (rsigC a0 a1 a2).drop 2 = a2 :: ([]) := rfl
theorem rsig.t2 {a0 a1 a2 : Value}   {g : Nat} {S : World → Prop} {k : Value → Prop} (hS : ∀ w, S w → Blk w g T.isthmusref06_Signature (rsigC a0 a1 a2)) (hk : k a2) :
    tk Tryz.prog S (Instr.fieldAt T.isthmusref06_Signature (.pointer (some ⟨g, 0, none⟩)) 2) fun t => tk Tryz.prog S (Instr.loadAt T.sl_api_Hash t) k :=
  tk_get1 (off := 2) (by kernel_rfl) (by kernel_rfl) (rsigC_d2 ) hS hk
theorem rsig.g2 {a0 a1 a2 : Value}   {g : Nat} {w : World} {k : Value → World → Prop} (hS : Blk w g T.isthmusref06_Signature (rsigC a0 a1 a2)) (hk : k a2 w) :
    o1 Tryz.prog (Instr.fieldAt T.isthmusref06_Signature (.pointer (some ⟨g, 0, none⟩)) 2) w fun t w => o1 Tryz.prog (Instr.loadAt T.sl_api_Hash t) w k :=
  o1_get1 (off := 2) (by kernel_rfl) (by kernel_rfl) (rsigC_d2 ) hS hk
/-- the cells of a T.isthmuslaw11_Case -/
def caseC (a0 : Value) (a1 : Value) (a2 : List Value) : List Value := a0 :: (a1 :: ((a2 ++ ([]))))
theorem caseC_d0 {a0 a1 : Value} {a2 : List Value}  : (caseC a0 a1 a2).drop 0 = a0 :: (a1 :: ((a2 ++ ([])))) := rfl
theorem caseC_d2 {a0 a1 : Value} {a2 : List Value}  : (caseC a0 a1 a2).drop 2 = a2 ++ ([]) := rfl
end Go.Proofs.YtbbmgkbinnomgaaGreatDoor
