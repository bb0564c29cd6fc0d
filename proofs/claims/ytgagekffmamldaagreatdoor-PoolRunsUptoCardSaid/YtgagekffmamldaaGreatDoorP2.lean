/- Structs as cells, and their fields: printed by structs.py. -/
import Derived.Test.YtgagekffmamldaaGreatDoorK6
import Derived.Test.YtgagekffmamldaaGreatDoorN
import Derived.Test.YtgagekffmamldaaGreatDoorKT
set_option linter.unusedVariables false
set_option linter.unusedSimpArgs false
set_option linter.unusedSectionVars false
namespace Go.Proofs.YtgagekffmamldaaGreatDoor
open Go Go.Isk Go.RowKit
/-- the cells of a T.pool_item -/
def pitemC (a0 : Value) (a1 : List Value) (a2 : Value) (a3 : Value) : List Value := a0 :: ((a1 ++ (a2 :: (a3 :: ([])))))
theorem pitemC_d0 {a0 a2 a3 : Value} {a1 : List Value}  : (pitemC a0 a1 a2 a3).drop 0 = a0 :: ((a1 ++ (a2 :: (a3 :: ([]))))) := rfl
theorem pitem.t0 {a0 a2 a3 : Value} {a1 : List Value}  {g : Nat} {S : World → Prop} {k : Value → Prop} (hS : ∀ w, S w → Blk w g T.pool_item (pitemC a0 a1 a2 a3)) (hk : k a0) :
    tk Tryz.prog S (Instr.fieldAt T.pool_item (.pointer (some ⟨g, 0, none⟩)) 0) fun t => tk Tryz.prog S (Instr.loadAt T.sl_uint8 t) k :=
  tk_get1 (off := 0) (by kernel_rfl) (by kernel_rfl) (pitemC_d0 ) hS hk
theorem pitemC_d1 {a0 a2 a3 : Value} {a1 : List Value}  : (pitemC a0 a1 a2 a3).drop 1 = a1 ++ (a2 :: (a3 :: ([]))) := rfl
theorem pitem.t1 {a0 a2 a3 : Value} {a1 : List Value}  (h1 : a1.length = 32) {g : Nat} {S : World → Prop} {k : Value → Prop} (hS : ∀ w, S w → Blk w g T.pool_item (pitemC a0 a1 a2 a3)) (hk : k (.agg a1.toArray)) :
    tk Tryz.prog S (Instr.fieldAt T.pool_item (.pointer (some ⟨g, 0, none⟩)) 1) fun t => tk Tryz.prog S (Instr.loadAt T.api_Hash t) k :=
  tk_getn (off := 1) (by kernel_rfl) (by kernel_rfl) h1 (pitemC_d1 ) hS hk
theorem pitem.g1 {a0 a2 a3 : Value} {a1 : List Value}  (h1 : a1.length = 32) {g : Nat} {w : World} {k : Value → World → Prop} (hS : Blk w g T.pool_item (pitemC a0 a1 a2 a3)) (hk : k (.agg a1.toArray) w) :
    o1 Tryz.prog (Instr.fieldAt T.pool_item (.pointer (some ⟨g, 0, none⟩)) 1) w fun t w => o1 Tryz.prog (Instr.loadAt T.api_Hash t) w k :=
  o1_getn (off := 1) (by kernel_rfl) (by kernel_rfl) h1 (pitemC_d1 ) hS hk
theorem pitemC_d2 {a0 a2 a3 : Value} {a1 : List Value} (h1 : a1.length = 32) : (pitemC a0 a1 a2 a3).drop 33 = a2 :: (a3 :: ([])) := by
  unfold pitemC
  simp [List.drop_append, List.drop_of_length_le, h1]
theorem pitem.t2 {a0 a2 a3 : Value} {a1 : List Value} (h1 : a1.length = 32) {g : Nat} {S : World → Prop} {k : Value → Prop} (hS : ∀ w, S w → Blk w g T.pool_item (pitemC a0 a1 a2 a3)) (hk : k a2) :
    tk Tryz.prog S (Instr.fieldAt T.pool_item (.pointer (some ⟨g, 0, none⟩)) 2) fun t => tk Tryz.prog S (Instr.loadAt T.int t) k :=
  tk_get1 (off := 33) (by kernel_rfl) (by kernel_rfl) (pitemC_d2 h1) hS hk
theorem pitem.g2 {a0 a2 a3 : Value} {a1 : List Value} (h1 : a1.length = 32) {g : Nat} {w : World} {k : Value → World → Prop} (hS : Blk w g T.pool_item (pitemC a0 a1 a2 a3)) (hk : k a2 w) :
    o1 Tryz.prog (Instr.fieldAt T.pool_item (.pointer (some ⟨g, 0, none⟩)) 2) w fun t w => o1 Tryz.prog (Instr.loadAt T.int t) w k :=
  o1_get1 (off := 33) (by kernel_rfl) (by kernel_rfl) (pitemC_d2 h1) hS hk
theorem pitemC_d3 {a0 a2 a3 : Value} {a1 : List Value} (h1 : a1.length = 32) : (pitemC a0 a1 a2 a3).drop 34 = a3 :: ([]) := by
  unfold pitemC
  simp [List.drop_append, List.drop_of_length_le, h1]
theorem pitem.t3 {a0 a2 a3 : Value} {a1 : List Value} (h1 : a1.length = 32) {g : Nat} {S : World → Prop} {k : Value → Prop} (hS : ∀ w, S w → Blk w g T.pool_item (pitemC a0 a1 a2 a3)) (hk : k a3) :
    tk Tryz.prog S (Instr.fieldAt T.pool_item (.pointer (some ⟨g, 0, none⟩)) 3) fun t => tk Tryz.prog S (Instr.loadAt T.int t) k :=
  tk_get1 (off := 34) (by kernel_rfl) (by kernel_rfl) (pitemC_d3 h1) hS hk
theorem pitem.g3 {a0 a2 a3 : Value} {a1 : List Value} (h1 : a1.length = 32) {g : Nat} {w : World} {k : Value → World → Prop} (hS : Blk w g T.pool_item (pitemC a0 a1 a2 a3)) (hk : k a3 w) :
    o1 Tryz.prog (Instr.fieldAt T.pool_item (.pointer (some ⟨g, 0, none⟩)) 3) w fun t w => o1 Tryz.prog (Instr.loadAt T.int t) w k :=
  o1_get1 (off := 34) (by kernel_rfl) (by kernel_rfl) (pitemC_d3 h1) hS hk
/-- the cells of a T.pool_Pool -/
def poolC (a0 : Value) (a1 : Value) (a2 : Value) (a3 : Value) (a4 : Value) (a5 : Value) : List Value := a0 :: (a1 :: (a2 :: (a3 :: (a4 :: (a5 :: ([]))))))
theorem poolC_d0 {a0 a1 a2 a3 a4 a5 : Value}   : (poolC a0 a1 a2 a3 a4 a5).drop 0 = a0 :: (a1 :: (a2 :: (a3 :: (a4 :: (a5 :: ([])))))) := rfl
theorem pool.t0 {a0 a1 a2 a3 a4 a5 : Value}   {g : Nat} {S : World → Prop} {k : Value → Prop} (hS : ∀ w, S w → Blk w g T.pool_Pool (poolC a0 a1 a2 a3 a4 a5)) (hk : k a0) :
    tk Tryz.prog S (Instr.fieldAt T.pool_Pool (.pointer (some ⟨g, 0, none⟩)) 0) fun t => tk Tryz.prog S (Instr.loadAt T.int t) k :=
  tk_get1 (off := 0) (by kernel_rfl) (by kernel_rfl) (poolC_d0 ) hS hk
theorem poolC_d1 {a0 a1 a2 a3 a4 a5 : Value}   : (poolC a0 a1 a2 a3 a4 a5).drop 1 = a1 :: (a2 :: (a3 :: (a4 :: (a5 :: ([]))))) := rfl
theorem pool.t1 {a0 a1 a2 a3 a4 a5 : Value}   {g : Nat} {S : World → Prop} {k : Value → Prop} (hS : ∀ w, S w → Blk w g T.pool_Pool (poolC a0 a1 a2 a3 a4 a5)) (hk : k a1) :
    tk Tryz.prog S (Instr.fieldAt T.pool_Pool (.pointer (some ⟨g, 0, none⟩)) 1) fun t => tk Tryz.prog S (Instr.loadAt T.int t) k :=
  tk_get1 (off := 1) (by kernel_rfl) (by kernel_rfl) (poolC_d1 ) hS hk
theorem pool.g1 {a0 a1 a2 a3 a4 a5 : Value}   {g : Nat} {w : World} {k : Value → World → Prop} (hS : Blk w g T.pool_Pool (poolC a0 a1 a2 a3 a4 a5)) (hk : k a1 w) :
    o1 Tryz.prog (Instr.fieldAt T.pool_Pool (.pointer (some ⟨g, 0, none⟩)) 1) w fun t w => o1 Tryz.prog (Instr.loadAt T.int t) w k :=
  o1_get1 (off := 1) (by kernel_rfl) (by kernel_rfl) (poolC_d1 ) hS hk
theorem poolC_d2 {a0 a1 a2 a3 a4 a5 : Value}   : (poolC a0 a1 a2 a3 a4 a5).drop 2 = a2 :: (a3 :: (a4 :: (a5 :: ([])))) := rfl
theorem pool.t2 {a0 a1 a2 a3 a4 a5 : Value}   {g : Nat} {S : World → Prop} {k : Value → Prop} (hS : ∀ w, S w → Blk w g T.pool_Pool (poolC a0 a1 a2 a3 a4 a5)) (hk : k a2) :
    tk Tryz.prog S (Instr.fieldAt T.pool_Pool (.pointer (some ⟨g, 0, none⟩)) 2) fun t => tk Tryz.prog S (Instr.loadAt T.int t) k :=
  tk_get1 (off := 2) (by kernel_rfl) (by kernel_rfl) (poolC_d2 ) hS hk
theorem pool.g2 {a0 a1 a2 a3 a4 a5 : Value}   {g : Nat} {w : World} {k : Value → World → Prop} (hS : Blk w g T.pool_Pool (poolC a0 a1 a2 a3 a4 a5)) (hk : k a2 w) :
    o1 Tryz.prog (Instr.fieldAt T.pool_Pool (.pointer (some ⟨g, 0, none⟩)) 2) w fun t w => o1 Tryz.prog (Instr.loadAt T.int t) w k :=
  o1_get1 (off := 2) (by kernel_rfl) (by kernel_rfl) (poolC_d2 ) hS hk
theorem poolC_d3 {a0 a1 a2 a3 a4 a5 : Value}   : (poolC a0 a1 a2 a3 a4 a5).drop 3 = a3 :: (a4 :: (a5 :: ([]))) := rfl
theorem pool.t3 {a0 a1 a2 a3 a4 a5 : Value}   {g : Nat} {S : World → Prop} {k : Value → Prop} (hS : ∀ w, S w → Blk w g T.pool_Pool (poolC a0 a1 a2 a3 a4 a5)) (hk : k a3) :
    tk Tryz.prog S (Instr.fieldAt T.pool_Pool (.pointer (some ⟨g, 0, none⟩)) 3) fun t => tk Tryz.prog S (Instr.loadAt T.sl_pool_item t) k :=
  tk_get1 (off := 3) (by kernel_rfl) (by kernel_rfl) (poolC_d3 ) hS hk
theorem pool.g3 {a0 a1 a2 a3 a4 a5 : Value}   {g : Nat} {w : World} {k : Value → World → Prop} (hS : Blk w g T.pool_Pool (poolC a0 a1 a2 a3 a4 a5)) (hk : k a3 w) :
    o1 Tryz.prog (Instr.fieldAt T.pool_Pool (.pointer (some ⟨g, 0, none⟩)) 3) w fun t w => o1 Tryz.prog (Instr.loadAt T.sl_pool_item t) w k :=
  o1_get1 (off := 3) (by kernel_rfl) (by kernel_rfl) (poolC_d3 ) hS hk
theorem poolC_d4 {a0 a1 a2 a3 a4 a5 : Value}   : (poolC a0 a1 a2 a3 a4 a5).drop 4 = a4 :: (a5 :: ([])) := rfl
theorem pool.t4 {a0 a1 a2 a3 a4 a5 : Value}   {g : Nat} {S : World → Prop} {k : Value → Prop} (hS : ∀ w, S w → Blk w g T.pool_Pool (poolC a0 a1 a2 a3 a4 a5)) (hk : k a4) :
    tk Tryz.prog S (Instr.fieldAt T.pool_Pool (.pointer (some ⟨g, 0, none⟩)) 4) fun t => tk Tryz.prog S (Instr.loadAt T.sl_api_Hash t) k :=
  tk_get1 (off := 4) (by kernel_rfl) (by kernel_rfl) (poolC_d4 ) hS hk
theorem pool.g4 {a0 a1 a2 a3 a4 a5 : Value}   {g : Nat} {w : World} {k : Value → World → Prop} (hS : Blk w g T.pool_Pool (poolC a0 a1 a2 a3 a4 a5)) (hk : k a4 w) :
    o1 Tryz.prog (Instr.fieldAt T.pool_Pool (.pointer (some ⟨g, 0, none⟩)) 4) w fun t w => o1 Tryz.prog (Instr.loadAt T.sl_api_Hash t) w k :=
  o1_get1 (off := 4) (by kernel_rfl) (by kernel_rfl) (poolC_d4 ) hS hk
theorem poolC_d5 {a0 a1 a2 a3 a4 a5 : Value}   : (poolC a0 a1 a2 a3 a4 a5).drop 5 = a5 :: ([]) := rfl
theorem pool.t5 {a0 a1 a2 a3 a4 a5 : Value}   {g : Nat} {S : World → Prop} {k : Value → Prop} (hS : ∀ w, S w → Blk w g T.pool_Pool (poolC a0 a1 a2 a3 a4 a5)) (hk : k a5) :
    tk Tryz.prog S (Instr.fieldAt T.pool_Pool (.pointer (some ⟨g, 0, none⟩)) 5) fun t => tk Tryz.prog S (Instr.loadAt T.int t) k :=
  tk_get1 (off := 5) (by kernel_rfl) (by kernel_rfl) (poolC_d5 ) hS hk
theorem pool.g5 {a0 a1 a2 a3 a4 a5 : Value}   {g : Nat} {w : World} {k : Value → World → Prop} (hS : Blk w g T.pool_Pool (poolC a0 a1 a2 a3 a4 a5)) (hk : k a5 w) :
    o1 Tryz.prog (Instr.fieldAt T.pool_Pool (.pointer (some ⟨g, 0, none⟩)) 5) w fun t w => o1 Tryz.prog (Instr.loadAt T.int t) w k :=
  o1_get1 (off := 5) (by kernel_rfl) (by kernel_rfl) (poolC_d5 ) hS hk
/-- the cells of a T.isthmuslaw18_Act -/
def act8C (a0 : Value) (a1 : Value) (a2 : Value) (a3 : Value) (a4 : Value) : List Value := a0 :: (a1 :: (a2 :: (a3 :: (a4 :: ([])))))
theorem act8C_d0 {a0 a1 a2 a3 a4 : Value}   : (act8C a0 a1 a2 a3 a4).drop 0 = a0 :: (a1 :: (a2 :: (a3 :: (a4 :: ([]))))) := rfl
theorem act8.t0 {a0 a1 a2 a3 a4 : Value}   {g : Nat} {S : World → Prop} {k : Value → Prop} (hS : ∀ w, S w → Blk w g T.isthmuslaw18_Act (act8C a0 a1 a2 a3 a4)) (hk : k a0) :
    tk Tryz.prog S (Instr.fieldAt T.isthmuslaw18_Act (.pointer (some ⟨g, 0, none⟩)) 0) fun t => tk Tryz.prog S (Instr.loadAt T.int t) k :=
  tk_get1 (off := 0) (by kernel_rfl) (by kernel_rfl) (act8C_d0 ) hS hk
theorem act8C_d1 {a0 a1 a2 a3 a4 : Value}   : (act8C a0 a1 a2 a3 a4).drop 1 = a1 :: (a2 :: (a3 :: (a4 :: ([])))) := rfl
theorem act8.t1 {a0 a1 a2 a3 a4 : Value}   {g : Nat} {S : World → Prop} {k : Value → Prop} (hS : ∀ w, S w → Blk w g T.isthmuslaw18_Act (act8C a0 a1 a2 a3 a4)) (hk : k a1) :
    tk Tryz.prog S (Instr.fieldAt T.isthmuslaw18_Act (.pointer (some ⟨g, 0, none⟩)) 1) fun t => tk Tryz.prog S (Instr.loadAt T.int t) k :=
  tk_get1 (off := 1) (by kernel_rfl) (by kernel_rfl) (act8C_d1 ) hS hk
theorem act8.g1 {a0 a1 a2 a3 a4 : Value}   {g : Nat} {w : World} {k : Value → World → Prop} (hS : Blk w g T.isthmuslaw18_Act (act8C a0 a1 a2 a3 a4)) (hk : k a1 w) :
    o1 Tryz.prog (Instr.fieldAt T.isthmuslaw18_Act (.pointer (some ⟨g, 0, none⟩)) 1) w fun t w => o1 Tryz.prog (Instr.loadAt T.int t) w k :=
  o1_get1 (off := 1) (by kernel_rfl) (by kernel_rfl) (act8C_d1 ) hS hk
theorem act8C_d2 {a0 a1 a2 a3 a4 : Value}   : (act8C a0 a1 a2 a3 a4).drop 2 = a2 :: (a3 :: (a4 :: ([]))) := rfl
theorem act8.t2 {a0 a1 a2 a3 a4 : Value}   {g : Nat} {S : World → Prop} {k : Value → Prop} (hS : ∀ w, S w → Blk w g T.isthmuslaw18_Act (act8C a0 a1 a2 a3 a4)) (hk : k a2) :
    tk Tryz.prog S (Instr.fieldAt T.isthmuslaw18_Act (.pointer (some ⟨g, 0, none⟩)) 2) fun t => tk Tryz.prog S (Instr.loadAt T.int t) k :=
  tk_get1 (off := 2) (by kernel_rfl) (by kernel_rfl) (act8C_d2 ) hS hk
theorem act8.g2 {a0 a1 a2 a3 a4 : Value}   {g : Nat} {w : World} {k : Value → World → Prop} (hS : Blk w g T.isthmuslaw18_Act (act8C a0 a1 a2 a3 a4)) (hk : k a2 w) :
    o1 Tryz.prog (Instr.fieldAt T.isthmuslaw18_Act (.pointer (some ⟨g, 0, none⟩)) 2) w fun t w => o1 Tryz.prog (Instr.loadAt T.int t) w k :=
  o1_get1 (off := 2) (by kernel_rfl) (by kernel_rfl) (act8C_d2 ) hS hk
theorem act8C_d3 {a0 a1 a2 a3 a4 : Value}   : (act8C a0 a1 a2 a3 a4).drop 3 = a3 :: (a4 :: ([])) := rfl
theorem act8.t3 {a0 a1 a2 a3 a4 : Value}   {g : Nat} {S : World → Prop} {k : Value → Prop} (hS : ∀ w, S w → Blk w g T.isthmuslaw18_Act (act8C a0 a1 a2 a3 a4)) (hk : k a3) :
    tk Tryz.prog S (Instr.fieldAt T.isthmuslaw18_Act (.pointer (some ⟨g, 0, none⟩)) 3) fun t => tk Tryz.prog S (Instr.loadAt T.sl_uint8 t) k :=
  tk_get1 (off := 3) (by kernel_rfl) (by kernel_rfl) (act8C_d3 ) hS hk
theorem act8.g3 {a0 a1 a2 a3 a4 : Value}   {g : Nat} {w : World} {k : Value → World → Prop} (hS : Blk w g T.isthmuslaw18_Act (act8C a0 a1 a2 a3 a4)) (hk : k a3 w) :
    o1 Tryz.prog (Instr.fieldAt T.isthmuslaw18_Act (.pointer (some ⟨g, 0, none⟩)) 3) w fun t w => o1 Tryz.prog (Instr.loadAt T.sl_uint8 t) w k :=
  o1_get1 (off := 3) (by kernel_rfl) (by kernel_rfl) (act8C_d3 ) hS hk
theorem act8C_d4 {a0 a1 a2 a3 a4 : Value}   : (act8C a0 a1 a2 a3 a4).drop 4 = a4 :: ([]) := rfl
theorem act8.t4 {a0 a1 a2 a3 a4 : Value}   {g : Nat} {S : World → Prop} {k : Value → Prop} (hS : ∀ w, S w → Blk w g T.isthmuslaw18_Act (act8C a0 a1 a2 a3 a4)) (hk : k a4) :
    tk Tryz.prog S (Instr.fieldAt T.isthmuslaw18_Act (.pointer (some ⟨g, 0, none⟩)) 4) fun t => tk Tryz.prog S (Instr.loadAt T.sl_sl_uint8 t) k :=
  tk_get1 (off := 4) (by kernel_rfl) (by kernel_rfl) (act8C_d4 ) hS hk
theorem act8.g4 {a0 a1 a2 a3 a4 : Value}   {g : Nat} {w : World} {k : Value → World → Prop} (hS : Blk w g T.isthmuslaw18_Act (act8C a0 a1 a2 a3 a4)) (hk : k a4 w) :
    o1 Tryz.prog (Instr.fieldAt T.isthmuslaw18_Act (.pointer (some ⟨g, 0, none⟩)) 4) w fun t w => o1 Tryz.prog (Instr.loadAt T.sl_sl_uint8 t) w k :=
  o1_get1 (off := 4) (by kernel_rfl) (by kernel_rfl) (act8C_d4 ) hS hk
/-- the cells of a T.isthmuslaw18_Size -/
def size8C (a0 : Value) (a1 : Value) (a2 : Value) : List Value := a0 :: (a1 :: (a2 :: ([])))
theorem size8C_d0 {a0 a1 a2 : Value}   : (size8C a0 a1 a2).drop 0 = a0 :: (a1 :: (a2 :: ([]))) := rfl
theorem size8.t0 {a0 a1 a2 : Value}   {g : Nat} {S : World → Prop} {k : Value → Prop} (hS : ∀ w, S w → Blk w g T.isthmuslaw18_Size (size8C a0 a1 a2)) (hk : k a0) :
    tk Tryz.prog S (Instr.fieldAt T.isthmuslaw18_Size (.pointer (some ⟨g, 0, none⟩)) 0) fun t => tk Tryz.prog S (Instr.loadAt T.int t) k :=
  tk_get1 (off := 0) (by kernel_rfl) (by kernel_rfl) (size8C_d0 ) hS hk
theorem size8C_d1 {a0 a1 a2 : Value}   : (size8C a0 a1 a2).drop 1 = a1 :: (a2 :: ([])) := rfl
theorem size8.t1 {a0 a1 a2 : Value}   {g : Nat} {S : World → Prop} {k : Value → Prop} (hS : ∀ w, S w → Blk w g T.isthmuslaw18_Size (size8C a0 a1 a2)) (hk : k a1) :
    tk Tryz.prog S (Instr.fieldAt T.isthmuslaw18_Size (.pointer (some ⟨g, 0, none⟩)) 1) fun t => tk Tryz.prog S (Instr.loadAt T.int t) k :=
  tk_get1 (off := 1) (by kernel_rfl) (by kernel_rfl) (size8C_d1 ) hS hk
theorem size8.g1 {a0 a1 a2 : Value}   {g : Nat} {w : World} {k : Value → World → Prop} (hS : Blk w g T.isthmuslaw18_Size (size8C a0 a1 a2)) (hk : k a1 w) :
    o1 Tryz.prog (Instr.fieldAt T.isthmuslaw18_Size (.pointer (some ⟨g, 0, none⟩)) 1) w fun t w => o1 Tryz.prog (Instr.loadAt T.int t) w k :=
  o1_get1 (off := 1) (by kernel_rfl) (by kernel_rfl) (size8C_d1 ) hS hk
theorem size8C_d2 {a0 a1 a2 : Value}   : (size8C a0 a1 a2).drop 2 = a2 :: ([]) := rfl
theorem size8.t2 {a0 a1 a2 : Value}   {g : Nat} {S : World → Prop} {k : Value → Prop} (hS : ∀ w, S w → Blk w g T.isthmuslaw18_Size (size8C a0 a1 a2)) (hk : k a2) :
    tk Tryz.prog S (Instr.fieldAt T.isthmuslaw18_Size (.pointer (some ⟨g, 0, none⟩)) 2) fun t => tk Tryz.prog S (Instr.loadAt T.int t) k :=
  tk_get1 (off := 2) (by kernel_rfl) (by kernel_rfl) (size8C_d2 ) hS hk
theorem size8.g2 {a0 a1 a2 : Value}   {g : Nat} {w : World} {k : Value → World → Prop} (hS : Blk w g T.isthmuslaw18_Size (size8C a0 a1 a2)) (hk : k a2 w) :
    o1 Tryz.prog (Instr.fieldAt T.isthmuslaw18_Size (.pointer (some ⟨g, 0, none⟩)) 2) w fun t w => o1 Tryz.prog (Instr.loadAt T.int t) w k :=
  o1_get1 (off := 2) (by kernel_rfl) (by kernel_rfl) (size8C_d2 ) hS hk
end Go.Proofs.YtgagekffmamldaaGreatDoor
set_option linter.unusedVariables false
set_option linter.unusedSimpArgs false
set_option linter.unusedSectionVars false
namespace Go.Proofs.YtgagekffmamldaaGreatDoor
open Go Go.Isk Go.RowKit
theorem pitemC_one {a0 a2 a3 : Value} {a1 : List Value}  (o0 : a0.oneCell' = true) (o1 : ∀ u ∈ a1, u.oneCell' = true) (o2 : a2.oneCell' = true) (o3 : a3.oneCell' = true) : ∀ u ∈ pitemC a0 a1 a2 a3, u.oneCell' = true := by
  intro u hu
  simp only [pitemC, List.mem_cons, List.mem_append, List.not_mem_nil, or_false] at hu
  rcases hu with rfl | hu | rfl | rfl
  · exact o0
  · exact o1 u hu
  · exact o2
  · exact o3
theorem pitem.a0 {w : World} {g o : Nat} {k : Value → World → Prop} (hk : k (.pointer (some ⟨g, o + 0, none⟩)) w) : o1 Tryz.prog (Instr.fieldAt T.pool_item (.pointer (some ⟨g, o, none⟩)) 0) w k := st_of (fieldAt_run (by kernel_rfl) g o w) hk
theorem pitem.c0 {g o : Nat} {k : Value → Prop} {S : World → Prop} (hk : k (.pointer (some ⟨g, o + 0, none⟩))) : tk Tryz.prog S (Instr.fieldAt T.pool_item (.pointer (some ⟨g, o, none⟩)) 0) k := tk_of _ (fun w _ => fieldAt_run (by kernel_rfl) g o w) hk
theorem pitem.r0 {a0 a2 a3 : Value} {a1 : List Value} {b : Base} {w : World} {L : List It} {g o : Nat} {k : Value → World → Prop} (h : Sep b w L) (hr : Rng L g o (pitemC a0 a1 a2 a3))  (hk : k a0 w) : o1 Tryz.prog (Instr.loadAt T.sl_uint8 (.pointer (some ⟨g, o + 0, none⟩))) w k := st_of (load_one (by kernel_rfl) (range_cell (h.rng hr) (get_of_drop (pitemC_d0 )))) hk
theorem pitem.e0 {a0 a2 a3 : Value} {a1 : List Value} {L : List It} {g o : Nat} {k : Value → Prop} {S : World → Prop} (hS : ∀ w, S w → Mayr L w) (hr : Rng L g o (pitemC a0 a1 a2 a3))  (hk : k a0) : tk Tryz.prog S (Instr.loadAt T.sl_uint8 (.pointer (some ⟨g, o + 0, none⟩))) k := tk_of _ (fun w hw => load_one (by kernel_rfl) (range_cell ((hS w hw).rng hr) (get_of_drop (pitemC_d0 )))) hk
theorem pitem.s0 {a0 a2 a3 : Value} {a1 : List Value} {x : Value} {b : Base} {w : World} {L R : List It} {g : Nat} {k : Value → World → Prop} {tt : TypeId} (h : Sep b w L) (hm : Has L (blkI g tt (pitemC a0 a1 a2 a3)) R) (h1 : a1.length = 32) (hv : x.cells = #[x] ∧ x.oneCell' = true) (hk : ∀ w', Sep b w' (blkI g tt (pitemC x a1 a2 a3) :: R) → k undef w') :
    o1 Tryz.prog (Instr.fieldAt T.pool_item (.pointer (some ⟨g, 0, none⟩)) 0) w fun a w => o0 Tryz.prog (Instr.storeAt T.sl_uint8 a x) w k :=
  sp_s1 (off := 0) (by kernel_rfl) (by kernel_rfl) (by simp [pitemC, h1]) (by simp [pitemC, List.set_append, h1]) hv h hm hk
theorem pitem.k1 {a0 a2 a3 : Value} {a1 : List Value} {L : List It} {g o : Nat} {k : Value → Prop} {S : World → Prop} (hS : ∀ w, S w → Mayr L w) (hr : Rng L g o (pitemC a0 a1 a2 a3))  (h1 : a1.length = 32) (hk : k (.agg a1.toArray)) :
    tk Tryz.prog S (Instr.fieldAt T.pool_item (.pointer (some ⟨g, o, none⟩)) 1) fun t => tk Tryz.prog S (Instr.loadAt T.api_Hash t) k :=
  tk_fn (off := 1) (by kernel_rfl) (by kernel_rfl) h1 (pitemC_d1 ) hS hr hk
theorem pitem.a1 {w : World} {g o : Nat} {k : Value → World → Prop} (hk : k (.pointer (some ⟨g, o + 1, none⟩)) w) : o1 Tryz.prog (Instr.fieldAt T.pool_item (.pointer (some ⟨g, o, none⟩)) 1) w k := st_of (fieldAt_run (by kernel_rfl) g o w) hk
theorem pitem.c1 {g o : Nat} {k : Value → Prop} {S : World → Prop} (hk : k (.pointer (some ⟨g, o + 1, none⟩))) : tk Tryz.prog S (Instr.fieldAt T.pool_item (.pointer (some ⟨g, o, none⟩)) 1) k := tk_of _ (fun w _ => fieldAt_run (by kernel_rfl) g o w) hk
theorem pitem.r1 {a0 a2 a3 : Value} {a1 : List Value} {b : Base} {w : World} {L : List It} {g o : Nat} {k : Value → World → Prop} (h : Sep b w L) (hr : Rng L g o (pitemC a0 a1 a2 a3))  (h1 : a1.length = 32) (hk : k (.agg a1.toArray) w) : o1 Tryz.prog (Instr.loadAt T.api_Hash (.pointer (some ⟨g, o + 1, none⟩))) w k := st_of (load_agg (by kernel_rfl) (range_sub (h.rng hr) 1 (sub_of_drop (pitemC_d1 ))) (h1)) hk
theorem pitem.e1 {a0 a2 a3 : Value} {a1 : List Value} {L : List It} {g o : Nat} {k : Value → Prop} {S : World → Prop} (hS : ∀ w, S w → Mayr L w) (hr : Rng L g o (pitemC a0 a1 a2 a3))  (h1 : a1.length = 32) (hk : k (.agg a1.toArray)) : tk Tryz.prog S (Instr.loadAt T.api_Hash (.pointer (some ⟨g, o + 1, none⟩))) k := tk_of _ (fun w hw => load_agg (by kernel_rfl) (range_sub ((hS w hw).rng hr) 1 (sub_of_drop (pitemC_d1 ))) (h1)) hk
theorem pitem.s1 {a0 a2 a3 : Value} {a1 : List Value} {x : List Value} {b : Base} {w : World} {L R : List It} {g : Nat} {k : Value → World → Prop} {tt : TypeId} (h : Sep b w L) (hm : Has L (blkI g tt (pitemC a0 a1 a2 a3)) R) (h1 : a1.length = 32) (hx : x.length = 32) (hv : ∀ u ∈ x, u.oneCell' = true) (hk : ∀ w', Sep b w' (blkI g tt (pitemC a0 x a2 a3) :: R) → k undef w') :
    o1 Tryz.prog (Instr.fieldAt T.pool_item (.pointer (some ⟨g, 0, none⟩)) 1) w fun a w => o0 Tryz.prog (Instr.storeAt T.api_Hash a (.agg x.toArray)) w k :=
  sp_sn (off := 1) (by kernel_rfl) (by kernel_rfl) hx (by simp [pitemC, h1]) (by simp [pitemC, List.take_append, List.drop_append, List.take_of_length_le, List.drop_of_length_le, h1, hx]) hv h hm hk
theorem pitem.k2 {a0 a2 a3 : Value} {a1 : List Value} {L : List It} {g o : Nat} {k : Value → Prop} {S : World → Prop} (hS : ∀ w, S w → Mayr L w) (hr : Rng L g o (pitemC a0 a1 a2 a3)) (h1 : a1.length = 32) (hk : k a2) :
    tk Tryz.prog S (Instr.fieldAt T.pool_item (.pointer (some ⟨g, o, none⟩)) 2) fun t => tk Tryz.prog S (Instr.loadAt T.int t) k :=
  tk_f1 (off := 33) (by kernel_rfl) (by kernel_rfl) (pitemC_d2 h1) hS hr hk
theorem pitem.a2 {w : World} {g o : Nat} {k : Value → World → Prop} (hk : k (.pointer (some ⟨g, o + 33, none⟩)) w) : o1 Tryz.prog (Instr.fieldAt T.pool_item (.pointer (some ⟨g, o, none⟩)) 2) w k := st_of (fieldAt_run (by kernel_rfl) g o w) hk
theorem pitem.c2 {g o : Nat} {k : Value → Prop} {S : World → Prop} (hk : k (.pointer (some ⟨g, o + 33, none⟩))) : tk Tryz.prog S (Instr.fieldAt T.pool_item (.pointer (some ⟨g, o, none⟩)) 2) k := tk_of _ (fun w _ => fieldAt_run (by kernel_rfl) g o w) hk
theorem pitem.r2 {a0 a2 a3 : Value} {a1 : List Value} {b : Base} {w : World} {L : List It} {g o : Nat} {k : Value → World → Prop} (h : Sep b w L) (hr : Rng L g o (pitemC a0 a1 a2 a3)) (h1 : a1.length = 32) (hk : k a2 w) : o1 Tryz.prog (Instr.loadAt T.int (.pointer (some ⟨g, o + 33, none⟩))) w k := st_of (load_one (by kernel_rfl) (range_cell (h.rng hr) (get_of_drop (pitemC_d2 h1)))) hk
theorem pitem.e2 {a0 a2 a3 : Value} {a1 : List Value} {L : List It} {g o : Nat} {k : Value → Prop} {S : World → Prop} (hS : ∀ w, S w → Mayr L w) (hr : Rng L g o (pitemC a0 a1 a2 a3)) (h1 : a1.length = 32) (hk : k a2) : tk Tryz.prog S (Instr.loadAt T.int (.pointer (some ⟨g, o + 33, none⟩))) k := tk_of _ (fun w hw => load_one (by kernel_rfl) (range_cell ((hS w hw).rng hr) (get_of_drop (pitemC_d2 h1)))) hk
theorem pitem.s2 {a0 a2 a3 : Value} {a1 : List Value} {x : Value} {b : Base} {w : World} {L R : List It} {g : Nat} {k : Value → World → Prop} {tt : TypeId} (h : Sep b w L) (hm : Has L (blkI g tt (pitemC a0 a1 a2 a3)) R) (h1 : a1.length = 32) (hv : x.cells = #[x] ∧ x.oneCell' = true) (hk : ∀ w', Sep b w' (blkI g tt (pitemC a0 a1 x a3) :: R) → k undef w') :
    o1 Tryz.prog (Instr.fieldAt T.pool_item (.pointer (some ⟨g, 0, none⟩)) 2) w fun a w => o0 Tryz.prog (Instr.storeAt T.int a x) w k :=
  sp_s1 (off := 33) (by kernel_rfl) (by kernel_rfl) (by simp [pitemC, h1]) (by simp [pitemC, List.set_append, h1]) hv h hm hk
theorem pitem.k3 {a0 a2 a3 : Value} {a1 : List Value} {L : List It} {g o : Nat} {k : Value → Prop} {S : World → Prop} (hS : ∀ w, S w → Mayr L w) (hr : Rng L g o (pitemC a0 a1 a2 a3)) (h1 : a1.length = 32) (hk : k a3) :
    tk Tryz.prog S (Instr.fieldAt T.pool_item (.pointer (some ⟨g, o, none⟩)) 3) fun t => tk Tryz.prog S (Instr.loadAt T.int t) k :=
  tk_f1 (off := 34) (by kernel_rfl) (by kernel_rfl) (pitemC_d3 h1) hS hr hk
theorem pitem.a3 {w : World} {g o : Nat} {k : Value → World → Prop} (hk : k (.pointer (some ⟨g, o + 34, none⟩)) w) : o1 Tryz.prog (Instr.fieldAt T.pool_item (.pointer (some ⟨g, o, none⟩)) 3) w k := st_of (fieldAt_run (by kernel_rfl) g o w) hk
theorem pitem.c3 {g o : Nat} {k : Value → Prop} {S : World → Prop} (hk : k (.pointer (some ⟨g, o + 34, none⟩))) : tk Tryz.prog S (Instr.fieldAt T.pool_item (.pointer (some ⟨g, o, none⟩)) 3) k := tk_of _ (fun w _ => fieldAt_run (by kernel_rfl) g o w) hk
theorem pitem.r3 {a0 a2 a3 : Value} {a1 : List Value} {b : Base} {w : World} {L : List It} {g o : Nat} {k : Value → World → Prop} (h : Sep b w L) (hr : Rng L g o (pitemC a0 a1 a2 a3)) (h1 : a1.length = 32) (hk : k a3 w) : o1 Tryz.prog (Instr.loadAt T.int (.pointer (some ⟨g, o + 34, none⟩))) w k := st_of (load_one (by kernel_rfl) (range_cell (h.rng hr) (get_of_drop (pitemC_d3 h1)))) hk
theorem pitem.e3 {a0 a2 a3 : Value} {a1 : List Value} {L : List It} {g o : Nat} {k : Value → Prop} {S : World → Prop} (hS : ∀ w, S w → Mayr L w) (hr : Rng L g o (pitemC a0 a1 a2 a3)) (h1 : a1.length = 32) (hk : k a3) : tk Tryz.prog S (Instr.loadAt T.int (.pointer (some ⟨g, o + 34, none⟩))) k := tk_of _ (fun w hw => load_one (by kernel_rfl) (range_cell ((hS w hw).rng hr) (get_of_drop (pitemC_d3 h1)))) hk
theorem pitem.s3 {a0 a2 a3 : Value} {a1 : List Value} {x : Value} {b : Base} {w : World} {L R : List It} {g : Nat} {k : Value → World → Prop} {tt : TypeId} (h : Sep b w L) (hm : Has L (blkI g tt (pitemC a0 a1 a2 a3)) R) (h1 : a1.length = 32) (hv : x.cells = #[x] ∧ x.oneCell' = true) (hk : ∀ w', Sep b w' (blkI g tt (pitemC a0 a1 a2 x) :: R) → k undef w') :
    o1 Tryz.prog (Instr.fieldAt T.pool_item (.pointer (some ⟨g, 0, none⟩)) 3) w fun a w => o0 Tryz.prog (Instr.storeAt T.int a x) w k :=
  sp_s1 (off := 34) (by kernel_rfl) (by kernel_rfl) (by simp [pitemC, h1]) (by simp [pitemC, List.set_append, h1]) hv h hm hk
theorem pool.a0 {w : World} {g o : Nat} {k : Value → World → Prop} (hk : k (.pointer (some ⟨g, o + 0, none⟩)) w) : o1 Tryz.prog (Instr.fieldAt T.pool_Pool (.pointer (some ⟨g, o, none⟩)) 0) w k := st_of (fieldAt_run (by kernel_rfl) g o w) hk
theorem pool.c0 {g o : Nat} {k : Value → Prop} {S : World → Prop} (hk : k (.pointer (some ⟨g, o + 0, none⟩))) : tk Tryz.prog S (Instr.fieldAt T.pool_Pool (.pointer (some ⟨g, o, none⟩)) 0) k := tk_of _ (fun w _ => fieldAt_run (by kernel_rfl) g o w) hk
theorem pool.r0 {a0 a1 a2 a3 a4 a5 : Value} {b : Base} {w : World} {L : List It} {g o : Nat} {k : Value → World → Prop} (h : Sep b w L) (hr : Rng L g o (poolC a0 a1 a2 a3 a4 a5))  (hk : k a0 w) : o1 Tryz.prog (Instr.loadAt T.int (.pointer (some ⟨g, o + 0, none⟩))) w k := st_of (load_one (by kernel_rfl) (range_cell (h.rng hr) (get_of_drop (poolC_d0 )))) hk
theorem pool.e0 {a0 a1 a2 a3 a4 a5 : Value} {L : List It} {g o : Nat} {k : Value → Prop} {S : World → Prop} (hS : ∀ w, S w → Mayr L w) (hr : Rng L g o (poolC a0 a1 a2 a3 a4 a5))  (hk : k a0) : tk Tryz.prog S (Instr.loadAt T.int (.pointer (some ⟨g, o + 0, none⟩))) k := tk_of _ (fun w hw => load_one (by kernel_rfl) (range_cell ((hS w hw).rng hr) (get_of_drop (poolC_d0 )))) hk
theorem pool.s0 {a0 a1 a2 a3 a4 a5 : Value} {x : Value} {b : Base} {w : World} {L R : List It} {g : Nat} {k : Value → World → Prop} {tt : TypeId} (h : Sep b w L) (hm : Has L (blkI g tt (poolC a0 a1 a2 a3 a4 a5)) R)  (hv : x.cells = #[x] ∧ x.oneCell' = true) (hk : ∀ w', Sep b w' (blkI g tt (poolC x a1 a2 a3 a4 a5) :: R) → k undef w') :
    o1 Tryz.prog (Instr.fieldAt T.pool_Pool (.pointer (some ⟨g, 0, none⟩)) 0) w fun a w => o0 Tryz.prog (Instr.storeAt T.int a x) w k :=
  sp_s1 (off := 0) (by kernel_rfl) (by kernel_rfl) (by simp [poolC]) (by simp [poolC, List.set_append]) hv h hm hk
theorem pool.k1 {a0 a1 a2 a3 a4 a5 : Value} {L : List It} {g o : Nat} {k : Value → Prop} {S : World → Prop} (hS : ∀ w, S w → Mayr L w) (hr : Rng L g o (poolC a0 a1 a2 a3 a4 a5))  (hk : k a1) :
    tk Tryz.prog S (Instr.fieldAt T.pool_Pool (.pointer (some ⟨g, o, none⟩)) 1) fun t => tk Tryz.prog S (Instr.loadAt T.int t) k :=
  tk_f1 (off := 1) (by kernel_rfl) (by kernel_rfl) (poolC_d1 ) hS hr hk
theorem pool.a1 {w : World} {g o : Nat} {k : Value → World → Prop} (hk : k (.pointer (some ⟨g, o + 1, none⟩)) w) : o1 Tryz.prog (Instr.fieldAt T.pool_Pool (.pointer (some ⟨g, o, none⟩)) 1) w k := st_of (fieldAt_run (by kernel_rfl) g o w) hk
theorem pool.c1 {g o : Nat} {k : Value → Prop} {S : World → Prop} (hk : k (.pointer (some ⟨g, o + 1, none⟩))) : tk Tryz.prog S (Instr.fieldAt T.pool_Pool (.pointer (some ⟨g, o, none⟩)) 1) k := tk_of _ (fun w _ => fieldAt_run (by kernel_rfl) g o w) hk
theorem pool.r1 {a0 a1 a2 a3 a4 a5 : Value} {b : Base} {w : World} {L : List It} {g o : Nat} {k : Value → World → Prop} (h : Sep b w L) (hr : Rng L g o (poolC a0 a1 a2 a3 a4 a5))  (hk : k a1 w) : o1 Tryz.prog (Instr.loadAt T.int (.pointer (some ⟨g, o + 1, none⟩))) w k := st_of (load_one (by kernel_rfl) (range_cell (h.rng hr) (get_of_drop (poolC_d1 )))) hk
theorem pool.e1 {a0 a1 a2 a3 a4 a5 : Value} {L : List It} {g o : Nat} {k : Value → Prop} {S : World → Prop} (hS : ∀ w, S w → Mayr L w) (hr : Rng L g o (poolC a0 a1 a2 a3 a4 a5))  (hk : k a1) : tk Tryz.prog S (Instr.loadAt T.int (.pointer (some ⟨g, o + 1, none⟩))) k := tk_of _ (fun w hw => load_one (by kernel_rfl) (range_cell ((hS w hw).rng hr) (get_of_drop (poolC_d1 )))) hk
theorem pool.s1 {a0 a1 a2 a3 a4 a5 : Value} {x : Value} {b : Base} {w : World} {L R : List It} {g : Nat} {k : Value → World → Prop} {tt : TypeId} (h : Sep b w L) (hm : Has L (blkI g tt (poolC a0 a1 a2 a3 a4 a5)) R)  (hv : x.cells = #[x] ∧ x.oneCell' = true) (hk : ∀ w', Sep b w' (blkI g tt (poolC a0 x a2 a3 a4 a5) :: R) → k undef w') :
    o1 Tryz.prog (Instr.fieldAt T.pool_Pool (.pointer (some ⟨g, 0, none⟩)) 1) w fun a w => o0 Tryz.prog (Instr.storeAt T.int a x) w k :=
  sp_s1 (off := 1) (by kernel_rfl) (by kernel_rfl) (by simp [poolC]) (by simp [poolC, List.set_append]) hv h hm hk
theorem pool.k2 {a0 a1 a2 a3 a4 a5 : Value} {L : List It} {g o : Nat} {k : Value → Prop} {S : World → Prop} (hS : ∀ w, S w → Mayr L w) (hr : Rng L g o (poolC a0 a1 a2 a3 a4 a5))  (hk : k a2) :
    tk Tryz.prog S (Instr.fieldAt T.pool_Pool (.pointer (some ⟨g, o, none⟩)) 2) fun t => tk Tryz.prog S (Instr.loadAt T.int t) k :=
  tk_f1 (off := 2) (by kernel_rfl) (by kernel_rfl) (poolC_d2 ) hS hr hk
theorem pool.a2 {w : World} {g o : Nat} {k : Value → World → Prop} (hk : k (.pointer (some ⟨g, o + 2, none⟩)) w) : o1 Tryz.prog (Instr.fieldAt T.pool_Pool (.pointer (some ⟨g, o, none⟩)) 2) w k := st_of (fieldAt_run (by kernel_rfl) g o w) hk
theorem pool.c2 {g o : Nat} {k : Value → Prop} {S : World → Prop} (hk : k (.pointer (some ⟨g, o + 2, none⟩))) : tk Tryz.prog S (Instr.fieldAt T.pool_Pool (.pointer (some ⟨g, o, none⟩)) 2) k := tk_of _ (fun w _ => fieldAt_run (by kernel_rfl) g o w) hk
theorem pool.r2 {a0 a1 a2 a3 a4 a5 : Value} {b : Base} {w : World} {L : List It} {g o : Nat} {k : Value → World → Prop} (h : Sep b w L) (hr : Rng L g o (poolC a0 a1 a2 a3 a4 a5))  (hk : k a2 w) : o1 Tryz.prog (Instr.loadAt T.int (.pointer (some ⟨g, o + 2, none⟩))) w k := st_of (load_one (by kernel_rfl) (range_cell (h.rng hr) (get_of_drop (poolC_d2 )))) hk
theorem pool.e2 {a0 a1 a2 a3 a4 a5 : Value} {L : List It} {g o : Nat} {k : Value → Prop} {S : World → Prop} (hS : ∀ w, S w → Mayr L w) (hr : Rng L g o (poolC a0 a1 a2 a3 a4 a5))  (hk : k a2) : tk Tryz.prog S (Instr.loadAt T.int (.pointer (some ⟨g, o + 2, none⟩))) k := tk_of _ (fun w hw => load_one (by kernel_rfl) (range_cell ((hS w hw).rng hr) (get_of_drop (poolC_d2 )))) hk
theorem pool.s2 {a0 a1 a2 a3 a4 a5 : Value} {x : Value} {b : Base} {w : World} {L R : List It} {g : Nat} {k : Value → World → Prop} {tt : TypeId} (h : Sep b w L) (hm : Has L (blkI g tt (poolC a0 a1 a2 a3 a4 a5)) R)  (hv : x.cells = #[x] ∧ x.oneCell' = true) (hk : ∀ w', Sep b w' (blkI g tt (poolC a0 a1 x a3 a4 a5) :: R) → k undef w') :
    o1 Tryz.prog (Instr.fieldAt T.pool_Pool (.pointer (some ⟨g, 0, none⟩)) 2) w fun a w => o0 Tryz.prog (Instr.storeAt T.int a x) w k :=
  sp_s1 (off := 2) (by kernel_rfl) (by kernel_rfl) (by simp [poolC]) (by simp [poolC, List.set_append]) hv h hm hk
theorem pool.k3 {a0 a1 a2 a3 a4 a5 : Value} {L : List It} {g o : Nat} {k : Value → Prop} {S : World → Prop} (hS : ∀ w, S w → Mayr L w) (hr : Rng L g o (poolC a0 a1 a2 a3 a4 a5))  (hk : k a3) :
    tk Tryz.prog S (Instr.fieldAt T.pool_Pool (.pointer (some ⟨g, o, none⟩)) 3) fun t => tk Tryz.prog S (Instr.loadAt T.sl_pool_item t) k :=
  tk_f1 (off := 3) (by kernel_rfl) (by kernel_rfl) (poolC_d3 ) hS hr hk
theorem pool.a3 {w : World} {g o : Nat} {k : Value → World → Prop} (hk : k (.pointer (some ⟨g, o + 3, none⟩)) w) : o1 Tryz.prog (Instr.fieldAt T.pool_Pool (.pointer (some ⟨g, o, none⟩)) 3) w k := st_of (fieldAt_run (by kernel_rfl) g o w) hk
theorem pool.c3 {g o : Nat} {k : Value → Prop} {S : World → Prop} (hk : k (.pointer (some ⟨g, o + 3, none⟩))) : tk Tryz.prog S (Instr.fieldAt T.pool_Pool (.pointer (some ⟨g, o, none⟩)) 3) k := tk_of _ (fun w _ => fieldAt_run (by kernel_rfl) g o w) hk
theorem pool.r3 {a0 a1 a2 a3 a4 a5 : Value} {b : Base} {w : World} {L : List It} {g o : Nat} {k : Value → World → Prop} (h : Sep b w L) (hr : Rng L g o (poolC a0 a1 a2 a3 a4 a5))  (hk : k a3 w) : o1 Tryz.prog (Instr.loadAt T.sl_pool_item (.pointer (some ⟨g, o + 3, none⟩))) w k := st_of (load_one (by kernel_rfl) (range_cell (h.rng hr) (get_of_drop (poolC_d3 )))) hk
theorem pool.e3 {a0 a1 a2 a3 a4 a5 : Value} {L : List It} {g o : Nat} {k : Value → Prop} {S : World → Prop} (hS : ∀ w, S w → Mayr L w) (hr : Rng L g o (poolC a0 a1 a2 a3 a4 a5))  (hk : k a3) : tk Tryz.prog S (Instr.loadAt T.sl_pool_item (.pointer (some ⟨g, o + 3, none⟩))) k := tk_of _ (fun w hw => load_one (by kernel_rfl) (range_cell ((hS w hw).rng hr) (get_of_drop (poolC_d3 )))) hk
theorem pool.s3 {a0 a1 a2 a3 a4 a5 : Value} {x : Value} {b : Base} {w : World} {L R : List It} {g : Nat} {k : Value → World → Prop} {tt : TypeId} (h : Sep b w L) (hm : Has L (blkI g tt (poolC a0 a1 a2 a3 a4 a5)) R)  (hv : x.cells = #[x] ∧ x.oneCell' = true) (hk : ∀ w', Sep b w' (blkI g tt (poolC a0 a1 a2 x a4 a5) :: R) → k undef w') :
    o1 Tryz.prog (Instr.fieldAt T.pool_Pool (.pointer (some ⟨g, 0, none⟩)) 3) w fun a w => o0 Tryz.prog (Instr.storeAt T.sl_pool_item a x) w k :=
  sp_s1 (off := 3) (by kernel_rfl) (by kernel_rfl) (by simp [poolC]) (by simp [poolC, List.set_append]) hv h hm hk
theorem pool.k4 {a0 a1 a2 a3 a4 a5 : Value} {L : List It} {g o : Nat} {k : Value → Prop} {S : World → Prop} (hS : ∀ w, S w → Mayr L w) (hr : Rng L g o (poolC a0 a1 a2 a3 a4 a5))  (hk : k a4) :
    tk Tryz.prog S (Instr.fieldAt T.pool_Pool (.pointer (some ⟨g, o, none⟩)) 4) fun t => tk Tryz.prog S (Instr.loadAt T.sl_api_Hash t) k :=
  tk_f1 (off := 4) (by kernel_rfl) (by kernel_rfl) (poolC_d4 ) hS hr hk
theorem pool.a4 {w : World} {g o : Nat} {k : Value → World → Prop} (hk : k (.pointer (some ⟨g, o + 4, none⟩)) w) : o1 Tryz.prog (Instr.fieldAt T.pool_Pool (.pointer (some ⟨g, o, none⟩)) 4) w k := st_of (fieldAt_run (by kernel_rfl) g o w) hk
theorem pool.c4 {g o : Nat} {k : Value → Prop} {S : World → Prop} (hk : k (.pointer (some ⟨g, o + 4, none⟩))) : tk Tryz.prog S (Instr.fieldAt T.pool_Pool (.pointer (some ⟨g, o, none⟩)) 4) k := tk_of _ (fun w _ => fieldAt_run (by kernel_rfl) g o w) hk
theorem pool.r4 {a0 a1 a2 a3 a4 a5 : Value} {b : Base} {w : World} {L : List It} {g o : Nat} {k : Value → World → Prop} (h : Sep b w L) (hr : Rng L g o (poolC a0 a1 a2 a3 a4 a5))  (hk : k a4 w) : o1 Tryz.prog (Instr.loadAt T.sl_api_Hash (.pointer (some ⟨g, o + 4, none⟩))) w k := st_of (load_one (by kernel_rfl) (range_cell (h.rng hr) (get_of_drop (poolC_d4 )))) hk
theorem pool.e4 {a0 a1 a2 a3 a4 a5 : Value} {L : List It} {g o : Nat} {k : Value → Prop} {S : World → Prop} (hS : ∀ w, S w → Mayr L w) (hr : Rng L g o (poolC a0 a1 a2 a3 a4 a5))  (hk : k a4) : tk Tryz.prog S (Instr.loadAt T.sl_api_Hash (.pointer (some ⟨g, o + 4, none⟩))) k := tk_of _ (fun w hw => load_one (by kernel_rfl) (range_cell ((hS w hw).rng hr) (get_of_drop (poolC_d4 )))) hk
theorem pool.s4 {a0 a1 a2 a3 a4 a5 : Value} {x : Value} {b : Base} {w : World} {L R : List It} {g : Nat} {k : Value → World → Prop} {tt : TypeId} (h : Sep b w L) (hm : Has L (blkI g tt (poolC a0 a1 a2 a3 a4 a5)) R)  (hv : x.cells = #[x] ∧ x.oneCell' = true) (hk : ∀ w', Sep b w' (blkI g tt (poolC a0 a1 a2 a3 x a5) :: R) → k undef w') :
    o1 Tryz.prog (Instr.fieldAt T.pool_Pool (.pointer (some ⟨g, 0, none⟩)) 4) w fun a w => o0 Tryz.prog (Instr.storeAt T.sl_api_Hash a x) w k :=
  sp_s1 (off := 4) (by kernel_rfl) (by kernel_rfl) (by simp [poolC]) (by simp [poolC, List.set_append]) hv h hm hk
theorem pool.k5 {a0 a1 a2 a3 a4 a5 : Value} {L : List It} {g o : Nat} {k : Value → Prop} {S : World → Prop} (hS : ∀ w, S w → Mayr L w) (hr : Rng L g o (poolC a0 a1 a2 a3 a4 a5))  (hk : k a5) :
    tk Tryz.prog S (Instr.fieldAt T.pool_Pool (.pointer (some ⟨g, o, none⟩)) 5) fun t => tk Tryz.prog S (Instr.loadAt T.int t) k :=
  tk_f1 (off := 5) (by kernel_rfl) (by kernel_rfl) (poolC_d5 ) hS hr hk
theorem pool.a5 {w : World} {g o : Nat} {k : Value → World → Prop} (hk : k (.pointer (some ⟨g, o + 5, none⟩)) w) : o1 Tryz.prog (Instr.fieldAt T.pool_Pool (.pointer (some ⟨g, o, none⟩)) 5) w k := st_of (fieldAt_run (by kernel_rfl) g o w) hk
theorem pool.c5 {g o : Nat} {k : Value → Prop} {S : World → Prop} (hk : k (.pointer (some ⟨g, o + 5, none⟩))) : tk Tryz.prog S (Instr.fieldAt T.pool_Pool (.pointer (some ⟨g, o, none⟩)) 5) k := tk_of _ (fun w _ => fieldAt_run (by kernel_rfl) g o w) hk
theorem pool.r5 {a0 a1 a2 a3 a4 a5 : Value} {b : Base} {w : World} {L : List It} {g o : Nat} {k : Value → World → Prop} (h : Sep b w L) (hr : Rng L g o (poolC a0 a1 a2 a3 a4 a5))  (hk : k a5 w) : o1 Tryz.prog (Instr.loadAt T.int (.pointer (some ⟨g, o + 5, none⟩))) w k := st_of (load_one (by kernel_rfl) (range_cell (h.rng hr) (get_of_drop (poolC_d5 )))) hk
theorem pool.e5 {a0 a1 a2 a3 a4 a5 : Value} {L : List It} {g o : Nat} {k : Value → Prop} {S : World → Prop} (hS : ∀ w, S w → Mayr L w) (hr : Rng L g o (poolC a0 a1 a2 a3 a4 a5))  (hk : k a5) : tk Tryz.prog S (Instr.loadAt T.int (.pointer (some ⟨g, o + 5, none⟩))) k := tk_of _ (fun w hw => load_one (by kernel_rfl) (range_cell ((hS w hw).rng hr) (get_of_drop (poolC_d5 )))) hk
theorem act8C_one {a0 a1 a2 a3 a4 : Value}  (o0 : a0.oneCell' = true) (o1 : a1.oneCell' = true) (o2 : a2.oneCell' = true) (o3 : a3.oneCell' = true) (o4 : a4.oneCell' = true) : ∀ u ∈ act8C a0 a1 a2 a3 a4, u.oneCell' = true := by
  intro u hu
  simp only [act8C, List.mem_cons, List.mem_append, List.not_mem_nil, or_false] at hu
  rcases hu with rfl | rfl | rfl | rfl | rfl
  · exact o0
  · exact o1
  · exact o2
  · exact o3
  · exact o4
theorem act8.a0 {w : World} {g o : Nat} {k : Value → World → Prop} (hk : k (.pointer (some ⟨g, o + 0, none⟩)) w) : o1 Tryz.prog (Instr.fieldAt T.isthmuslaw18_Act (.pointer (some ⟨g, o, none⟩)) 0) w k := st_of (fieldAt_run (by kernel_rfl) g o w) hk
theorem act8.c0 {g o : Nat} {k : Value → Prop} {S : World → Prop} (hk : k (.pointer (some ⟨g, o + 0, none⟩))) : tk Tryz.prog S (Instr.fieldAt T.isthmuslaw18_Act (.pointer (some ⟨g, o, none⟩)) 0) k := tk_of _ (fun w _ => fieldAt_run (by kernel_rfl) g o w) hk
theorem act8.r0 {a0 a1 a2 a3 a4 : Value} {b : Base} {w : World} {L : List It} {g o : Nat} {k : Value → World → Prop} (h : Sep b w L) (hr : Rng L g o (act8C a0 a1 a2 a3 a4))  (hk : k a0 w) : o1 Tryz.prog (Instr.loadAt T.int (.pointer (some ⟨g, o + 0, none⟩))) w k := st_of (load_one (by kernel_rfl) (range_cell (h.rng hr) (get_of_drop (act8C_d0 )))) hk
theorem act8.e0 {a0 a1 a2 a3 a4 : Value} {L : List It} {g o : Nat} {k : Value → Prop} {S : World → Prop} (hS : ∀ w, S w → Mayr L w) (hr : Rng L g o (act8C a0 a1 a2 a3 a4))  (hk : k a0) : tk Tryz.prog S (Instr.loadAt T.int (.pointer (some ⟨g, o + 0, none⟩))) k := tk_of _ (fun w hw => load_one (by kernel_rfl) (range_cell ((hS w hw).rng hr) (get_of_drop (act8C_d0 )))) hk
theorem act8.s0 {a0 a1 a2 a3 a4 : Value} {x : Value} {b : Base} {w : World} {L R : List It} {g : Nat} {k : Value → World → Prop} {tt : TypeId} (h : Sep b w L) (hm : Has L (blkI g tt (act8C a0 a1 a2 a3 a4)) R)  (hv : x.cells = #[x] ∧ x.oneCell' = true) (hk : ∀ w', Sep b w' (blkI g tt (act8C x a1 a2 a3 a4) :: R) → k undef w') :
    o1 Tryz.prog (Instr.fieldAt T.isthmuslaw18_Act (.pointer (some ⟨g, 0, none⟩)) 0) w fun a w => o0 Tryz.prog (Instr.storeAt T.int a x) w k :=
  sp_s1 (off := 0) (by kernel_rfl) (by kernel_rfl) (by simp [act8C]) (by simp [act8C, List.set_append]) hv h hm hk
theorem act8.k1 {a0 a1 a2 a3 a4 : Value} {L : List It} {g o : Nat} {k : Value → Prop} {S : World → Prop} (hS : ∀ w, S w → Mayr L w) (hr : Rng L g o (act8C a0 a1 a2 a3 a4))  (hk : k a1) :
    tk Tryz.prog S (Instr.fieldAt T.isthmuslaw18_Act (.pointer (some ⟨g, o, none⟩)) 1) fun t => tk Tryz.prog S (Instr.loadAt T.int t) k :=
  tk_f1 (off := 1) (by kernel_rfl) (by kernel_rfl) (act8C_d1 ) hS hr hk
theorem act8.a1 {w : World} {g o : Nat} {k : Value → World → Prop} (hk : k (.pointer (some ⟨g, o + 1, none⟩)) w) : o1 Tryz.prog (Instr.fieldAt T.isthmuslaw18_Act (.pointer (some ⟨g, o, none⟩)) 1) w k := st_of (fieldAt_run (by kernel_rfl) g o w) hk
theorem act8.c1 {g o : Nat} {k : Value → Prop} {S : World → Prop} (hk : k (.pointer (some ⟨g, o + 1, none⟩))) : tk Tryz.prog S (Instr.fieldAt T.isthmuslaw18_Act (.pointer (some ⟨g, o, none⟩)) 1) k := tk_of _ (fun w _ => fieldAt_run (by kernel_rfl) g o w) hk
theorem act8.r1 {a0 a1 a2 a3 a4 : Value} {b : Base} {w : World} {L : List It} {g o : Nat} {k : Value → World → Prop} (h : Sep b w L) (hr : Rng L g o (act8C a0 a1 a2 a3 a4))  (hk : k a1 w) : o1 Tryz.prog (Instr.loadAt T.int (.pointer (some ⟨g, o + 1, none⟩))) w k := st_of (load_one (by kernel_rfl) (range_cell (h.rng hr) (get_of_drop (act8C_d1 )))) hk
theorem act8.e1 {a0 a1 a2 a3 a4 : Value} {L : List It} {g o : Nat} {k : Value → Prop} {S : World → Prop} (hS : ∀ w, S w → Mayr L w) (hr : Rng L g o (act8C a0 a1 a2 a3 a4))  (hk : k a1) : tk Tryz.prog S (Instr.loadAt T.int (.pointer (some ⟨g, o + 1, none⟩))) k := tk_of _ (fun w hw => load_one (by kernel_rfl) (range_cell ((hS w hw).rng hr) (get_of_drop (act8C_d1 )))) hk
theorem act8.s1 {a0 a1 a2 a3 a4 : Value} {x : Value} {b : Base} {w : World} {L R : List It} {g : Nat} {k : Value → World → Prop} {tt : TypeId} (h : Sep b w L) (hm : Has L (blkI g tt (act8C a0 a1 a2 a3 a4)) R)  (hv : x.cells = #[x] ∧ x.oneCell' = true) (hk : ∀ w', Sep b w' (blkI g tt (act8C a0 x a2 a3 a4) :: R) → k undef w') :
    o1 Tryz.prog (Instr.fieldAt T.isthmuslaw18_Act (.pointer (some ⟨g, 0, none⟩)) 1) w fun a w => o0 Tryz.prog (Instr.storeAt T.int a x) w k :=
  sp_s1 (off := 1) (by kernel_rfl) (by kernel_rfl) (by simp [act8C]) (by simp [act8C, List.set_append]) hv h hm hk
theorem act8.k2 {a0 a1 a2 a3 a4 : Value} {L : List It} {g o : Nat} {k : Value → Prop} {S : World → Prop} (hS : ∀ w, S w → Mayr L w) (hr : Rng L g o (act8C a0 a1 a2 a3 a4))  (hk : k a2) :
    tk Tryz.prog S (Instr.fieldAt T.isthmuslaw18_Act (.pointer (some ⟨g, o, none⟩)) 2) fun t => tk Tryz.prog S (Instr.loadAt T.int t) k :=
  tk_f1 (off := 2) (by kernel_rfl) (by kernel_rfl) (act8C_d2 ) hS hr hk
theorem act8.a2 {w : World} {g o : Nat} {k : Value → World → Prop} (hk : k (.pointer (some ⟨g, o + 2, none⟩)) w) : o1 Tryz.prog (Instr.fieldAt T.isthmuslaw18_Act (.pointer (some ⟨g, o, none⟩)) 2) w k := st_of (fieldAt_run (by kernel_rfl) g o w) hk
theorem act8.c2 {g o : Nat} {k : Value → Prop} {S : World → Prop} (hk : k (.pointer (some ⟨g, o + 2, none⟩))) : tk Tryz.prog S (Instr.fieldAt T.isthmuslaw18_Act (.pointer (some ⟨g, o, none⟩)) 2) k := tk_of _ (fun w _ => fieldAt_run (by kernel_rfl) g o w) hk
theorem act8.r2 {a0 a1 a2 a3 a4 : Value} {b : Base} {w : World} {L : List It} {g o : Nat} {k : Value → World → Prop} (h : Sep b w L) (hr : Rng L g o (act8C a0 a1 a2 a3 a4))  (hk : k a2 w) : o1 Tryz.prog (Instr.loadAt T.int (.pointer (some ⟨g, o + 2, none⟩))) w k := st_of (load_one (by kernel_rfl) (range_cell (h.rng hr) (get_of_drop (act8C_d2 )))) hk
theorem act8.e2 {a0 a1 a2 a3 a4 : Value} {L : List It} {g o : Nat} {k : Value → Prop} {S : World → Prop} (hS : ∀ w, S w → Mayr L w) (hr : Rng L g o (act8C a0 a1 a2 a3 a4))  (hk : k a2) : tk Tryz.prog S (Instr.loadAt T.int (.pointer (some ⟨g, o + 2, none⟩))) k := tk_of _ (fun w hw => load_one (by kernel_rfl) (range_cell ((hS w hw).rng hr) (get_of_drop (act8C_d2 )))) hk
theorem act8.s2 {a0 a1 a2 a3 a4 : Value} {x : Value} {b : Base} {w : World} {L R : List It} {g : Nat} {k : Value → World → Prop} {tt : TypeId} (h : Sep b w L) (hm : Has L (blkI g tt (act8C a0 a1 a2 a3 a4)) R)  (hv : x.cells = #[x] ∧ x.oneCell' = true) (hk : ∀ w', Sep b w' (blkI g tt (act8C a0 a1 x a3 a4) :: R) → k undef w') :
    o1 Tryz.prog (Instr.fieldAt T.isthmuslaw18_Act (.pointer (some ⟨g, 0, none⟩)) 2) w fun a w => o0 Tryz.prog (Instr.storeAt T.int a x) w k :=
  sp_s1 (off := 2) (by kernel_rfl) (by kernel_rfl) (by simp [act8C]) (by simp [act8C, List.set_append]) hv h hm hk
theorem act8.k3 {a0 a1 a2 a3 a4 : Value} {L : List It} {g o : Nat} {k : Value → Prop} {S : World → Prop} (hS : ∀ w, S w → Mayr L w) (hr : Rng L g o (act8C a0 a1 a2 a3 a4))  (hk : k a3) :
    tk Tryz.prog S (Instr.fieldAt T.isthmuslaw18_Act (.pointer (some ⟨g, o, none⟩)) 3) fun t => tk Tryz.prog S (Instr.loadAt T.sl_uint8 t) k :=
  tk_f1 (off := 3) (by kernel_rfl) (by kernel_rfl) (act8C_d3 ) hS hr hk
theorem act8.a3 {w : World} {g o : Nat} {k : Value → World → Prop} (hk : k (.pointer (some ⟨g, o + 3, none⟩)) w) : o1 Tryz.prog (Instr.fieldAt T.isthmuslaw18_Act (.pointer (some ⟨g, o, none⟩)) 3) w k := st_of (fieldAt_run (by kernel_rfl) g o w) hk
theorem act8.c3 {g o : Nat} {k : Value → Prop} {S : World → Prop} (hk : k (.pointer (some ⟨g, o + 3, none⟩))) : tk Tryz.prog S (Instr.fieldAt T.isthmuslaw18_Act (.pointer (some ⟨g, o, none⟩)) 3) k := tk_of _ (fun w _ => fieldAt_run (by kernel_rfl) g o w) hk
theorem act8.r3 {a0 a1 a2 a3 a4 : Value} {b : Base} {w : World} {L : List It} {g o : Nat} {k : Value → World → Prop} (h : Sep b w L) (hr : Rng L g o (act8C a0 a1 a2 a3 a4))  (hk : k a3 w) : o1 Tryz.prog (Instr.loadAt T.sl_uint8 (.pointer (some ⟨g, o + 3, none⟩))) w k := st_of (load_one (by kernel_rfl) (range_cell (h.rng hr) (get_of_drop (act8C_d3 )))) hk
theorem act8.e3 {a0 a1 a2 a3 a4 : Value} {L : List It} {g o : Nat} {k : Value → Prop} {S : World → Prop} (hS : ∀ w, S w → Mayr L w) (hr : Rng L g o (act8C a0 a1 a2 a3 a4))  (hk : k a3) : tk Tryz.prog S (Instr.loadAt T.sl_uint8 (.pointer (some ⟨g, o + 3, none⟩))) k := tk_of _ (fun w hw => load_one (by kernel_rfl) (range_cell ((hS w hw).rng hr) (get_of_drop (act8C_d3 )))) hk
theorem act8.s3 {a0 a1 a2 a3 a4 : Value} {x : Value} {b : Base} {w : World} {L R : List It} {g : Nat} {k : Value → World → Prop} {tt : TypeId} (h : Sep b w L) (hm : Has L (blkI g tt (act8C a0 a1 a2 a3 a4)) R)  (hv : x.cells = #[x] ∧ x.oneCell' = true) (hk : ∀ w', Sep b w' (blkI g tt (act8C a0 a1 a2 x a4) :: R) → k undef w') :
    o1 Tryz.prog (Instr.fieldAt T.isthmuslaw18_Act (.pointer (some ⟨g, 0, none⟩)) 3) w fun a w => o0 Tryz.prog (Instr.storeAt T.sl_uint8 a x) w k :=
  sp_s1 (off := 3) (by kernel_rfl) (by kernel_rfl) (by simp [act8C]) (by simp [act8C, List.set_append]) hv h hm hk
theorem act8.k4 {a0 a1 a2 a3 a4 : Value} {L : List It} {g o : Nat} {k : Value → Prop} {S : World → Prop} (hS : ∀ w, S w → Mayr L w) (hr : Rng L g o (act8C a0 a1 a2 a3 a4))  (hk : k a4) :
    tk Tryz.prog S (Instr.fieldAt T.isthmuslaw18_Act (.pointer (some ⟨g, o, none⟩)) 4) fun t => tk Tryz.prog S (Instr.loadAt T.sl_sl_uint8 t) k :=
  tk_f1 (off := 4) (by kernel_rfl) (by kernel_rfl) (act8C_d4 ) hS hr hk
theorem act8.a4 {w : World} {g o : Nat} {k : Value → World → Prop} (hk : k (.pointer (some ⟨g, o + 4, none⟩)) w) : o1 Tryz.prog (Instr.fieldAt T.isthmuslaw18_Act (.pointer (some ⟨g, o, none⟩)) 4) w k := st_of (fieldAt_run (by kernel_rfl) g o w) hk
theorem act8.c4 {g o : Nat} {k : Value → Prop} {S : World → Prop} (hk : k (.pointer (some ⟨g, o + 4, none⟩))) : tk Tryz.prog S (Instr.fieldAt T.isthmuslaw18_Act (.pointer (some ⟨g, o, none⟩)) 4) k := tk_of _ (fun w _ => fieldAt_run (by kernel_rfl) g o w) hk
theorem act8.r4 {a0 a1 a2 a3 a4 : Value} {b : Base} {w : World} {L : List It} {g o : Nat} {k : Value → World → Prop} (h : Sep b w L) (hr : Rng L g o (act8C a0 a1 a2 a3 a4))  (hk : k a4 w) : o1 Tryz.prog (Instr.loadAt T.sl_sl_uint8 (.pointer (some ⟨g, o + 4, none⟩))) w k := st_of (load_one (by kernel_rfl) (range_cell (h.rng hr) (get_of_drop (act8C_d4 )))) hk
theorem act8.e4 {a0 a1 a2 a3 a4 : Value} {L : List It} {g o : Nat} {k : Value → Prop} {S : World → Prop} (hS : ∀ w, S w → Mayr L w) (hr : Rng L g o (act8C a0 a1 a2 a3 a4))  (hk : k a4) : tk Tryz.prog S (Instr.loadAt T.sl_sl_uint8 (.pointer (some ⟨g, o + 4, none⟩))) k := tk_of _ (fun w hw => load_one (by kernel_rfl) (range_cell ((hS w hw).rng hr) (get_of_drop (act8C_d4 )))) hk
theorem act8.s4 {a0 a1 a2 a3 a4 : Value} {x : Value} {b : Base} {w : World} {L R : List It} {g : Nat} {k : Value → World → Prop} {tt : TypeId} (h : Sep b w L) (hm : Has L (blkI g tt (act8C a0 a1 a2 a3 a4)) R)  (hv : x.cells = #[x] ∧ x.oneCell' = true) (hk : ∀ w', Sep b w' (blkI g tt (act8C a0 a1 a2 a3 x) :: R) → k undef w') :
    o1 Tryz.prog (Instr.fieldAt T.isthmuslaw18_Act (.pointer (some ⟨g, 0, none⟩)) 4) w fun a w => o0 Tryz.prog (Instr.storeAt T.sl_sl_uint8 a x) w k :=
  sp_s1 (off := 4) (by kernel_rfl) (by kernel_rfl) (by simp [act8C]) (by simp [act8C, List.set_append]) hv h hm hk
theorem size8.a0 {w : World} {g o : Nat} {k : Value → World → Prop} (hk : k (.pointer (some ⟨g, o + 0, none⟩)) w) : o1 Tryz.prog (Instr.fieldAt T.isthmuslaw18_Size (.pointer (some ⟨g, o, none⟩)) 0) w k := st_of (fieldAt_run (by kernel_rfl) g o w) hk
theorem size8.c0 {g o : Nat} {k : Value → Prop} {S : World → Prop} (hk : k (.pointer (some ⟨g, o + 0, none⟩))) : tk Tryz.prog S (Instr.fieldAt T.isthmuslaw18_Size (.pointer (some ⟨g, o, none⟩)) 0) k := tk_of _ (fun w _ => fieldAt_run (by kernel_rfl) g o w) hk
theorem size8.r0 {a0 a1 a2 : Value} {b : Base} {w : World} {L : List It} {g o : Nat} {k : Value → World → Prop} (h : Sep b w L) (hr : Rng L g o (size8C a0 a1 a2))  (hk : k a0 w) : o1 Tryz.prog (Instr.loadAt T.int (.pointer (some ⟨g, o + 0, none⟩))) w k := st_of (load_one (by kernel_rfl) (range_cell (h.rng hr) (get_of_drop (size8C_d0 )))) hk
theorem size8.e0 {a0 a1 a2 : Value} {L : List It} {g o : Nat} {k : Value → Prop} {S : World → Prop} (hS : ∀ w, S w → Mayr L w) (hr : Rng L g o (size8C a0 a1 a2))  (hk : k a0) : tk Tryz.prog S (Instr.loadAt T.int (.pointer (some ⟨g, o + 0, none⟩))) k := tk_of _ (fun w hw => load_one (by kernel_rfl) (range_cell ((hS w hw).rng hr) (get_of_drop (size8C_d0 )))) hk
theorem size8.s0 {a0 a1 a2 : Value} {x : Value} {b : Base} {w : World} {L R : List It} {g : Nat} {k : Value → World → Prop} {tt : TypeId} (h : Sep b w L) (hm : Has L (blkI g tt (size8C a0 a1 a2)) R)  (hv : x.cells = #[x] ∧ x.oneCell' = true) (hk : ∀ w', Sep b w' (blkI g tt (size8C x a1 a2) :: R) → k undef w') :
    o1 Tryz.prog (Instr.fieldAt T.isthmuslaw18_Size (.pointer (some ⟨g, 0, none⟩)) 0) w fun a w => o0 Tryz.prog (Instr.storeAt T.int a x) w k :=
  sp_s1 (off := 0) (by kernel_rfl) (by kernel_rfl) (by simp [size8C]) (by simp [size8C, List.set_append]) hv h hm hk
theorem size8.k1 {a0 a1 a2 : Value} {L : List It} {g o : Nat} {k : Value → Prop} {S : World → Prop} (hS : ∀ w, S w → Mayr L w) (hr : Rng L g o (size8C a0 a1 a2))  (hk : k a1) :
    tk Tryz.prog S (Instr.fieldAt T.isthmuslaw18_Size (.pointer (some ⟨g, o, none⟩)) 1) fun t => tk Tryz.prog S (Instr.loadAt T.int t) k :=
  tk_f1 (off := 1) (by kernel_rfl) (by kernel_rfl) (size8C_d1 ) hS hr hk
theorem size8.a1 {w : World} {g o : Nat} {k : Value → World → Prop} (hk : k (.pointer (some ⟨g, o + 1, none⟩)) w) : o1 Tryz.prog (Instr.fieldAt T.isthmuslaw18_Size (.pointer (some ⟨g, o, none⟩)) 1) w k := st_of (fieldAt_run (by kernel_rfl) g o w) hk
theorem size8.c1 {g o : Nat} {k : Value → Prop} {S : World → Prop} (hk : k (.pointer (some ⟨g, o + 1, none⟩))) : tk Tryz.prog S (Instr.fieldAt T.isthmuslaw18_Size (.pointer (some ⟨g, o, none⟩)) 1) k := tk_of _ (fun w _ => fieldAt_run (by kernel_rfl) g o w) hk
theorem size8.r1 {a0 a1 a2 : Value} {b : Base} {w : World} {L : List It} {g o : Nat} {k : Value → World → Prop} (h : Sep b w L) (hr : Rng L g o (size8C a0 a1 a2))  (hk : k a1 w) : o1 Tryz.prog (Instr.loadAt T.int (.pointer (some ⟨g, o + 1, none⟩))) w k := st_of (load_one (by kernel_rfl) (range_cell (h.rng hr) (get_of_drop (size8C_d1 )))) hk
theorem size8.e1 {a0 a1 a2 : Value} {L : List It} {g o : Nat} {k : Value → Prop} {S : World → Prop} (hS : ∀ w, S w → Mayr L w) (hr : Rng L g o (size8C a0 a1 a2))  (hk : k a1) : tk Tryz.prog S (Instr.loadAt T.int (.pointer (some ⟨g, o + 1, none⟩))) k := tk_of _ (fun w hw => load_one (by kernel_rfl) (range_cell ((hS w hw).rng hr) (get_of_drop (size8C_d1 )))) hk
theorem size8.s1 {a0 a1 a2 : Value} {x : Value} {b : Base} {w : World} {L R : List It} {g : Nat} {k : Value → World → Prop} {tt : TypeId} (h : Sep b w L) (hm : Has L (blkI g tt (size8C a0 a1 a2)) R)  (hv : x.cells = #[x] ∧ x.oneCell' = true) (hk : ∀ w', Sep b w' (blkI g tt (size8C a0 x a2) :: R) → k undef w') :
    o1 Tryz.prog (Instr.fieldAt T.isthmuslaw18_Size (.pointer (some ⟨g, 0, none⟩)) 1) w fun a w => o0 Tryz.prog (Instr.storeAt T.int a x) w k :=
  sp_s1 (off := 1) (by kernel_rfl) (by kernel_rfl) (by simp [size8C]) (by simp [size8C, List.set_append]) hv h hm hk
theorem size8.k2 {a0 a1 a2 : Value} {L : List It} {g o : Nat} {k : Value → Prop} {S : World → Prop} (hS : ∀ w, S w → Mayr L w) (hr : Rng L g o (size8C a0 a1 a2))  (hk : k a2) :
    tk Tryz.prog S (Instr.fieldAt T.isthmuslaw18_Size (.pointer (some ⟨g, o, none⟩)) 2) fun t => tk Tryz.prog S (Instr.loadAt T.int t) k :=
  tk_f1 (off := 2) (by kernel_rfl) (by kernel_rfl) (size8C_d2 ) hS hr hk
theorem size8.a2 {w : World} {g o : Nat} {k : Value → World → Prop} (hk : k (.pointer (some ⟨g, o + 2, none⟩)) w) : o1 Tryz.prog (Instr.fieldAt T.isthmuslaw18_Size (.pointer (some ⟨g, o, none⟩)) 2) w k := st_of (fieldAt_run (by kernel_rfl) g o w) hk
theorem size8.c2 {g o : Nat} {k : Value → Prop} {S : World → Prop} (hk : k (.pointer (some ⟨g, o + 2, none⟩))) : tk Tryz.prog S (Instr.fieldAt T.isthmuslaw18_Size (.pointer (some ⟨g, o, none⟩)) 2) k := tk_of _ (fun w _ => fieldAt_run (by kernel_rfl) g o w) hk
theorem size8.r2 {a0 a1 a2 : Value} {b : Base} {w : World} {L : List It} {g o : Nat} {k : Value → World → Prop} (h : Sep b w L) (hr : Rng L g o (size8C a0 a1 a2))  (hk : k a2 w) : o1 Tryz.prog (Instr.loadAt T.int (.pointer (some ⟨g, o + 2, none⟩))) w k := st_of (load_one (by kernel_rfl) (range_cell (h.rng hr) (get_of_drop (size8C_d2 )))) hk
theorem size8.e2 {a0 a1 a2 : Value} {L : List It} {g o : Nat} {k : Value → Prop} {S : World → Prop} (hS : ∀ w, S w → Mayr L w) (hr : Rng L g o (size8C a0 a1 a2))  (hk : k a2) : tk Tryz.prog S (Instr.loadAt T.int (.pointer (some ⟨g, o + 2, none⟩))) k := tk_of _ (fun w hw => load_one (by kernel_rfl) (range_cell ((hS w hw).rng hr) (get_of_drop (size8C_d2 )))) hk
theorem size8.s2 {a0 a1 a2 : Value} {x : Value} {b : Base} {w : World} {L R : List It} {g : Nat} {k : Value → World → Prop} {tt : TypeId} (h : Sep b w L) (hm : Has L (blkI g tt (size8C a0 a1 a2)) R)  (hv : x.cells = #[x] ∧ x.oneCell' = true) (hk : ∀ w', Sep b w' (blkI g tt (size8C a0 a1 x) :: R) → k undef w') :
    o1 Tryz.prog (Instr.fieldAt T.isthmuslaw18_Size (.pointer (some ⟨g, 0, none⟩)) 2) w fun a w => o0 Tryz.prog (Instr.storeAt T.int a x) w k :=
  sp_s1 (off := 2) (by kernel_rfl) (by kernel_rfl) (by simp [size8C]) (by simp [size8C, List.set_append]) hv h hm hk
end Go.Proofs.YtgagekffmamldaaGreatDoor
