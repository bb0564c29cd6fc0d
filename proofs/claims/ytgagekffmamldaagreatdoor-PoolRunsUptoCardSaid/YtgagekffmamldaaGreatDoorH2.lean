/- Structs as cells, and their fields: printed by structs.py. -/
import Derived.Test.YtgagekffmamldaaGreatDoorK6
import Derived.Test.YtgagekffmamldaaGreatDoorN
import Derived.Test.YtgagekffmamldaaGreatDoorKT
set_option linter.unusedVariables false
set_option linter.unusedSimpArgs false
set_option linter.unusedSectionVars false
namespace Go.Proofs.YtgagekffmamldaaGreatDoor
open Go Go.Isk Go.RowKit
/-- the cells of a T.isthmusref18_Pool -/
def rpoolC (a0 : Value) (a1 : Value) (a2 : Value) (a3 : Value) (a4 : Value) : List Value := a0 :: (a1 :: (a2 :: (a3 :: (a4 :: ([])))))
theorem rpoolC_d0 {a0 a1 a2 a3 a4 : Value}   : (rpoolC a0 a1 a2 a3 a4).drop 0 = a0 :: (a1 :: (a2 :: (a3 :: (a4 :: ([]))))) := rfl
theorem rpool.t0 {a0 a1 a2 a3 a4 : Value}   {g : Nat} {S : World → Prop} {k : Value → Prop} (hS : ∀ w, S w → Blk w g T.isthmusref18_Pool (rpoolC a0 a1 a2 a3 a4)) (hk : k a0) :
    tk Tryz.prog S (Instr.fieldAt T.isthmusref18_Pool (.pointer (some ⟨g, 0, none⟩)) 0) fun t => tk Tryz.prog S (Instr.loadAt T.int t) k :=
  tk_get1 (off := 0) (by kernel_rfl) (by kernel_rfl) (rpoolC_d0 ) hS hk
theorem rpoolC_d1 {a0 a1 a2 a3 a4 : Value}   : (rpoolC a0 a1 a2 a3 a4).drop 1 = a1 :: (a2 :: (a3 :: (a4 :: ([])))) := rfl
theorem rpool.t1 {a0 a1 a2 a3 a4 : Value}   {g : Nat} {S : World → Prop} {k : Value → Prop} (hS : ∀ w, S w → Blk w g T.isthmusref18_Pool (rpoolC a0 a1 a2 a3 a4)) (hk : k a1) :
    tk Tryz.prog S (Instr.fieldAt T.isthmusref18_Pool (.pointer (some ⟨g, 0, none⟩)) 1) fun t => tk Tryz.prog S (Instr.loadAt T.int t) k :=
  tk_get1 (off := 1) (by kernel_rfl) (by kernel_rfl) (rpoolC_d1 ) hS hk
theorem rpool.g1 {a0 a1 a2 a3 a4 : Value}   {g : Nat} {w : World} {k : Value → World → Prop} (hS : Blk w g T.isthmusref18_Pool (rpoolC a0 a1 a2 a3 a4)) (hk : k a1 w) :
    o1 Tryz.prog (Instr.fieldAt T.isthmusref18_Pool (.pointer (some ⟨g, 0, none⟩)) 1) w fun t w => o1 Tryz.prog (Instr.loadAt T.int t) w k :=
  o1_get1 (off := 1) (by kernel_rfl) (by kernel_rfl) (rpoolC_d1 ) hS hk
theorem rpoolC_d2 {a0 a1 a2 a3 a4 : Value}   : (rpoolC a0 a1 a2 a3 a4).drop 2 = a2 :: (a3 :: (a4 :: ([]))) := rfl
theorem rpool.t2 {a0 a1 a2 a3 a4 : Value}   {g : Nat} {S : World → Prop} {k : Value → Prop} (hS : ∀ w, S w → Blk w g T.isthmusref18_Pool (rpoolC a0 a1 a2 a3 a4)) (hk : k a2) :
    tk Tryz.prog S (Instr.fieldAt T.isthmusref18_Pool (.pointer (some ⟨g, 0, none⟩)) 2) fun t => tk Tryz.prog S (Instr.loadAt T.int t) k :=
  tk_get1 (off := 2) (by kernel_rfl) (by kernel_rfl) (rpoolC_d2 ) hS hk
theorem rpool.g2 {a0 a1 a2 a3 a4 : Value}   {g : Nat} {w : World} {k : Value → World → Prop} (hS : Blk w g T.isthmusref18_Pool (rpoolC a0 a1 a2 a3 a4)) (hk : k a2 w) :
    o1 Tryz.prog (Instr.fieldAt T.isthmusref18_Pool (.pointer (some ⟨g, 0, none⟩)) 2) w fun t w => o1 Tryz.prog (Instr.loadAt T.int t) w k :=
  o1_get1 (off := 2) (by kernel_rfl) (by kernel_rfl) (rpoolC_d2 ) hS hk
theorem rpoolC_d3 {a0 a1 a2 a3 a4 : Value}   : (rpoolC a0 a1 a2 a3 a4).drop 3 = a3 :: (a4 :: ([])) := rfl
theorem rpool.t3 {a0 a1 a2 a3 a4 : Value}   {g : Nat} {S : World → Prop} {k : Value → Prop} (hS : ∀ w, S w → Blk w g T.isthmusref18_Pool (rpoolC a0 a1 a2 a3 a4)) (hk : k a3) :
    tk Tryz.prog S (Instr.fieldAt T.isthmusref18_Pool (.pointer (some ⟨g, 0, none⟩)) 3) fun t => tk Tryz.prog S (Instr.loadAt T.sl_isthmusref18_Item t) k :=
  tk_get1 (off := 3) (by kernel_rfl) (by kernel_rfl) (rpoolC_d3 ) hS hk
theorem rpool.g3 {a0 a1 a2 a3 a4 : Value}   {g : Nat} {w : World} {k : Value → World → Prop} (hS : Blk w g T.isthmusref18_Pool (rpoolC a0 a1 a2 a3 a4)) (hk : k a3 w) :
    o1 Tryz.prog (Instr.fieldAt T.isthmusref18_Pool (.pointer (some ⟨g, 0, none⟩)) 3) w fun t w => o1 Tryz.prog (Instr.loadAt T.sl_isthmusref18_Item t) w k :=
  o1_get1 (off := 3) (by kernel_rfl) (by kernel_rfl) (rpoolC_d3 ) hS hk
theorem rpoolC_d4 {a0 a1 a2 a3 a4 : Value}   : (rpoolC a0 a1 a2 a3 a4).drop 4 = a4 :: ([]) := rfl
theorem rpool.t4 {a0 a1 a2 a3 a4 : Value}   {g : Nat} {S : World → Prop} {k : Value → Prop} (hS : ∀ w, S w → Blk w g T.isthmusref18_Pool (rpoolC a0 a1 a2 a3 a4)) (hk : k a4) :
    tk Tryz.prog S (Instr.fieldAt T.isthmusref18_Pool (.pointer (some ⟨g, 0, none⟩)) 4) fun t => tk Tryz.prog S (Instr.loadAt T.sl_api_Hash t) k :=
  tk_get1 (off := 4) (by kernel_rfl) (by kernel_rfl) (rpoolC_d4 ) hS hk
theorem rpool.g4 {a0 a1 a2 a3 a4 : Value}   {g : Nat} {w : World} {k : Value → World → Prop} (hS : Blk w g T.isthmusref18_Pool (rpoolC a0 a1 a2 a3 a4)) (hk : k a4 w) :
    o1 Tryz.prog (Instr.fieldAt T.isthmusref18_Pool (.pointer (some ⟨g, 0, none⟩)) 4) w fun t w => o1 Tryz.prog (Instr.loadAt T.sl_api_Hash t) w k :=
  o1_get1 (off := 4) (by kernel_rfl) (by kernel_rfl) (rpoolC_d4 ) hS hk
/-- the cells of a T.isthmusref18_Item -/
def ritemC (a0 : Value) (a1 : Value) : List Value := a0 :: (a1 :: ([]))
theorem ritemC_d0 {a0 a1 : Value}   : (ritemC a0 a1).drop 0 = a0 :: (a1 :: ([])) := rfl
theorem ritem.t0 {a0 a1 : Value}   {g : Nat} {S : World → Prop} {k : Value → Prop} (hS : ∀ w, S w → Blk w g T.isthmusref18_Item (ritemC a0 a1)) (hk : k a0) :
    tk Tryz.prog S (Instr.fieldAt T.isthmusref18_Item (.pointer (some ⟨g, 0, none⟩)) 0) fun t => tk Tryz.prog S (Instr.loadAt T.string t) k :=
  tk_get1 (off := 0) (by kernel_rfl) (by kernel_rfl) (ritemC_d0 ) hS hk
theorem ritemC_d1 {a0 a1 : Value}   : (ritemC a0 a1).drop 1 = a1 :: ([]) := rfl
theorem ritem.t1 {a0 a1 : Value}   {g : Nat} {S : World → Prop} {k : Value → Prop} (hS : ∀ w, S w → Blk w g T.isthmusref18_Item (ritemC a0 a1)) (hk : k a1) :
    tk Tryz.prog S (Instr.fieldAt T.isthmusref18_Item (.pointer (some ⟨g, 0, none⟩)) 1) fun t => tk Tryz.prog S (Instr.loadAt T.int t) k :=
  tk_get1 (off := 1) (by kernel_rfl) (by kernel_rfl) (ritemC_d1 ) hS hk
theorem ritem.g1 {a0 a1 : Value}   {g : Nat} {w : World} {k : Value → World → Prop} (hS : Blk w g T.isthmusref18_Item (ritemC a0 a1)) (hk : k a1 w) :
    o1 Tryz.prog (Instr.fieldAt T.isthmusref18_Item (.pointer (some ⟨g, 0, none⟩)) 1) w fun t w => o1 Tryz.prog (Instr.loadAt T.int t) w k :=
  o1_get1 (off := 1) (by kernel_rfl) (by kernel_rfl) (ritemC_d1 ) hS hk
end Go.Proofs.YtgagekffmamldaaGreatDoor
set_option linter.unusedVariables false
set_option linter.unusedSimpArgs false
set_option linter.unusedSectionVars false
namespace Go.Proofs.YtgagekffmamldaaGreatDoor
open Go Go.Isk Go.RowKit
theorem rpoolC_one {a0 a1 a2 a3 a4 : Value}  (o0 : a0.oneCell' = true) (o1 : a1.oneCell' = true) (o2 : a2.oneCell' = true) (o3 : a3.oneCell' = true) (o4 : a4.oneCell' = true) : ∀ u ∈ rpoolC a0 a1 a2 a3 a4, u.oneCell' = true := by
  intro u hu
  simp only [rpoolC, List.mem_cons, List.mem_append, List.not_mem_nil, or_false] at hu
  rcases hu with rfl | rfl | rfl | rfl | rfl
  · exact o0
  · exact o1
  · exact o2
  · exact o3
  · exact o4
theorem rpool.a0 {w : World} {g o : Nat} {k : Value → World → Prop} (hk : k (.pointer (some ⟨g, o + 0, none⟩)) w) : o1 Tryz.prog (Instr.fieldAt T.isthmusref18_Pool (.pointer (some ⟨g, o, none⟩)) 0) w k := st_of (fieldAt_run (by kernel_rfl) g o w) hk
theorem rpool.c0 {g o : Nat} {k : Value → Prop} {S : World → Prop} (hk : k (.pointer (some ⟨g, o + 0, none⟩))) : tk Tryz.prog S (Instr.fieldAt T.isthmusref18_Pool (.pointer (some ⟨g, o, none⟩)) 0) k := tk_of _ (fun w _ => fieldAt_run (by kernel_rfl) g o w) hk
theorem rpool.r0 {a0 a1 a2 a3 a4 : Value} {b : Base} {w : World} {L : List It} {g o : Nat} {k : Value → World → Prop} (h : Sep b w L) (hr : Rng L g o (rpoolC a0 a1 a2 a3 a4))  (hk : k a0 w) : o1 Tryz.prog (Instr.loadAt T.int (.pointer (some ⟨g, o + 0, none⟩))) w k := st_of (load_one (by kernel_rfl) (range_cell (h.rng hr) (get_of_drop (rpoolC_d0 )))) hk
theorem rpool.e0 {a0 a1 a2 a3 a4 : Value} {L : List It} {g o : Nat} {k : Value → Prop} {S : World → Prop} (hS : ∀ w, S w → Mayr L w) (hr : Rng L g o (rpoolC a0 a1 a2 a3 a4))  (hk : k a0) : tk Tryz.prog S (Instr.loadAt T.int (.pointer (some ⟨g, o + 0, none⟩))) k := tk_of _ (fun w hw => load_one (by kernel_rfl) (range_cell ((hS w hw).rng hr) (get_of_drop (rpoolC_d0 )))) hk
theorem rpool.s0 {a0 a1 a2 a3 a4 : Value} {x : Value} {b : Base} {w : World} {L R : List It} {g : Nat} {k : Value → World → Prop} {tt : TypeId} (h : Sep b w L) (hm : Has L (blkI g tt (rpoolC a0 a1 a2 a3 a4)) R)  (hv : x.cells = #[x] ∧ x.oneCell' = true) (hk : ∀ w', Sep b w' (blkI g tt (rpoolC x a1 a2 a3 a4) :: R) → k undef w') :
    o1 Tryz.prog (Instr.fieldAt T.isthmusref18_Pool (.pointer (some ⟨g, 0, none⟩)) 0) w fun a w => o0 Tryz.prog (Instr.storeAt T.int a x) w k :=
  sp_s1 (off := 0) (by kernel_rfl) (by kernel_rfl) (by simp [rpoolC]) (by simp [rpoolC, List.set_append]) hv h hm hk
theorem rpool.k1 {a0 a1 a2 a3 a4 : Value} {L : List It} {g o : Nat} {k : Value → Prop} {S : World → Prop} (hS : ∀ w, S w → Mayr L w) (hr : Rng L g o (rpoolC a0 a1 a2 a3 a4))  (hk : k a1) :
    tk Tryz.prog S (Instr.fieldAt T.isthmusref18_Pool (.pointer (some ⟨g, o, none⟩)) 1) fun t => tk Tryz.prog S (Instr.loadAt T.int t) k :=
  tk_f1 (off := 1) (by kernel_rfl) (by kernel_rfl) (rpoolC_d1 ) hS hr hk
theorem rpool.a1 {w : World} {g o : Nat} {k : Value → World → Prop} (hk : k (.pointer (some ⟨g, o + 1, none⟩)) w) : o1 Tryz.prog (Instr.fieldAt T.isthmusref18_Pool (.pointer (some ⟨g, o, none⟩)) 1) w k := st_of (fieldAt_run (by kernel_rfl) g o w) hk
theorem rpool.c1 {g o : Nat} {k : Value → Prop} {S : World → Prop} (hk : k (.pointer (some ⟨g, o + 1, none⟩))) : tk Tryz.prog S (Instr.fieldAt T.isthmusref18_Pool (.pointer (some ⟨g, o, none⟩)) 1) k := tk_of _ (fun w _ => fieldAt_run (by kernel_rfl) g o w) hk
theorem rpool.r1 {a0 a1 a2 a3 a4 : Value} {b : Base} {w : World} {L : List It} {g o : Nat} {k : Value → World → Prop} (h : Sep b w L) (hr : Rng L g o (rpoolC a0 a1 a2 a3 a4))  (hk : k a1 w) : o1 Tryz.prog (Instr.loadAt T.int (.pointer (some ⟨g, o + 1, none⟩))) w k := st_of (load_one (by kernel_rfl) (range_cell (h.rng hr) (get_of_drop (rpoolC_d1 )))) hk
theorem rpool.e1 {a0 a1 a2 a3 a4 : Value} {L : List It} {g o : Nat} {k : Value → Prop} {S : World → Prop} (hS : ∀ w, S w → Mayr L w) (hr : Rng L g o (rpoolC a0 a1 a2 a3 a4))  (hk : k a1) : tk Tryz.prog S (Instr.loadAt T.int (.pointer (some ⟨g, o + 1, none⟩))) k := tk_of _ (fun w hw => load_one (by kernel_rfl) (range_cell ((hS w hw).rng hr) (get_of_drop (rpoolC_d1 )))) hk
theorem rpool.s1 {a0 a1 a2 a3 a4 : Value} {x : Value} {b : Base} {w : World} {L R : List It} {g : Nat} {k : Value → World → Prop} {tt : TypeId} (h : Sep b w L) (hm : Has L (blkI g tt (rpoolC a0 a1 a2 a3 a4)) R)  (hv : x.cells = #[x] ∧ x.oneCell' = true) (hk : ∀ w', Sep b w' (blkI g tt (rpoolC a0 x a2 a3 a4) :: R) → k undef w') :
    o1 Tryz.prog (Instr.fieldAt T.isthmusref18_Pool (.pointer (some ⟨g, 0, none⟩)) 1) w fun a w => o0 Tryz.prog (Instr.storeAt T.int a x) w k :=
  sp_s1 (off := 1) (by kernel_rfl) (by kernel_rfl) (by simp [rpoolC]) (by simp [rpoolC, List.set_append]) hv h hm hk
theorem rpool.k2 {a0 a1 a2 a3 a4 : Value} {L : List It} {g o : Nat} {k : Value → Prop} {S : World → Prop} (hS : ∀ w, S w → Mayr L w) (hr : Rng L g o (rpoolC a0 a1 a2 a3 a4))  (hk : k a2) :
    tk Tryz.prog S (Instr.fieldAt T.isthmusref18_Pool (.pointer (some ⟨g, o, none⟩)) 2) fun t => tk Tryz.prog S (Instr.loadAt T.int t) k :=
  tk_f1 (off := 2) (by kernel_rfl) (by kernel_rfl) (rpoolC_d2 ) hS hr hk
theorem rpool.a2 {w : World} {g o : Nat} {k : Value → World → Prop} (hk : k (.pointer (some ⟨g, o + 2, none⟩)) w) : o1 Tryz.prog (Instr.fieldAt T.isthmusref18_Pool (.pointer (some ⟨g, o, none⟩)) 2) w k := st_of (fieldAt_run (by kernel_rfl) g o w) hk
theorem rpool.c2 {g o : Nat} {k : Value → Prop} {S : World → Prop} (hk : k (.pointer (some ⟨g, o + 2, none⟩))) : tk Tryz.prog S (Instr.fieldAt T.isthmusref18_Pool (.pointer (some ⟨g, o, none⟩)) 2) k := tk_of _ (fun w _ => fieldAt_run (by kernel_rfl) g o w) hk
theorem rpool.r2 {a0 a1 a2 a3 a4 : Value} {b : Base} {w : World} {L : List It} {g o : Nat} {k : Value → World → Prop} (h : Sep b w L) (hr : Rng L g o (rpoolC a0 a1 a2 a3 a4))  (hk : k a2 w) : o1 Tryz.prog (Instr.loadAt T.int (.pointer (some ⟨g, o + 2, none⟩))) w k := st_of (load_one (by kernel_rfl) (range_cell (h.rng hr) (get_of_drop (rpoolC_d2 )))) hk
theorem rpool.e2 {a0 a1 a2 a3 a4 : Value} {L : List It} {g o : Nat} {k : Value → Prop} {S : World → Prop} (hS : ∀ w, S w → Mayr L w) (hr : Rng L g o (rpoolC a0 a1 a2 a3 a4))  (hk : k a2) : tk Tryz.prog S (Instr.loadAt T.int (.pointer (some ⟨g, o + 2, none⟩))) k := tk_of _ (fun w hw => load_one (by kernel_rfl) (range_cell ((hS w hw).rng hr) (get_of_drop (rpoolC_d2 )))) hk
theorem rpool.s2 {a0 a1 a2 a3 a4 : Value} {x : Value} {b : Base} {w : World} {L R : List It} {g : Nat} {k : Value → World → Prop} {tt : TypeId} (h : Sep b w L) (hm : Has L (blkI g tt (rpoolC a0 a1 a2 a3 a4)) R)  (hv : x.cells = #[x] ∧ x.oneCell' = true) (hk : ∀ w', Sep b w' (blkI g tt (rpoolC a0 a1 x a3 a4) :: R) → k undef w') :
    o1 Tryz.prog (Instr.fieldAt T.isthmusref18_Pool (.pointer (some ⟨g, 0, none⟩)) 2) w fun a w => o0 Tryz.prog (Instr.storeAt T.int a x) w k :=
  sp_s1 (off := 2) (by kernel_rfl) (by kernel_rfl) (by simp [rpoolC]) (by simp [rpoolC, List.set_append]) hv h hm hk
theorem rpool.k3 {a0 a1 a2 a3 a4 : Value} {L : List It} {g o : Nat} {k : Value → Prop} {S : World → Prop} (hS : ∀ w, S w → Mayr L w) (hr : Rng L g o (rpoolC a0 a1 a2 a3 a4))  (hk : k a3) :
    tk Tryz.prog S (Instr.fieldAt T.isthmusref18_Pool (.pointer (some ⟨g, o, none⟩)) 3) fun t => tk Tryz.prog S (Instr.loadAt T.sl_isthmusref18_Item t) k :=
  tk_f1 (off := 3) (by kernel_rfl) (by kernel_rfl) (rpoolC_d3 ) hS hr hk
theorem rpool.a3 {w : World} {g o : Nat} {k : Value → World → Prop} (hk : k (.pointer (some ⟨g, o + 3, none⟩)) w) : o1 Tryz.prog (Instr.fieldAt T.isthmusref18_Pool (.pointer (some ⟨g, o, none⟩)) 3) w k := st_of (fieldAt_run (by kernel_rfl) g o w) hk
theorem rpool.c3 {g o : Nat} {k : Value → Prop} {S : World → Prop} (hk : k (.pointer (some ⟨g, o + 3, none⟩))) : tk Tryz.prog S (Instr.fieldAt T.isthmusref18_Pool (.pointer (some ⟨g, o, none⟩)) 3) k := tk_of _ (fun w _ => fieldAt_run (by kernel_rfl) g o w) hk
theorem rpool.r3 {a0 a1 a2 a3 a4 : Value} {b : Base} {w : World} {L : List It} {g o : Nat} {k : Value → World → Prop} (h : Sep b w L) (hr : Rng L g o (rpoolC a0 a1 a2 a3 a4))  (hk : k a3 w) : o1 Tryz.prog (Instr.loadAt T.sl_isthmusref18_Item (.pointer (some ⟨g, o + 3, none⟩))) w k := st_of (load_one (by kernel_rfl) (range_cell (h.rng hr) (get_of_drop (rpoolC_d3 )))) hk
theorem rpool.e3 {a0 a1 a2 a3 a4 : Value} {L : List It} {g o : Nat} {k : Value → Prop} {S : World → Prop} (hS : ∀ w, S w → Mayr L w) (hr : Rng L g o (rpoolC a0 a1 a2 a3 a4))  (hk : k a3) : tk Tryz.prog S (Instr.loadAt T.sl_isthmusref18_Item (.pointer (some ⟨g, o + 3, none⟩))) k := tk_of _ (fun w hw => load_one (by kernel_rfl) (range_cell ((hS w hw).rng hr) (get_of_drop (rpoolC_d3 )))) hk
theorem rpool.s3 {a0 a1 a2 a3 a4 : Value} {x : Value} {b : Base} {w : World} {L R : List It} {g : Nat} {k : Value → World → Prop} {tt : TypeId} (h : Sep b w L) (hm : Has L (blkI g tt (rpoolC a0 a1 a2 a3 a4)) R)  (hv : x.cells = #[x] ∧ x.oneCell' = true) (hk : ∀ w', Sep b w' (blkI g tt (rpoolC a0 a1 a2 x a4) :: R) → k undef w') :
    o1 Tryz.prog (Instr.fieldAt T.isthmusref18_Pool (.pointer (some ⟨g, 0, none⟩)) 3) w fun a w => o0 Tryz.prog (Instr.storeAt T.sl_isthmusref18_Item a x) w k :=
  sp_s1 (off := 3) (by kernel_rfl) (by kernel_rfl) (by simp [rpoolC]) (by simp [rpoolC, List.set_append]) hv h hm hk
theorem rpool.k4 {a0 a1 a2 a3 a4 : Value} {L : List It} {g o : Nat} {k : Value → Prop} {S : World → Prop} (hS : ∀ w, S w → Mayr L w) (hr : Rng L g o (rpoolC a0 a1 a2 a3 a4))  (hk : k a4) :
    tk Tryz.prog S (Instr.fieldAt T.isthmusref18_Pool (.pointer (some ⟨g, o, none⟩)) 4) fun t => tk Tryz.prog S (Instr.loadAt T.sl_api_Hash t) k :=
  tk_f1 (off := 4) (by kernel_rfl) (by kernel_rfl) (rpoolC_d4 ) hS hr hk
theorem rpool.a4 {w : World} {g o : Nat} {k : Value → World → Prop} (hk : k (.pointer (some ⟨g, o + 4, none⟩)) w) : o1 Tryz.prog (Instr.fieldAt T.isthmusref18_Pool (.pointer (some ⟨g, o, none⟩)) 4) w k := st_of (fieldAt_run (by kernel_rfl) g o w) hk
theorem rpool.c4 {g o : Nat} {k : Value → Prop} {S : World → Prop} (hk : k (.pointer (some ⟨g, o + 4, none⟩))) : tk Tryz.prog S (Instr.fieldAt T.isthmusref18_Pool (.pointer (some ⟨g, o, none⟩)) 4) k := tk_of _ (fun w _ => fieldAt_run (by kernel_rfl) g o w) hk
theorem rpool.r4 {a0 a1 a2 a3 a4 : Value} {b : Base} {w : World} {L : List It} {g o : Nat} {k : Value → World → Prop} (h : Sep b w L) (hr : Rng L g o (rpoolC a0 a1 a2 a3 a4))  (hk : k a4 w) : o1 Tryz.prog (Instr.loadAt T.sl_api_Hash (.pointer (some ⟨g, o + 4, none⟩))) w k := st_of (load_one (by kernel_rfl) (range_cell (h.rng hr) (get_of_drop (rpoolC_d4 )))) hk
theorem rpool.e4 {a0 a1 a2 a3 a4 : Value} {L : List It} {g o : Nat} {k : Value → Prop} {S : World → Prop} (hS : ∀ w, S w → Mayr L w) (hr : Rng L g o (rpoolC a0 a1 a2 a3 a4))  (hk : k a4) : tk Tryz.prog S (Instr.loadAt T.sl_api_Hash (.pointer (some ⟨g, o + 4, none⟩))) k := tk_of _ (fun w hw => load_one (by kernel_rfl) (range_cell ((hS w hw).rng hr) (get_of_drop (rpoolC_d4 )))) hk
theorem rpool.s4 {a0 a1 a2 a3 a4 : Value} {x : Value} {b : Base} {w : World} {L R : List It} {g : Nat} {k : Value → World → Prop} {tt : TypeId} (h : Sep b w L) (hm : Has L (blkI g tt (rpoolC a0 a1 a2 a3 a4)) R)  (hv : x.cells = #[x] ∧ x.oneCell' = true) (hk : ∀ w', Sep b w' (blkI g tt (rpoolC a0 a1 a2 a3 x) :: R) → k undef w') :
    o1 Tryz.prog (Instr.fieldAt T.isthmusref18_Pool (.pointer (some ⟨g, 0, none⟩)) 4) w fun a w => o0 Tryz.prog (Instr.storeAt T.sl_api_Hash a x) w k :=
  sp_s1 (off := 4) (by kernel_rfl) (by kernel_rfl) (by simp [rpoolC]) (by simp [rpoolC, List.set_append]) hv h hm hk
theorem ritemC_one {a0 a1 : Value}  (o0 : a0.oneCell' = true) (o1 : a1.oneCell' = true) : ∀ u ∈ ritemC a0 a1, u.oneCell' = true := by
  intro u hu
  simp only [ritemC, List.mem_cons, List.mem_append, List.not_mem_nil, or_false] at hu
  rcases hu with rfl | rfl
  · exact o0
  · exact o1
theorem ritem.a0 {w : World} {g o : Nat} {k : Value → World → Prop} (hk : k (.pointer (some ⟨g, o + 0, none⟩)) w) : o1 Tryz.prog (Instr.fieldAt T.isthmusref18_Item (.pointer (some ⟨g, o, none⟩)) 0) w k := st_of (fieldAt_run (by kernel_rfl) g o w) hk
theorem ritem.c0 {g o : Nat} {k : Value → Prop} {S : World → Prop} (hk : k (.pointer (some ⟨g, o + 0, none⟩))) : tk Tryz.prog S (Instr.fieldAt T.isthmusref18_Item (.pointer (some ⟨g, o, none⟩)) 0) k := tk_of _ (fun w _ => fieldAt_run (by kernel_rfl) g o w) hk
theorem ritem.r0 {a0 a1 : Value} {b : Base} {w : World} {L : List It} {g o : Nat} {k : Value → World → Prop} (h : Sep b w L) (hr : Rng L g o (ritemC a0 a1))  (hk : k a0 w) : o1 Tryz.prog (Instr.loadAt T.string (.pointer (some ⟨g, o + 0, none⟩))) w k := st_of (load_one (by kernel_rfl) (range_cell (h.rng hr) (get_of_drop (ritemC_d0 )))) hk
theorem ritem.e0 {a0 a1 : Value} {L : List It} {g o : Nat} {k : Value → Prop} {S : World → Prop} (hS : ∀ w, S w → Mayr L w) (hr : Rng L g o (ritemC a0 a1))  (hk : k a0) : tk Tryz.prog S (Instr.loadAt T.string (.pointer (some ⟨g, o + 0, none⟩))) k := tk_of _ (fun w hw => load_one (by kernel_rfl) (range_cell ((hS w hw).rng hr) (get_of_drop (ritemC_d0 )))) hk
theorem ritem.s0 {a0 a1 : Value} {x : Value} {b : Base} {w : World} {L R : List It} {g : Nat} {k : Value → World → Prop} {tt : TypeId} (h : Sep b w L) (hm : Has L (blkI g tt (ritemC a0 a1)) R)  (hv : x.cells = #[x] ∧ x.oneCell' = true) (hk : ∀ w', Sep b w' (blkI g tt (ritemC x a1) :: R) → k undef w') :
    o1 Tryz.prog (Instr.fieldAt T.isthmusref18_Item (.pointer (some ⟨g, 0, none⟩)) 0) w fun a w => o0 Tryz.prog (Instr.storeAt T.string a x) w k :=
  sp_s1 (off := 0) (by kernel_rfl) (by kernel_rfl) (by simp [ritemC]) (by simp [ritemC, List.set_append]) hv h hm hk
theorem ritem.k1 {a0 a1 : Value} {L : List It} {g o : Nat} {k : Value → Prop} {S : World → Prop} (hS : ∀ w, S w → Mayr L w) (hr : Rng L g o (ritemC a0 a1))  (hk : k a1) :
    tk Tryz.prog S (Instr.fieldAt T.isthmusref18_Item (.pointer (some ⟨g, o, none⟩)) 1) fun t => tk Tryz.prog S (Instr.loadAt T.int t) k :=
  tk_f1 (off := 1) (by kernel_rfl) (by kernel_rfl) (ritemC_d1 ) hS hr hk
theorem ritem.a1 {w : World} {g o : Nat} {k : Value → World → Prop} (hk : k (.pointer (some ⟨g, o + 1, none⟩)) w) : o1 Tryz.prog (Instr.fieldAt T.isthmusref18_Item (.pointer (some ⟨g, o, none⟩)) 1) w k := st_of (fieldAt_run (by kernel_rfl) g o w) hk
theorem ritem.c1 {g o : Nat} {k : Value → Prop} {S : World → Prop} (hk : k (.pointer (some ⟨g, o + 1, none⟩))) : tk Tryz.prog S (Instr.fieldAt T.isthmusref18_Item (.pointer (some ⟨g, o, none⟩)) 1) k := tk_of _ (fun w _ => fieldAt_run (by kernel_rfl) g o w) hk
theorem ritem.r1 {a0 a1 : Value} {b : Base} {w : World} {L : List It} {g o : Nat} {k : Value → World → Prop} (h : Sep b w L) (hr : Rng L g o (ritemC a0 a1))  (hk : k a1 w) : o1 Tryz.prog (Instr.loadAt T.int (.pointer (some ⟨g, o + 1, none⟩))) w k := st_of (load_one (by kernel_rfl) (range_cell (h.rng hr) (get_of_drop (ritemC_d1 )))) hk
theorem ritem.e1 {a0 a1 : Value} {L : List It} {g o : Nat} {k : Value → Prop} {S : World → Prop} (hS : ∀ w, S w → Mayr L w) (hr : Rng L g o (ritemC a0 a1))  (hk : k a1) : tk Tryz.prog S (Instr.loadAt T.int (.pointer (some ⟨g, o + 1, none⟩))) k := tk_of _ (fun w hw => load_one (by kernel_rfl) (range_cell ((hS w hw).rng hr) (get_of_drop (ritemC_d1 )))) hk
theorem ritem.s1 {a0 a1 : Value} {x : Value} {b : Base} {w : World} {L R : List It} {g : Nat} {k : Value → World → Prop} {tt : TypeId} (h : Sep b w L) (hm : Has L (blkI g tt (ritemC a0 a1)) R)  (hv : x.cells = #[x] ∧ x.oneCell' = true) (hk : ∀ w', Sep b w' (blkI g tt (ritemC a0 x) :: R) → k undef w') :
    o1 Tryz.prog (Instr.fieldAt T.isthmusref18_Item (.pointer (some ⟨g, 0, none⟩)) 1) w fun a w => o0 Tryz.prog (Instr.storeAt T.int a x) w k :=
  sp_s1 (off := 1) (by kernel_rfl) (by kernel_rfl) (by simp [ritemC]) (by simp [ritemC, List.set_append]) hv h hm hk
end Go.Proofs.YtgagekffmamldaaGreatDoor
