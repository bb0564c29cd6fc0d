/- Structs as cells, and their fields: printed by structs.py. -/
import Derived.Test.YtiaiglgfangedaaDoorK6
import Derived.Test.YtiaiglgfangedaaDoorN
import Derived.Test.YtiaiglgfangedaaDoorKT
set_option linter.unusedVariables false
set_option linter.unusedSimpArgs false
set_option linter.unusedSectionVars false
namespace Go.Proofs.YtiaiglgfangedaaDoor
open Go Go.Isk Go.RowKit
/-- the cells of a T.isthmusref04_FS -/
def rfsC (a0 : Value) (a1 : Value) (a2 : Value) (a3 : Value) (a4 : Value) : List Value := a0 :: (a1 :: (a2 :: (a3 :: (a4 :: ([])))))
theorem rfsC_d0 {a0 a1 a2 a3 a4 : Value}   : (rfsC a0 a1 a2 a3 a4).drop 0 = a0 :: (a1 :: (a2 :: (a3 :: (a4 :: ([]))))) := rfl
theorem rfs.t0 {a0 a1 a2 a3 a4 : Value}   {g : Nat} {S : World → Prop} {k : Value → Prop} (hS : ∀ w, S w → Blk w g T.isthmusref04_FS (rfsC a0 a1 a2 a3 a4)) (hk : k a0) :
    tk Tryd.prog S (Instr.fieldAt T.isthmusref04_FS (.pointer (some ⟨g, 0, none⟩)) 0) fun t => tk Tryd.prog S (Instr.loadAt T.sl_isthmusref04_File t) k :=
  tk_get1 (off := 0) (by kernel_rfl) (by kernel_rfl) (rfsC_d0 ) hS hk
theorem rfsC_d1 {a0 a1 a2 a3 a4 : Value}   : (rfsC a0 a1 a2 a3 a4).drop 1 = a1 :: (a2 :: (a3 :: (a4 :: ([])))) := rfl
theorem rfs.t1 {a0 a1 a2 a3 a4 : Value}   {g : Nat} {S : World → Prop} {k : Value → Prop} (hS : ∀ w, S w → Blk w g T.isthmusref04_FS (rfsC a0 a1 a2 a3 a4)) (hk : k a1) :
    tk Tryd.prog S (Instr.fieldAt T.isthmusref04_FS (.pointer (some ⟨g, 0, none⟩)) 1) fun t => tk Tryd.prog S (Instr.loadAt T.int t) k :=
  tk_get1 (off := 1) (by kernel_rfl) (by kernel_rfl) (rfsC_d1 ) hS hk
theorem rfs.g1 {a0 a1 a2 a3 a4 : Value}   {g : Nat} {w : World} {k : Value → World → Prop} (hS : Blk w g T.isthmusref04_FS (rfsC a0 a1 a2 a3 a4)) (hk : k a1 w) :
    o1 Tryd.prog (Instr.fieldAt T.isthmusref04_FS (.pointer (some ⟨g, 0, none⟩)) 1) w fun t w => o1 Tryd.prog (Instr.loadAt T.int t) w k :=
  o1_get1 (off := 1) (by kernel_rfl) (by kernel_rfl) (rfsC_d1 ) hS hk
theorem rfsC_d2 {a0 a1 a2 a3 a4 : Value}   : (rfsC a0 a1 a2 a3 a4).drop 2 = a2 :: (a3 :: (a4 :: ([]))) := rfl
theorem rfs.t2 {a0 a1 a2 a3 a4 : Value}   {g : Nat} {S : World → Prop} {k : Value → Prop} (hS : ∀ w, S w → Blk w g T.isthmusref04_FS (rfsC a0 a1 a2 a3 a4)) (hk : k a2) :
    tk Tryd.prog S (Instr.fieldAt T.isthmusref04_FS (.pointer (some ⟨g, 0, none⟩)) 2) fun t => tk Tryd.prog S (Instr.loadAt T.bool t) k :=
  tk_get1 (off := 2) (by kernel_rfl) (by kernel_rfl) (rfsC_d2 ) hS hk
theorem rfs.g2 {a0 a1 a2 a3 a4 : Value}   {g : Nat} {w : World} {k : Value → World → Prop} (hS : Blk w g T.isthmusref04_FS (rfsC a0 a1 a2 a3 a4)) (hk : k a2 w) :
    o1 Tryd.prog (Instr.fieldAt T.isthmusref04_FS (.pointer (some ⟨g, 0, none⟩)) 2) w fun t w => o1 Tryd.prog (Instr.loadAt T.bool t) w k :=
  o1_get1 (off := 2) (by kernel_rfl) (by kernel_rfl) (rfsC_d2 ) hS hk
theorem rfsC_d3 {a0 a1 a2 a3 a4 : Value}   : (rfsC a0 a1 a2 a3 a4).drop 3 = a3 :: (a4 :: ([])) := rfl
theorem rfs.t3 {a0 a1 a2 a3 a4 : Value}   {g : Nat} {S : World → Prop} {k : Value → Prop} (hS : ∀ w, S w → Blk w g T.isthmusref04_FS (rfsC a0 a1 a2 a3 a4)) (hk : k a3) :
    tk Tryd.prog S (Instr.fieldAt T.isthmusref04_FS (.pointer (some ⟨g, 0, none⟩)) 3) fun t => tk Tryd.prog S (Instr.loadAt T.int t) k :=
  tk_get1 (off := 3) (by kernel_rfl) (by kernel_rfl) (rfsC_d3 ) hS hk
theorem rfs.g3 {a0 a1 a2 a3 a4 : Value}   {g : Nat} {w : World} {k : Value → World → Prop} (hS : Blk w g T.isthmusref04_FS (rfsC a0 a1 a2 a3 a4)) (hk : k a3 w) :
    o1 Tryd.prog (Instr.fieldAt T.isthmusref04_FS (.pointer (some ⟨g, 0, none⟩)) 3) w fun t w => o1 Tryd.prog (Instr.loadAt T.int t) w k :=
  o1_get1 (off := 3) (by kernel_rfl) (by kernel_rfl) (rfsC_d3 ) hS hk
theorem rfsC_d4 {a0 a1 a2 a3 a4 : Value}   : (rfsC a0 a1 a2 a3 a4).drop 4 = a4 :: ([]) := rfl
theorem rfs.t4 {a0 a1 a2 a3 a4 : Value}   {g : Nat} {S : World → Prop} {k : Value → Prop} (hS : ∀ w, S w → Blk w g T.isthmusref04_FS (rfsC a0 a1 a2 a3 a4)) (hk : k a4) :
    tk Tryd.prog S (Instr.fieldAt T.isthmusref04_FS (.pointer (some ⟨g, 0, none⟩)) 4) fun t => tk Tryd.prog S (Instr.loadAt T.bool t) k :=
  tk_get1 (off := 4) (by kernel_rfl) (by kernel_rfl) (rfsC_d4 ) hS hk
theorem rfs.g4 {a0 a1 a2 a3 a4 : Value}   {g : Nat} {w : World} {k : Value → World → Prop} (hS : Blk w g T.isthmusref04_FS (rfsC a0 a1 a2 a3 a4)) (hk : k a4 w) :
    o1 Tryd.prog (Instr.fieldAt T.isthmusref04_FS (.pointer (some ⟨g, 0, none⟩)) 4) w fun t w => o1 Tryd.prog (Instr.loadAt T.bool t) w k :=
  o1_get1 (off := 4) (by kernel_rfl) (by kernel_rfl) (rfsC_d4 ) hS hk
/-- the cells of a T.isthmusref04_File -/
def rfileC (a0 : Value) (a1 : Value) (a2 : Value) : List Value := a0 :: (a1 :: (a2 :: ([])))
theorem rfileC_d0 {a0 a1 a2 : Value}   : (rfileC a0 a1 a2).drop 0 = a0 :: (a1 :: (a2 :: ([]))) := rfl
theorem rfile.t0 {a0 a1 a2 : Value}   {g : Nat} {S : World → Prop} {k : Value → Prop} (hS : ∀ w, S w → Blk w g T.isthmusref04_File (rfileC a0 a1 a2)) (hk : k a0) :
    tk Tryd.prog S (Instr.fieldAt T.isthmusref04_File (.pointer (some ⟨g, 0, none⟩)) 0) fun t => tk Tryd.prog S (Instr.loadAt T.string t) k :=
  tk_get1 (off := 0) (by kernel_rfl) (by kernel_rfl) (rfileC_d0 ) hS hk
theorem rfileC_d1 {a0 a1 a2 : Value}   : (rfileC a0 a1 a2).drop 1 = a1 :: (a2 :: ([])) := rfl
theorem rfile.t1 {a0 a1 a2 : Value}   {g : Nat} {S : World → Prop} {k : Value → Prop} (hS : ∀ w, S w → Blk w g T.isthmusref04_File (rfileC a0 a1 a2)) (hk : k a1) :
    tk Tryd.prog S (Instr.fieldAt T.isthmusref04_File (.pointer (some ⟨g, 0, none⟩)) 1) fun t => tk Tryd.prog S (Instr.loadAt T.string t) k :=
  tk_get1 (off := 1) (by kernel_rfl) (by kernel_rfl) (rfileC_d1 ) hS hk
theorem rfile.g1 {a0 a1 a2 : Value}   {g : Nat} {w : World} {k : Value → World → Prop} (hS : Blk w g T.isthmusref04_File (rfileC a0 a1 a2)) (hk : k a1 w) :
    o1 Tryd.prog (Instr.fieldAt T.isthmusref04_File (.pointer (some ⟨g, 0, none⟩)) 1) w fun t w => o1 Tryd.prog (Instr.loadAt T.string t) w k :=
  o1_get1 (off := 1) (by kernel_rfl) (by kernel_rfl) (rfileC_d1 ) hS hk
theorem rfileC_d2 {a0 a1 a2 : Value}   : (rfileC a0 a1 a2).drop 2 = a2 :: ([]) := rfl
theorem rfile.t2 {a0 a1 a2 : Value}   {g : Nat} {S : World → Prop} {k : Value → Prop} (hS : ∀ w, S w → Blk w g T.isthmusref04_File (rfileC a0 a1 a2)) (hk : k a2) :
    tk Tryd.prog S (Instr.fieldAt T.isthmusref04_File (.pointer (some ⟨g, 0, none⟩)) 2) fun t => tk Tryd.prog S (Instr.loadAt T.string t) k :=
  tk_get1 (off := 2) (by kernel_rfl) (by kernel_rfl) (rfileC_d2 ) hS hk
theorem rfile.g2 {a0 a1 a2 : Value}   {g : Nat} {w : World} {k : Value → World → Prop} (hS : Blk w g T.isthmusref04_File (rfileC a0 a1 a2)) (hk : k a2 w) :
    o1 Tryd.prog (Instr.fieldAt T.isthmusref04_File (.pointer (some ⟨g, 0, none⟩)) 2) w fun t w => o1 Tryd.prog (Instr.loadAt T.string t) w k :=
  o1_get1 (off := 2) (by kernel_rfl) (by kernel_rfl) (rfileC_d2 ) hS hk
end Go.Proofs.YtiaiglgfangedaaDoor
set_option linter.unusedVariables false
set_option linter.unusedSimpArgs false
set_option linter.unusedSectionVars false
namespace Go.Proofs.YtiaiglgfangedaaDoor
open Go Go.Isk Go.RowKit
theorem rfsC_one {a0 a1 a2 a3 a4 : Value}  (o0 : a0.oneCell' = true) (o1 : a1.oneCell' = true) (o2 : a2.oneCell' = true) (o3 : a3.oneCell' = true) (o4 : a4.oneCell' = true) : ∀ u ∈ rfsC a0 a1 a2 a3 a4, u.oneCell' = true := by
  intro u hu
  simp only [rfsC, List.mem_cons, List.mem_append, List.not_mem_nil, or_false] at hu
  rcases hu with rfl | rfl | rfl | rfl | rfl
  · exact o0
  · exact o1
  · exact o2
  · exact o3
  · exact o4
theorem rfs.a0 {w : World} {g o : Nat} {k : Value → World → Prop} (hk : k (.pointer (some ⟨g, o + 0, none⟩)) w) : o1 Tryd.prog (Instr.fieldAt T.isthmusref04_FS (.pointer (some ⟨g, o, none⟩)) 0) w k := st_of (fieldAt_run (by kernel_rfl) g o w) hk
theorem rfs.c0 {g o : Nat} {k : Value → Prop} {S : World → Prop} (hk : k (.pointer (some ⟨g, o + 0, none⟩))) : tk Tryd.prog S (Instr.fieldAt T.isthmusref04_FS (.pointer (some ⟨g, o, none⟩)) 0) k := tk_of _ (fun w _ => fieldAt_run (by kernel_rfl) g o w) hk
theorem rfs.r0 {a0 a1 a2 a3 a4 : Value} {b : Base} {w : World} {L : List It} {g o : Nat} {k : Value → World → Prop} (h : Sep b w L) (hr : Rng L g o (rfsC a0 a1 a2 a3 a4))  (hk : k a0 w) : o1 Tryd.prog (Instr.loadAt T.sl_isthmusref04_File (.pointer (some ⟨g, o + 0, none⟩))) w k := st_of (load_one (by kernel_rfl) (range_cell (h.rng hr) (get_of_drop (rfsC_d0 )))) hk
theorem rfs.e0 {a0 a1 a2 a3 a4 : Value} {L : List It} {g o : Nat} {k : Value → Prop} {S : World → Prop} (hS : ∀ w, S w → Mayr L w) (hr : Rng L g o (rfsC a0 a1 a2 a3 a4))  (hk : k a0) : tk Tryd.prog S (Instr.loadAt T.sl_isthmusref04_File (.pointer (some ⟨g, o + 0, none⟩))) k := tk_of _ (fun w hw => load_one (by kernel_rfl) (range_cell ((hS w hw).rng hr) (get_of_drop (rfsC_d0 )))) hk
theorem rfs.s0 {a0 a1 a2 a3 a4 : Value} {x : Value} {b : Base} {w : World} {L R : List It} {g : Nat} {k : Value → World → Prop} {tt : TypeId} (h : Sep b w L) (hm : Has L (blkI g tt (rfsC a0 a1 a2 a3 a4)) R)  (hv : x.cells = #[x] ∧ x.oneCell' = true) (hk : ∀ w', Sep b w' (blkI g tt (rfsC x a1 a2 a3 a4) :: R) → k undef w') :
    o1 Tryd.prog (Instr.fieldAt T.isthmusref04_FS (.pointer (some ⟨g, 0, none⟩)) 0) w fun a w => o0 Tryd.prog (Instr.storeAt T.sl_isthmusref04_File a x) w k :=
  sp_s1 (off := 0) (by kernel_rfl) (by kernel_rfl) (by simp [rfsC]) (by simp [rfsC, List.set_append]) hv h hm hk
theorem rfs.k1 {a0 a1 a2 a3 a4 : Value} {L : List It} {g o : Nat} {k : Value → Prop} {S : World → Prop} (hS : ∀ w, S w → Mayr L w) (hr : Rng L g o (rfsC a0 a1 a2 a3 a4))  (hk : k a1) :
    tk Tryd.prog S (Instr.fieldAt T.isthmusref04_FS (.pointer (some ⟨g, o, none⟩)) 1) fun t => tk Tryd.prog S (Instr.loadAt T.int t) k :=
  tk_f1 (off := 1) (by kernel_rfl) (by kernel_rfl) (rfsC_d1 ) hS hr hk
theorem rfs.a1 {w : World} {g o : Nat} {k : Value → World → Prop} (hk : k (.pointer (some ⟨g, o + 1, none⟩)) w) : o1 Tryd.prog (Instr.fieldAt T.isthmusref04_FS (.pointer (some ⟨g, o, none⟩)) 1) w k := st_of (fieldAt_run (by kernel_rfl) g o w) hk
theorem rfs.c1 {g o : Nat} {k : Value → Prop} {S : World → Prop} (hk : k (.pointer (some ⟨g, o + 1, none⟩))) : tk Tryd.prog S (Instr.fieldAt T.isthmusref04_FS (.pointer (some ⟨g, o, none⟩)) 1) k := tk_of _ (fun w _ => fieldAt_run (by kernel_rfl) g o w) hk
theorem rfs.r1 {a0 a1 a2 a3 a4 : Value} {b : Base} {w : World} {L : List It} {g o : Nat} {k : Value → World → Prop} (h : Sep b w L) (hr : Rng L g o (rfsC a0 a1 a2 a3 a4))  (hk : k a1 w) : o1 Tryd.prog (Instr.loadAt T.int (.pointer (some ⟨g, o + 1, none⟩))) w k := st_of (load_one (by kernel_rfl) (range_cell (h.rng hr) (get_of_drop (rfsC_d1 )))) hk
theorem rfs.e1 {a0 a1 a2 a3 a4 : Value} {L : List It} {g o : Nat} {k : Value → Prop} {S : World → Prop} (hS : ∀ w, S w → Mayr L w) (hr : Rng L g o (rfsC a0 a1 a2 a3 a4))  (hk : k a1) : tk Tryd.prog S (Instr.loadAt T.int (.pointer (some ⟨g, o + 1, none⟩))) k := tk_of _ (fun w hw => load_one (by kernel_rfl) (range_cell ((hS w hw).rng hr) (get_of_drop (rfsC_d1 )))) hk
theorem rfs.s1 {a0 a1 a2 a3 a4 : Value} {x : Value} {b : Base} {w : World} {L R : List It} {g : Nat} {k : Value → World → Prop} {tt : TypeId} (h : Sep b w L) (hm : Has L (blkI g tt (rfsC a0 a1 a2 a3 a4)) R)  (hv : x.cells = #[x] ∧ x.oneCell' = true) (hk : ∀ w', Sep b w' (blkI g tt (rfsC a0 x a2 a3 a4) :: R) → k undef w') :
    o1 Tryd.prog (Instr.fieldAt T.isthmusref04_FS (.pointer (some ⟨g, 0, none⟩)) 1) w fun a w => o0 Tryd.prog (Instr.storeAt T.int a x) w k :=
  sp_s1 (off := 1) (by kernel_rfl) (by kernel_rfl) (by simp [rfsC]) (by simp [rfsC, List.set_append]) hv h hm hk
theorem rfs.l2 {a0 a1 a2 a3 a4 : Value} {b : Base} {w : World} {L : List It} {g o : Nat} {k : Value → World → Prop} (h : Sep b w L) (hr : Rng L g o (rfsC a0 a1 a2 a3 a4))  (hk : k a2 w) :
    o1 Tryd.prog (Instr.fieldAt T.isthmusref04_FS (.pointer (some ⟨g, o, none⟩)) 2) w fun t w => o1 Tryd.prog (Instr.loadAt T.bool t) w k :=
  sp_f1 (off := 2) (by kernel_rfl) (by kernel_rfl) (rfsC_d2 ) h hr hk
theorem rfs.k2 {a0 a1 a2 a3 a4 : Value} {L : List It} {g o : Nat} {k : Value → Prop} {S : World → Prop} (hS : ∀ w, S w → Mayr L w) (hr : Rng L g o (rfsC a0 a1 a2 a3 a4))  (hk : k a2) :
    tk Tryd.prog S (Instr.fieldAt T.isthmusref04_FS (.pointer (some ⟨g, o, none⟩)) 2) fun t => tk Tryd.prog S (Instr.loadAt T.bool t) k :=
  tk_f1 (off := 2) (by kernel_rfl) (by kernel_rfl) (rfsC_d2 ) hS hr hk
theorem rfs.a2 {w : World} {g o : Nat} {k : Value → World → Prop} (hk : k (.pointer (some ⟨g, o + 2, none⟩)) w) : o1 Tryd.prog (Instr.fieldAt T.isthmusref04_FS (.pointer (some ⟨g, o, none⟩)) 2) w k := st_of (fieldAt_run (by kernel_rfl) g o w) hk
theorem rfs.c2 {g o : Nat} {k : Value → Prop} {S : World → Prop} (hk : k (.pointer (some ⟨g, o + 2, none⟩))) : tk Tryd.prog S (Instr.fieldAt T.isthmusref04_FS (.pointer (some ⟨g, o, none⟩)) 2) k := tk_of _ (fun w _ => fieldAt_run (by kernel_rfl) g o w) hk
theorem rfs.r2 {a0 a1 a2 a3 a4 : Value} {b : Base} {w : World} {L : List It} {g o : Nat} {k : Value → World → Prop} (h : Sep b w L) (hr : Rng L g o (rfsC a0 a1 a2 a3 a4))  (hk : k a2 w) : o1 Tryd.prog (Instr.loadAt T.bool (.pointer (some ⟨g, o + 2, none⟩))) w k := st_of (load_one (by kernel_rfl) (range_cell (h.rng hr) (get_of_drop (rfsC_d2 )))) hk
theorem rfs.e2 {a0 a1 a2 a3 a4 : Value} {L : List It} {g o : Nat} {k : Value → Prop} {S : World → Prop} (hS : ∀ w, S w → Mayr L w) (hr : Rng L g o (rfsC a0 a1 a2 a3 a4))  (hk : k a2) : tk Tryd.prog S (Instr.loadAt T.bool (.pointer (some ⟨g, o + 2, none⟩))) k := tk_of _ (fun w hw => load_one (by kernel_rfl) (range_cell ((hS w hw).rng hr) (get_of_drop (rfsC_d2 )))) hk
theorem rfs.s2 {a0 a1 a2 a3 a4 : Value} {x : Value} {b : Base} {w : World} {L R : List It} {g : Nat} {k : Value → World → Prop} {tt : TypeId} (h : Sep b w L) (hm : Has L (blkI g tt (rfsC a0 a1 a2 a3 a4)) R)  (hv : x.cells = #[x] ∧ x.oneCell' = true) (hk : ∀ w', Sep b w' (blkI g tt (rfsC a0 a1 x a3 a4) :: R) → k undef w') :
    o1 Tryd.prog (Instr.fieldAt T.isthmusref04_FS (.pointer (some ⟨g, 0, none⟩)) 2) w fun a w => o0 Tryd.prog (Instr.storeAt T.bool a x) w k :=
  sp_s1 (off := 2) (by kernel_rfl) (by kernel_rfl) (by simp [rfsC]) (by simp [rfsC, List.set_append]) hv h hm hk
theorem rfs.k3 {a0 a1 a2 a3 a4 : Value} {L : List It} {g o : Nat} {k : Value → Prop} {S : World → Prop} (hS : ∀ w, S w → Mayr L w) (hr : Rng L g o (rfsC a0 a1 a2 a3 a4))  (hk : k a3) :
    tk Tryd.prog S (Instr.fieldAt T.isthmusref04_FS (.pointer (some ⟨g, o, none⟩)) 3) fun t => tk Tryd.prog S (Instr.loadAt T.int t) k :=
  tk_f1 (off := 3) (by kernel_rfl) (by kernel_rfl) (rfsC_d3 ) hS hr hk
theorem rfs.a3 {w : World} {g o : Nat} {k : Value → World → Prop} (hk : k (.pointer (some ⟨g, o + 3, none⟩)) w) : o1 Tryd.prog (Instr.fieldAt T.isthmusref04_FS (.pointer (some ⟨g, o, none⟩)) 3) w k := st_of (fieldAt_run (by kernel_rfl) g o w) hk
theorem rfs.c3 {g o : Nat} {k : Value → Prop} {S : World → Prop} (hk : k (.pointer (some ⟨g, o + 3, none⟩))) : tk Tryd.prog S (Instr.fieldAt T.isthmusref04_FS (.pointer (some ⟨g, o, none⟩)) 3) k := tk_of _ (fun w _ => fieldAt_run (by kernel_rfl) g o w) hk
theorem rfs.r3 {a0 a1 a2 a3 a4 : Value} {b : Base} {w : World} {L : List It} {g o : Nat} {k : Value → World → Prop} (h : Sep b w L) (hr : Rng L g o (rfsC a0 a1 a2 a3 a4))  (hk : k a3 w) : o1 Tryd.prog (Instr.loadAt T.int (.pointer (some ⟨g, o + 3, none⟩))) w k := st_of (load_one (by kernel_rfl) (range_cell (h.rng hr) (get_of_drop (rfsC_d3 )))) hk
theorem rfs.e3 {a0 a1 a2 a3 a4 : Value} {L : List It} {g o : Nat} {k : Value → Prop} {S : World → Prop} (hS : ∀ w, S w → Mayr L w) (hr : Rng L g o (rfsC a0 a1 a2 a3 a4))  (hk : k a3) : tk Tryd.prog S (Instr.loadAt T.int (.pointer (some ⟨g, o + 3, none⟩))) k := tk_of _ (fun w hw => load_one (by kernel_rfl) (range_cell ((hS w hw).rng hr) (get_of_drop (rfsC_d3 )))) hk
theorem rfs.s3 {a0 a1 a2 a3 a4 : Value} {x : Value} {b : Base} {w : World} {L R : List It} {g : Nat} {k : Value → World → Prop} {tt : TypeId} (h : Sep b w L) (hm : Has L (blkI g tt (rfsC a0 a1 a2 a3 a4)) R)  (hv : x.cells = #[x] ∧ x.oneCell' = true) (hk : ∀ w', Sep b w' (blkI g tt (rfsC a0 a1 a2 x a4) :: R) → k undef w') :
    o1 Tryd.prog (Instr.fieldAt T.isthmusref04_FS (.pointer (some ⟨g, 0, none⟩)) 3) w fun a w => o0 Tryd.prog (Instr.storeAt T.int a x) w k :=
  sp_s1 (off := 3) (by kernel_rfl) (by kernel_rfl) (by simp [rfsC]) (by simp [rfsC, List.set_append]) hv h hm hk
theorem rfs.k4 {a0 a1 a2 a3 a4 : Value} {L : List It} {g o : Nat} {k : Value → Prop} {S : World → Prop} (hS : ∀ w, S w → Mayr L w) (hr : Rng L g o (rfsC a0 a1 a2 a3 a4))  (hk : k a4) :
    tk Tryd.prog S (Instr.fieldAt T.isthmusref04_FS (.pointer (some ⟨g, o, none⟩)) 4) fun t => tk Tryd.prog S (Instr.loadAt T.bool t) k :=
  tk_f1 (off := 4) (by kernel_rfl) (by kernel_rfl) (rfsC_d4 ) hS hr hk
theorem rfs.a4 {w : World} {g o : Nat} {k : Value → World → Prop} (hk : k (.pointer (some ⟨g, o + 4, none⟩)) w) : o1 Tryd.prog (Instr.fieldAt T.isthmusref04_FS (.pointer (some ⟨g, o, none⟩)) 4) w k := st_of (fieldAt_run (by kernel_rfl) g o w) hk
theorem rfs.c4 {g o : Nat} {k : Value → Prop} {S : World → Prop} (hk : k (.pointer (some ⟨g, o + 4, none⟩))) : tk Tryd.prog S (Instr.fieldAt T.isthmusref04_FS (.pointer (some ⟨g, o, none⟩)) 4) k := tk_of _ (fun w _ => fieldAt_run (by kernel_rfl) g o w) hk
theorem rfs.r4 {a0 a1 a2 a3 a4 : Value} {b : Base} {w : World} {L : List It} {g o : Nat} {k : Value → World → Prop} (h : Sep b w L) (hr : Rng L g o (rfsC a0 a1 a2 a3 a4))  (hk : k a4 w) : o1 Tryd.prog (Instr.loadAt T.bool (.pointer (some ⟨g, o + 4, none⟩))) w k := st_of (load_one (by kernel_rfl) (range_cell (h.rng hr) (get_of_drop (rfsC_d4 )))) hk
theorem rfs.e4 {a0 a1 a2 a3 a4 : Value} {L : List It} {g o : Nat} {k : Value → Prop} {S : World → Prop} (hS : ∀ w, S w → Mayr L w) (hr : Rng L g o (rfsC a0 a1 a2 a3 a4))  (hk : k a4) : tk Tryd.prog S (Instr.loadAt T.bool (.pointer (some ⟨g, o + 4, none⟩))) k := tk_of _ (fun w hw => load_one (by kernel_rfl) (range_cell ((hS w hw).rng hr) (get_of_drop (rfsC_d4 )))) hk
theorem rfs.s4 {a0 a1 a2 a3 a4 : Value} {x : Value} {b : Base} {w : World} {L R : List It} {g : Nat} {k : Value → World → Prop} {tt : TypeId} (h : Sep b w L) (hm : Has L (blkI g tt (rfsC a0 a1 a2 a3 a4)) R)  (hv : x.cells = #[x] ∧ x.oneCell' = true) (hk : ∀ w', Sep b w' (blkI g tt (rfsC a0 a1 a2 a3 x) :: R) → k undef w') :
    o1 Tryd.prog (Instr.fieldAt T.isthmusref04_FS (.pointer (some ⟨g, 0, none⟩)) 4) w fun a w => o0 Tryd.prog (Instr.storeAt T.bool a x) w k :=
  sp_s1 (off := 4) (by kernel_rfl) (by kernel_rfl) (by simp [rfsC]) (by simp [rfsC, List.set_append]) hv h hm hk
theorem rfileC_one {a0 a1 a2 : Value}  (o0 : a0.oneCell' = true) (o1 : a1.oneCell' = true) (o2 : a2.oneCell' = true) : ∀ u ∈ rfileC a0 a1 a2, u.oneCell' = true := by
  intro u hu
  simp only [rfileC, List.mem_cons, List.mem_append, List.not_mem_nil, or_false] at hu
  rcases hu with rfl | rfl | rfl
  · exact o0
  · exact o1
  · exact o2
theorem rfile.a0 {w : World} {g o : Nat} {k : Value → World → Prop} (hk : k (.pointer (some ⟨g, o + 0, none⟩)) w) : o1 Tryd.prog (Instr.fieldAt T.isthmusref04_File (.pointer (some ⟨g, o, none⟩)) 0) w k := st_of (fieldAt_run (by kernel_rfl) g o w) hk
theorem rfile.c0 {g o : Nat} {k : Value → Prop} {S : World → Prop} (hk : k (.pointer (some ⟨g, o + 0, none⟩))) : tk Tryd.prog S (Instr.fieldAt T.isthmusref04_File (.pointer (some ⟨g, o, none⟩)) 0) k := tk_of _ (fun w _ => fieldAt_run (by kernel_rfl) g o w) hk
theorem rfile.r0 {a0 a1 a2 : Value} {b : Base} {w : World} {L : List It} {g o : Nat} {k : Value → World → Prop} (h : Sep b w L) (hr : Rng L g o (rfileC a0 a1 a2))  (hk : k a0 w) : o1 Tryd.prog (Instr.loadAt T.string (.pointer (some ⟨g, o + 0, none⟩))) w k := st_of (load_one (by kernel_rfl) (range_cell (h.rng hr) (get_of_drop (rfileC_d0 )))) hk
theorem rfile.e0 {a0 a1 a2 : Value} {L : List It} {g o : Nat} {k : Value → Prop} {S : World → Prop} (hS : ∀ w, S w → Mayr L w) (hr : Rng L g o (rfileC a0 a1 a2))  (hk : k a0) : tk Tryd.prog S (Instr.loadAt T.string (.pointer (some ⟨g, o + 0, none⟩))) k := tk_of _ (fun w hw => load_one (by kernel_rfl) (range_cell ((hS w hw).rng hr) (get_of_drop (rfileC_d0 )))) hk
theorem rfile.s0 {a0 a1 a2 : Value} {x : Value} {b : Base} {w : World} {L R : List It} {g : Nat} {k : Value → World → Prop} {tt : TypeId} (h : Sep b w L) (hm : Has L (blkI g tt (rfileC a0 a1 a2)) R)  (hv : x.cells = #[x] ∧ x.oneCell' = true) (hk : ∀ w', Sep b w' (blkI g tt (rfileC x a1 a2) :: R) → k undef w') :
    o1 Tryd.prog (Instr.fieldAt T.isthmusref04_File (.pointer (some ⟨g, 0, none⟩)) 0) w fun a w => o0 Tryd.prog (Instr.storeAt T.string a x) w k :=
  sp_s1 (off := 0) (by kernel_rfl) (by kernel_rfl) (by simp [rfileC]) (by simp [rfileC, List.set_append]) hv h hm hk
theorem rfile.k1 {a0 a1 a2 : Value} {L : List It} {g o : Nat} {k : Value → Prop} {S : World → Prop} (hS : ∀ w, S w → Mayr L w) (hr : Rng L g o (rfileC a0 a1 a2))  (hk : k a1) :
    tk Tryd.prog S (Instr.fieldAt T.isthmusref04_File (.pointer (some ⟨g, o, none⟩)) 1) fun t => tk Tryd.prog S (Instr.loadAt T.string t) k :=
  tk_f1 (off := 1) (by kernel_rfl) (by kernel_rfl) (rfileC_d1 ) hS hr hk
theorem rfile.a1 {w : World} {g o : Nat} {k : Value → World → Prop} (hk : k (.pointer (some ⟨g, o + 1, none⟩)) w) : o1 Tryd.prog (Instr.fieldAt T.isthmusref04_File (.pointer (some ⟨g, o, none⟩)) 1) w k := st_of (fieldAt_run (by kernel_rfl) g o w) hk
theorem rfile.c1 {g o : Nat} {k : Value → Prop} {S : World → Prop} (hk : k (.pointer (some ⟨g, o + 1, none⟩))) : tk Tryd.prog S (Instr.fieldAt T.isthmusref04_File (.pointer (some ⟨g, o, none⟩)) 1) k := tk_of _ (fun w _ => fieldAt_run (by kernel_rfl) g o w) hk
theorem rfile.r1 {a0 a1 a2 : Value} {b : Base} {w : World} {L : List It} {g o : Nat} {k : Value → World → Prop} (h : Sep b w L) (hr : Rng L g o (rfileC a0 a1 a2))  (hk : k a1 w) : o1 Tryd.prog (Instr.loadAt T.string (.pointer (some ⟨g, o + 1, none⟩))) w k := st_of (load_one (by kernel_rfl) (range_cell (h.rng hr) (get_of_drop (rfileC_d1 )))) hk
theorem rfile.e1 {a0 a1 a2 : Value} {L : List It} {g o : Nat} {k : Value → Prop} {S : World → Prop} (hS : ∀ w, S w → Mayr L w) (hr : Rng L g o (rfileC a0 a1 a2))  (hk : k a1) : tk Tryd.prog S (Instr.loadAt T.string (.pointer (some ⟨g, o + 1, none⟩))) k := tk_of _ (fun w hw => load_one (by kernel_rfl) (range_cell ((hS w hw).rng hr) (get_of_drop (rfileC_d1 )))) hk
theorem rfile.s1 {a0 a1 a2 : Value} {x : Value} {b : Base} {w : World} {L R : List It} {g : Nat} {k : Value → World → Prop} {tt : TypeId} (h : Sep b w L) (hm : Has L (blkI g tt (rfileC a0 a1 a2)) R)  (hv : x.cells = #[x] ∧ x.oneCell' = true) (hk : ∀ w', Sep b w' (blkI g tt (rfileC a0 x a2) :: R) → k undef w') :
    o1 Tryd.prog (Instr.fieldAt T.isthmusref04_File (.pointer (some ⟨g, 0, none⟩)) 1) w fun a w => o0 Tryd.prog (Instr.storeAt T.string a x) w k :=
  sp_s1 (off := 1) (by kernel_rfl) (by kernel_rfl) (by simp [rfileC]) (by simp [rfileC, List.set_append]) hv h hm hk
theorem rfile.l2 {a0 a1 a2 : Value} {b : Base} {w : World} {L : List It} {g o : Nat} {k : Value → World → Prop} (h : Sep b w L) (hr : Rng L g o (rfileC a0 a1 a2))  (hk : k a2 w) :
    o1 Tryd.prog (Instr.fieldAt T.isthmusref04_File (.pointer (some ⟨g, o, none⟩)) 2) w fun t w => o1 Tryd.prog (Instr.loadAt T.string t) w k :=
  sp_f1 (off := 2) (by kernel_rfl) (by kernel_rfl) (rfileC_d2 ) h hr hk
theorem rfile.k2 {a0 a1 a2 : Value} {L : List It} {g o : Nat} {k : Value → Prop} {S : World → Prop} (hS : ∀ w, S w → Mayr L w) (hr : Rng L g o (rfileC a0 a1 a2))  (hk : k a2) :
    tk Tryd.prog S (Instr.fieldAt T.isthmusref04_File (.pointer (some ⟨g, o, none⟩)) 2) fun t => tk Tryd.prog S (Instr.loadAt T.string t) k :=
  tk_f1 (off := 2) (by kernel_rfl) (by kernel_rfl) (rfileC_d2 ) hS hr hk
theorem rfile.a2 {w : World} {g o : Nat} {k : Value → World → Prop} (hk : k (.pointer (some ⟨g, o + 2, none⟩)) w) : o1 Tryd.prog (Instr.fieldAt T.isthmusref04_File (.pointer (some ⟨g, o, none⟩)) 2) w k := st_of (fieldAt_run (by kernel_rfl) g o w) hk
theorem rfile.c2 {g o : Nat} {k : Value → Prop} {S : World → Prop} (hk : k (.pointer (some ⟨g, o + 2, none⟩))) : tk Tryd.prog S (Instr.fieldAt T.isthmusref04_File (.pointer (some ⟨g, o, none⟩)) 2) k := tk_of _ (fun w _ => fieldAt_run (by kernel_rfl) g o w) hk
theorem rfile.r2 {a0 a1 a2 : Value} {b : Base} {w : World} {L : List It} {g o : Nat} {k : Value → World → Prop} (h : Sep b w L) (hr : Rng L g o (rfileC a0 a1 a2))  (hk : k a2 w) : o1 Tryd.prog (Instr.loadAt T.string (.pointer (some ⟨g, o + 2, none⟩))) w k := st_of (load_one (by kernel_rfl) (range_cell (h.rng hr) (get_of_drop (rfileC_d2 )))) hk
theorem rfile.e2 {a0 a1 a2 : Value} {L : List It} {g o : Nat} {k : Value → Prop} {S : World → Prop} (hS : ∀ w, S w → Mayr L w) (hr : Rng L g o (rfileC a0 a1 a2))  (hk : k a2) : tk Tryd.prog S (Instr.loadAt T.string (.pointer (some ⟨g, o + 2, none⟩))) k := tk_of _ (fun w hw => load_one (by kernel_rfl) (range_cell ((hS w hw).rng hr) (get_of_drop (rfileC_d2 )))) hk
theorem rfile.s2 {a0 a1 a2 : Value} {x : Value} {b : Base} {w : World} {L R : List It} {g : Nat} {k : Value → World → Prop} {tt : TypeId} (h : Sep b w L) (hm : Has L (blkI g tt (rfileC a0 a1 a2)) R)  (hv : x.cells = #[x] ∧ x.oneCell' = true) (hk : ∀ w', Sep b w' (blkI g tt (rfileC a0 a1 x) :: R) → k undef w') :
    o1 Tryd.prog (Instr.fieldAt T.isthmusref04_File (.pointer (some ⟨g, 0, none⟩)) 2) w fun a w => o0 Tryd.prog (Instr.storeAt T.string a x) w k :=
  sp_s1 (off := 2) (by kernel_rfl) (by kernel_rfl) (by simp [rfileC]) (by simp [rfileC, List.set_append]) hv h hm hk
end Go.Proofs.YtiaiglgfangedaaDoor
