/- Structs as cells, and their fields: printed by structs.py. -/
import Derived.Test.YtlfelmikcdmkhaaGreatDoorKT
import Derived.Test.YtlfelmikcdmkhaaGreatDoorST
set_option linter.unusedVariables false
set_option linter.unusedSimpArgs false
set_option linter.unusedSectionVars false
namespace Go.Proofs.YtlfelmikcdmkhaaGreatDoor
open Go Go.Isk Go.RowKit
theorem voteC_one {a0 a1 a2 a4 a5 : Value} {a3 : List Value}  (o0 : a0.oneCell' = true) (o1 : a1.oneCell' = true) (o2 : a2.oneCell' = true) (o3 : ∀ u ∈ a3, u.oneCell' = true) (o4 : a4.oneCell' = true) (o5 : a5.oneCell' = true) : ∀ u ∈ voteC a0 a1 a2 a3 a4 a5, u.oneCell' = true := by
  intro u hu
  simp only [voteC, List.mem_cons, List.mem_append, List.not_mem_nil, or_false] at hu
  rcases hu with rfl | rfl | rfl | hu | rfl | rfl
  · exact o0
  · exact o1
  · exact o2
  · exact o3 u hu
  · exact o4
  · exact o5
theorem vote.l0 {a0 a1 a2 a4 a5 : Value} {a3 : List Value} {b : Base} {w : World} {L : List It} {g o : Nat} {k : Value → World → Prop} (h : Sep b w L) (hr : Rng L g o (voteC a0 a1 a2 a3 a4 a5))  (hk : k a0 w) :
    o1 Tryz.prog (Instr.fieldAt T.api_Vote (.pointer (some ⟨g, o, none⟩)) 0) w fun t w => o1 Tryz.prog (Instr.loadAt T.int t) w k :=
  sp_f1 (off := 0) (by kernel_rfl) (by kernel_rfl) (voteC_d0 ) h hr hk
theorem vote.k0 {a0 a1 a2 a4 a5 : Value} {a3 : List Value} {L : List It} {g o : Nat} {k : Value → Prop} {S : World → Prop} (hS : ∀ w, S w → Mayr L w) (hr : Rng L g o (voteC a0 a1 a2 a3 a4 a5))  (hk : k a0) :
    tk Tryz.prog S (Instr.fieldAt T.api_Vote (.pointer (some ⟨g, o, none⟩)) 0) fun t => tk Tryz.prog S (Instr.loadAt T.int t) k :=
  tk_f1 (off := 0) (by kernel_rfl) (by kernel_rfl) (voteC_d0 ) hS hr hk
theorem vote.a0 {w : World} {g o : Nat} {k : Value → World → Prop} (hk : k (.pointer (some ⟨g, o + 0, none⟩)) w) : o1 Tryz.prog (Instr.fieldAt T.api_Vote (.pointer (some ⟨g, o, none⟩)) 0) w k := st_of (fieldAt_run (by kernel_rfl) g o w) hk
theorem vote.c0 {g o : Nat} {k : Value → Prop} {S : World → Prop} (hk : k (.pointer (some ⟨g, o + 0, none⟩))) : tk Tryz.prog S (Instr.fieldAt T.api_Vote (.pointer (some ⟨g, o, none⟩)) 0) k := tk_of _ (fun w _ => fieldAt_run (by kernel_rfl) g o w) hk
theorem vote.r0 {a0 a1 a2 a4 a5 : Value} {a3 : List Value} {b : Base} {w : World} {L : List It} {g o : Nat} {k : Value → World → Prop} (h : Sep b w L) (hr : Rng L g o (voteC a0 a1 a2 a3 a4 a5))  (hk : k a0 w) : o1 Tryz.prog (Instr.loadAt T.int (.pointer (some ⟨g, o + 0, none⟩))) w k := st_of (load_one (by kernel_rfl) (range_cell (h.rng hr) (get_of_drop (voteC_d0 )))) hk
theorem vote.e0 {a0 a1 a2 a4 a5 : Value} {a3 : List Value} {L : List It} {g o : Nat} {k : Value → Prop} {S : World → Prop} (hS : ∀ w, S w → Mayr L w) (hr : Rng L g o (voteC a0 a1 a2 a3 a4 a5))  (hk : k a0) : tk Tryz.prog S (Instr.loadAt T.int (.pointer (some ⟨g, o + 0, none⟩))) k := tk_of _ (fun w hw => load_one (by kernel_rfl) (range_cell ((hS w hw).rng hr) (get_of_drop (voteC_d0 )))) hk
theorem vote.s0 {a0 a1 a2 a4 a5 : Value} {a3 : List Value} {x : Value} {b : Base} {w : World} {L R : List It} {g : Nat} {k : Value → World → Prop} {tt : TypeId} (h : Sep b w L) (hm : Has L (blkI g tt (voteC a0 a1 a2 a3 a4 a5)) R) (h3 : a3.length = 32) (hv : x.cells = #[x] ∧ x.oneCell' = true) (hk : ∀ w', Sep b w' (blkI g tt (voteC x a1 a2 a3 a4 a5) :: R) → k undef w') :
    o1 Tryz.prog (Instr.fieldAt T.api_Vote (.pointer (some ⟨g, 0, none⟩)) 0) w fun a w => o0 Tryz.prog (Instr.storeAt T.int a x) w k :=
  sp_s1 (off := 0) (by kernel_rfl) (by kernel_rfl) (by simp [voteC, h3]) (by simp [voteC, List.set_append, h3]) hv h hm hk
theorem vote.l1 {a0 a1 a2 a4 a5 : Value} {a3 : List Value} {b : Base} {w : World} {L : List It} {g o : Nat} {k : Value → World → Prop} (h : Sep b w L) (hr : Rng L g o (voteC a0 a1 a2 a3 a4 a5))  (hk : k a1 w) :
    o1 Tryz.prog (Instr.fieldAt T.api_Vote (.pointer (some ⟨g, o, none⟩)) 1) w fun t w => o1 Tryz.prog (Instr.loadAt T.int t) w k :=
  sp_f1 (off := 1) (by kernel_rfl) (by kernel_rfl) (voteC_d1 ) h hr hk
theorem vote.k1 {a0 a1 a2 a4 a5 : Value} {a3 : List Value} {L : List It} {g o : Nat} {k : Value → Prop} {S : World → Prop} (hS : ∀ w, S w → Mayr L w) (hr : Rng L g o (voteC a0 a1 a2 a3 a4 a5))  (hk : k a1) :
    tk Tryz.prog S (Instr.fieldAt T.api_Vote (.pointer (some ⟨g, o, none⟩)) 1) fun t => tk Tryz.prog S (Instr.loadAt T.int t) k :=
  tk_f1 (off := 1) (by kernel_rfl) (by kernel_rfl) (voteC_d1 ) hS hr hk
theorem vote.a1 {w : World} {g o : Nat} {k : Value → World → Prop} (hk : k (.pointer (some ⟨g, o + 1, none⟩)) w) : o1 Tryz.prog (Instr.fieldAt T.api_Vote (.pointer (some ⟨g, o, none⟩)) 1) w k := st_of (fieldAt_run (by kernel_rfl) g o w) hk
theorem vote.c1 {g o : Nat} {k : Value → Prop} {S : World → Prop} (hk : k (.pointer (some ⟨g, o + 1, none⟩))) : tk Tryz.prog S (Instr.fieldAt T.api_Vote (.pointer (some ⟨g, o, none⟩)) 1) k := tk_of _ (fun w _ => fieldAt_run (by kernel_rfl) g o w) hk
theorem vote.r1 {a0 a1 a2 a4 a5 : Value} {a3 : List Value} {b : Base} {w : World} {L : List It} {g o : Nat} {k : Value → World → Prop} (h : Sep b w L) (hr : Rng L g o (voteC a0 a1 a2 a3 a4 a5))  (hk : k a1 w) : o1 Tryz.prog (Instr.loadAt T.int (.pointer (some ⟨g, o + 1, none⟩))) w k := st_of (load_one (by kernel_rfl) (range_cell (h.rng hr) (get_of_drop (voteC_d1 )))) hk
theorem vote.e1 {a0 a1 a2 a4 a5 : Value} {a3 : List Value} {L : List It} {g o : Nat} {k : Value → Prop} {S : World → Prop} (hS : ∀ w, S w → Mayr L w) (hr : Rng L g o (voteC a0 a1 a2 a3 a4 a5))  (hk : k a1) : tk Tryz.prog S (Instr.loadAt T.int (.pointer (some ⟨g, o + 1, none⟩))) k := tk_of _ (fun w hw => load_one (by kernel_rfl) (range_cell ((hS w hw).rng hr) (get_of_drop (voteC_d1 )))) hk
theorem vote.s1 {a0 a1 a2 a4 a5 : Value} {a3 : List Value} {x : Value} {b : Base} {w : World} {L R : List It} {g : Nat} {k : Value → World → Prop} {tt : TypeId} (h : Sep b w L) (hm : Has L (blkI g tt (voteC a0 a1 a2 a3 a4 a5)) R) (h3 : a3.length = 32) (hv : x.cells = #[x] ∧ x.oneCell' = true) (hk : ∀ w', Sep b w' (blkI g tt (voteC a0 x a2 a3 a4 a5) :: R) → k undef w') :
    o1 Tryz.prog (Instr.fieldAt T.api_Vote (.pointer (some ⟨g, 0, none⟩)) 1) w fun a w => o0 Tryz.prog (Instr.storeAt T.int a x) w k :=
  sp_s1 (off := 1) (by kernel_rfl) (by kernel_rfl) (by simp [voteC, h3]) (by simp [voteC, List.set_append, h3]) hv h hm hk
theorem vote.l2 {a0 a1 a2 a4 a5 : Value} {a3 : List Value} {b : Base} {w : World} {L : List It} {g o : Nat} {k : Value → World → Prop} (h : Sep b w L) (hr : Rng L g o (voteC a0 a1 a2 a3 a4 a5))  (hk : k a2 w) :
    o1 Tryz.prog (Instr.fieldAt T.api_Vote (.pointer (some ⟨g, o, none⟩)) 2) w fun t w => o1 Tryz.prog (Instr.loadAt T.int t) w k :=
  sp_f1 (off := 2) (by kernel_rfl) (by kernel_rfl) (voteC_d2 ) h hr hk
theorem vote.k2 {a0 a1 a2 a4 a5 : Value} {a3 : List Value} {L : List It} {g o : Nat} {k : Value → Prop} {S : World → Prop} (hS : ∀ w, S w → Mayr L w) (hr : Rng L g o (voteC a0 a1 a2 a3 a4 a5))  (hk : k a2) :
    tk Tryz.prog S (Instr.fieldAt T.api_Vote (.pointer (some ⟨g, o, none⟩)) 2) fun t => tk Tryz.prog S (Instr.loadAt T.int t) k :=
  tk_f1 (off := 2) (by kernel_rfl) (by kernel_rfl) (voteC_d2 ) hS hr hk
theorem vote.a2 {w : World} {g o : Nat} {k : Value → World → Prop} (hk : k (.pointer (some ⟨g, o + 2, none⟩)) w) : o1 Tryz.prog (Instr.fieldAt T.api_Vote (.pointer (some ⟨g, o, none⟩)) 2) w k := st_of (fieldAt_run (by kernel_rfl) g o w) hk
theorem vote.c2 {g o : Nat} {k : Value → Prop} {S : World → Prop} (hk : k (.pointer (some ⟨g, o + 2, none⟩))) : tk Tryz.prog S (Instr.fieldAt T.api_Vote (.pointer (some ⟨g, o, none⟩)) 2) k := tk_of _ (fun w _ => fieldAt_run (by kernel_rfl) g o w) hk
theorem vote.r2 {a0 a1 a2 a4 a5 : Value} {a3 : List Value} {b : Base} {w : World} {L : List It} {g o : Nat} {k : Value → World → Prop} (h : Sep b w L) (hr : Rng L g o (voteC a0 a1 a2 a3 a4 a5))  (hk : k a2 w) : o1 Tryz.prog (Instr.loadAt T.int (.pointer (some ⟨g, o + 2, none⟩))) w k := st_of (load_one (by kernel_rfl) (range_cell (h.rng hr) (get_of_drop (voteC_d2 )))) hk
theorem vote.e2 {a0 a1 a2 a4 a5 : Value} {a3 : List Value} {L : List It} {g o : Nat} {k : Value → Prop} {S : World → Prop} (hS : ∀ w, S w → Mayr L w) (hr : Rng L g o (voteC a0 a1 a2 a3 a4 a5))  (hk : k a2) : tk Tryz.prog S (Instr.loadAt T.int (.pointer (some ⟨g, o + 2, none⟩))) k := tk_of _ (fun w hw => load_one (by kernel_rfl) (range_cell ((hS w hw).rng hr) (get_of_drop (voteC_d2 )))) hk
theorem vote.s2 {a0 a1 a2 a4 a5 : Value} {a3 : List Value} {x : Value} {b : Base} {w : World} {L R : List It} {g : Nat} {k : Value → World → Prop} {tt : TypeId} (h : Sep b w L) (hm : Has L (blkI g tt (voteC a0 a1 a2 a3 a4 a5)) R) (h3 : a3.length = 32) (hv : x.cells = #[x] ∧ x.oneCell' = true) (hk : ∀ w', Sep b w' (blkI g tt (voteC a0 a1 x a3 a4 a5) :: R) → k undef w') :
    o1 Tryz.prog (Instr.fieldAt T.api_Vote (.pointer (some ⟨g, 0, none⟩)) 2) w fun a w => o0 Tryz.prog (Instr.storeAt T.int a x) w k :=
  sp_s1 (off := 2) (by kernel_rfl) (by kernel_rfl) (by simp [voteC, h3]) (by simp [voteC, List.set_append, h3]) hv h hm hk
theorem vote.l3 {a0 a1 a2 a4 a5 : Value} {a3 : List Value} {b : Base} {w : World} {L : List It} {g o : Nat} {k : Value → World → Prop} (h : Sep b w L) (hr : Rng L g o (voteC a0 a1 a2 a3 a4 a5))  (h3 : a3.length = 32) (hk : k (.agg a3.toArray) w) :
    o1 Tryz.prog (Instr.fieldAt T.api_Vote (.pointer (some ⟨g, o, none⟩)) 3) w fun t w => o1 Tryz.prog (Instr.loadAt T.api_Hash t) w k :=
  sp_fn (off := 3) (by kernel_rfl) (by kernel_rfl) h3 (voteC_d3 ) h hr hk
theorem vote.k3 {a0 a1 a2 a4 a5 : Value} {a3 : List Value} {L : List It} {g o : Nat} {k : Value → Prop} {S : World → Prop} (hS : ∀ w, S w → Mayr L w) (hr : Rng L g o (voteC a0 a1 a2 a3 a4 a5))  (h3 : a3.length = 32) (hk : k (.agg a3.toArray)) :
    tk Tryz.prog S (Instr.fieldAt T.api_Vote (.pointer (some ⟨g, o, none⟩)) 3) fun t => tk Tryz.prog S (Instr.loadAt T.api_Hash t) k :=
  tk_fn (off := 3) (by kernel_rfl) (by kernel_rfl) h3 (voteC_d3 ) hS hr hk
theorem vote.a3 {w : World} {g o : Nat} {k : Value → World → Prop} (hk : k (.pointer (some ⟨g, o + 3, none⟩)) w) : o1 Tryz.prog (Instr.fieldAt T.api_Vote (.pointer (some ⟨g, o, none⟩)) 3) w k := st_of (fieldAt_run (by kernel_rfl) g o w) hk
theorem vote.c3 {g o : Nat} {k : Value → Prop} {S : World → Prop} (hk : k (.pointer (some ⟨g, o + 3, none⟩))) : tk Tryz.prog S (Instr.fieldAt T.api_Vote (.pointer (some ⟨g, o, none⟩)) 3) k := tk_of _ (fun w _ => fieldAt_run (by kernel_rfl) g o w) hk
theorem vote.r3 {a0 a1 a2 a4 a5 : Value} {a3 : List Value} {b : Base} {w : World} {L : List It} {g o : Nat} {k : Value → World → Prop} (h : Sep b w L) (hr : Rng L g o (voteC a0 a1 a2 a3 a4 a5))  (h3 : a3.length = 32) (hk : k (.agg a3.toArray) w) : o1 Tryz.prog (Instr.loadAt T.api_Hash (.pointer (some ⟨g, o + 3, none⟩))) w k := st_of (load_agg (by kernel_rfl) (range_sub (h.rng hr) 3 (sub_of_drop (voteC_d3 ))) (h3)) hk
theorem vote.e3 {a0 a1 a2 a4 a5 : Value} {a3 : List Value} {L : List It} {g o : Nat} {k : Value → Prop} {S : World → Prop} (hS : ∀ w, S w → Mayr L w) (hr : Rng L g o (voteC a0 a1 a2 a3 a4 a5))  (h3 : a3.length = 32) (hk : k (.agg a3.toArray)) : tk Tryz.prog S (Instr.loadAt T.api_Hash (.pointer (some ⟨g, o + 3, none⟩))) k := tk_of _ (fun w hw => load_agg (by kernel_rfl) (range_sub ((hS w hw).rng hr) 3 (sub_of_drop (voteC_d3 ))) (h3)) hk
theorem vote.s3 {a0 a1 a2 a4 a5 : Value} {a3 : List Value} {x : List Value} {b : Base} {w : World} {L R : List It} {g : Nat} {k : Value → World → Prop} {tt : TypeId} (h : Sep b w L) (hm : Has L (blkI g tt (voteC a0 a1 a2 a3 a4 a5)) R) (h3 : a3.length = 32) (hx : x.length = 32) (hv : ∀ u ∈ x, u.oneCell' = true) (hk : ∀ w', Sep b w' (blkI g tt (voteC a0 a1 a2 x a4 a5) :: R) → k undef w') :
    o1 Tryz.prog (Instr.fieldAt T.api_Vote (.pointer (some ⟨g, 0, none⟩)) 3) w fun a w => o0 Tryz.prog (Instr.storeAt T.api_Hash a (.agg x.toArray)) w k :=
  sp_sn (off := 3) (by kernel_rfl) (by kernel_rfl) hx (by simp [voteC, h3]) (by simp [voteC, List.take_append, List.drop_append, List.take_of_length_le, List.drop_of_length_le, h3, hx]) hv h hm hk
theorem vote.l4 {a0 a1 a2 a4 a5 : Value} {a3 : List Value} {b : Base} {w : World} {L : List It} {g o : Nat} {k : Value → World → Prop} (h : Sep b w L) (hr : Rng L g o (voteC a0 a1 a2 a3 a4 a5)) (h3 : a3.length = 32) (hk : k a4 w) :
    o1 Tryz.prog (Instr.fieldAt T.api_Vote (.pointer (some ⟨g, o, none⟩)) 4) w fun t w => o1 Tryz.prog (Instr.loadAt T.int t) w k :=
  sp_f1 (off := 35) (by kernel_rfl) (by kernel_rfl) (voteC_d4 h3) h hr hk
theorem vote.k4 {a0 a1 a2 a4 a5 : Value} {a3 : List Value} {L : List It} {g o : Nat} {k : Value → Prop} {S : World → Prop} (hS : ∀ w, S w → Mayr L w) (hr : Rng L g o (voteC a0 a1 a2 a3 a4 a5)) (h3 : a3.length = 32) (hk : k a4) :
    tk Tryz.prog S (Instr.fieldAt T.api_Vote (.pointer (some ⟨g, o, none⟩)) 4) fun t => tk Tryz.prog S (Instr.loadAt T.int t) k :=
  tk_f1 (off := 35) (by kernel_rfl) (by kernel_rfl) (voteC_d4 h3) hS hr hk
theorem vote.a4 {w : World} {g o : Nat} {k : Value → World → Prop} (hk : k (.pointer (some ⟨g, o + 35, none⟩)) w) : o1 Tryz.prog (Instr.fieldAt T.api_Vote (.pointer (some ⟨g, o, none⟩)) 4) w k := st_of (fieldAt_run (by kernel_rfl) g o w) hk
theorem vote.c4 {g o : Nat} {k : Value → Prop} {S : World → Prop} (hk : k (.pointer (some ⟨g, o + 35, none⟩))) : tk Tryz.prog S (Instr.fieldAt T.api_Vote (.pointer (some ⟨g, o, none⟩)) 4) k := tk_of _ (fun w _ => fieldAt_run (by kernel_rfl) g o w) hk
theorem vote.r4 {a0 a1 a2 a4 a5 : Value} {a3 : List Value} {b : Base} {w : World} {L : List It} {g o : Nat} {k : Value → World → Prop} (h : Sep b w L) (hr : Rng L g o (voteC a0 a1 a2 a3 a4 a5)) (h3 : a3.length = 32) (hk : k a4 w) : o1 Tryz.prog (Instr.loadAt T.int (.pointer (some ⟨g, o + 35, none⟩))) w k := st_of (load_one (by kernel_rfl) (range_cell (h.rng hr) (get_of_drop (voteC_d4 h3)))) hk
theorem vote.e4 {a0 a1 a2 a4 a5 : Value} {a3 : List Value} {L : List It} {g o : Nat} {k : Value → Prop} {S : World → Prop} (hS : ∀ w, S w → Mayr L w) (hr : Rng L g o (voteC a0 a1 a2 a3 a4 a5)) (h3 : a3.length = 32) (hk : k a4) : tk Tryz.prog S (Instr.loadAt T.int (.pointer (some ⟨g, o + 35, none⟩))) k := tk_of _ (fun w hw => load_one (by kernel_rfl) (range_cell ((hS w hw).rng hr) (get_of_drop (voteC_d4 h3)))) hk
theorem vote.s4 {a0 a1 a2 a4 a5 : Value} {a3 : List Value} {x : Value} {b : Base} {w : World} {L R : List It} {g : Nat} {k : Value → World → Prop} {tt : TypeId} (h : Sep b w L) (hm : Has L (blkI g tt (voteC a0 a1 a2 a3 a4 a5)) R) (h3 : a3.length = 32) (hv : x.cells = #[x] ∧ x.oneCell' = true) (hk : ∀ w', Sep b w' (blkI g tt (voteC a0 a1 a2 a3 x a5) :: R) → k undef w') :
    o1 Tryz.prog (Instr.fieldAt T.api_Vote (.pointer (some ⟨g, 0, none⟩)) 4) w fun a w => o0 Tryz.prog (Instr.storeAt T.int a x) w k :=
  sp_s1 (off := 35) (by kernel_rfl) (by kernel_rfl) (by simp [voteC, h3]) (by simp [voteC, List.set_append, h3]) hv h hm hk
theorem vote.l5 {a0 a1 a2 a4 a5 : Value} {a3 : List Value} {b : Base} {w : World} {L : List It} {g o : Nat} {k : Value → World → Prop} (h : Sep b w L) (hr : Rng L g o (voteC a0 a1 a2 a3 a4 a5)) (h3 : a3.length = 32) (hk : k a5 w) :
    o1 Tryz.prog (Instr.fieldAt T.api_Vote (.pointer (some ⟨g, o, none⟩)) 5) w fun t w => o1 Tryz.prog (Instr.loadAt T.sl_uint8 t) w k :=
  sp_f1 (off := 36) (by kernel_rfl) (by kernel_rfl) (voteC_d5 h3) h hr hk
theorem vote.k5 {a0 a1 a2 a4 a5 : Value} {a3 : List Value} {L : List It} {g o : Nat} {k : Value → Prop} {S : World → Prop} (hS : ∀ w, S w → Mayr L w) (hr : Rng L g o (voteC a0 a1 a2 a3 a4 a5)) (h3 : a3.length = 32) (hk : k a5) :
    tk Tryz.prog S (Instr.fieldAt T.api_Vote (.pointer (some ⟨g, o, none⟩)) 5) fun t => tk Tryz.prog S (Instr.loadAt T.sl_uint8 t) k :=
  tk_f1 (off := 36) (by kernel_rfl) (by kernel_rfl) (voteC_d5 h3) hS hr hk
theorem vote.a5 {w : World} {g o : Nat} {k : Value → World → Prop} (hk : k (.pointer (some ⟨g, o + 36, none⟩)) w) : o1 Tryz.prog (Instr.fieldAt T.api_Vote (.pointer (some ⟨g, o, none⟩)) 5) w k := st_of (fieldAt_run (by kernel_rfl) g o w) hk
theorem vote.c5 {g o : Nat} {k : Value → Prop} {S : World → Prop} (hk : k (.pointer (some ⟨g, o + 36, none⟩))) : tk Tryz.prog S (Instr.fieldAt T.api_Vote (.pointer (some ⟨g, o, none⟩)) 5) k := tk_of _ (fun w _ => fieldAt_run (by kernel_rfl) g o w) hk
theorem vote.r5 {a0 a1 a2 a4 a5 : Value} {a3 : List Value} {b : Base} {w : World} {L : List It} {g o : Nat} {k : Value → World → Prop} (h : Sep b w L) (hr : Rng L g o (voteC a0 a1 a2 a3 a4 a5)) (h3 : a3.length = 32) (hk : k a5 w) : o1 Tryz.prog (Instr.loadAt T.sl_uint8 (.pointer (some ⟨g, o + 36, none⟩))) w k := st_of (load_one (by kernel_rfl) (range_cell (h.rng hr) (get_of_drop (voteC_d5 h3)))) hk
theorem vote.e5 {a0 a1 a2 a4 a5 : Value} {a3 : List Value} {L : List It} {g o : Nat} {k : Value → Prop} {S : World → Prop} (hS : ∀ w, S w → Mayr L w) (hr : Rng L g o (voteC a0 a1 a2 a3 a4 a5)) (h3 : a3.length = 32) (hk : k a5) : tk Tryz.prog S (Instr.loadAt T.sl_uint8 (.pointer (some ⟨g, o + 36, none⟩))) k := tk_of _ (fun w hw => load_one (by kernel_rfl) (range_cell ((hS w hw).rng hr) (get_of_drop (voteC_d5 h3)))) hk
theorem vote.s5 {a0 a1 a2 a4 a5 : Value} {a3 : List Value} {x : Value} {b : Base} {w : World} {L R : List It} {g : Nat} {k : Value → World → Prop} {tt : TypeId} (h : Sep b w L) (hm : Has L (blkI g tt (voteC a0 a1 a2 a3 a4 a5)) R) (h3 : a3.length = 32) (hv : x.cells = #[x] ∧ x.oneCell' = true) (hk : ∀ w', Sep b w' (blkI g tt (voteC a0 a1 a2 a3 a4 x) :: R) → k undef w') :
    o1 Tryz.prog (Instr.fieldAt T.api_Vote (.pointer (some ⟨g, 0, none⟩)) 5) w fun a w => o0 Tryz.prog (Instr.storeAt T.sl_uint8 a x) w k :=
  sp_s1 (off := 36) (by kernel_rfl) (by kernel_rfl) (by simp [voteC, h3]) (by simp [voteC, List.set_append, h3]) hv h hm hk
theorem commC_one {a0 a1 a3 : Value} {a2 : List Value}  (o0 : a0.oneCell' = true) (o1 : a1.oneCell' = true) (o2 : ∀ u ∈ a2, u.oneCell' = true) (o3 : a3.oneCell' = true) : ∀ u ∈ commC a0 a1 a2 a3, u.oneCell' = true := by
  intro u hu
  simp only [commC, List.mem_cons, List.mem_append, List.not_mem_nil, or_false] at hu
  rcases hu with rfl | rfl | hu | rfl
  · exact o0
  · exact o1
  · exact o2 u hu
  · exact o3
theorem comm.l0 {a0 a1 a3 : Value} {a2 : List Value} {b : Base} {w : World} {L : List It} {g o : Nat} {k : Value → World → Prop} (h : Sep b w L) (hr : Rng L g o (commC a0 a1 a2 a3))  (hk : k a0 w) :
    o1 Tryz.prog (Instr.fieldAt T.api_Commit (.pointer (some ⟨g, o, none⟩)) 0) w fun t w => o1 Tryz.prog (Instr.loadAt T.int t) w k :=
  sp_f1 (off := 0) (by kernel_rfl) (by kernel_rfl) (commC_d0 ) h hr hk
theorem comm.k0 {a0 a1 a3 : Value} {a2 : List Value} {L : List It} {g o : Nat} {k : Value → Prop} {S : World → Prop} (hS : ∀ w, S w → Mayr L w) (hr : Rng L g o (commC a0 a1 a2 a3))  (hk : k a0) :
    tk Tryz.prog S (Instr.fieldAt T.api_Commit (.pointer (some ⟨g, o, none⟩)) 0) fun t => tk Tryz.prog S (Instr.loadAt T.int t) k :=
  tk_f1 (off := 0) (by kernel_rfl) (by kernel_rfl) (commC_d0 ) hS hr hk
theorem comm.a0 {w : World} {g o : Nat} {k : Value → World → Prop} (hk : k (.pointer (some ⟨g, o + 0, none⟩)) w) : o1 Tryz.prog (Instr.fieldAt T.api_Commit (.pointer (some ⟨g, o, none⟩)) 0) w k := st_of (fieldAt_run (by kernel_rfl) g o w) hk
theorem comm.c0 {g o : Nat} {k : Value → Prop} {S : World → Prop} (hk : k (.pointer (some ⟨g, o + 0, none⟩))) : tk Tryz.prog S (Instr.fieldAt T.api_Commit (.pointer (some ⟨g, o, none⟩)) 0) k := tk_of _ (fun w _ => fieldAt_run (by kernel_rfl) g o w) hk
theorem comm.r0 {a0 a1 a3 : Value} {a2 : List Value} {b : Base} {w : World} {L : List It} {g o : Nat} {k : Value → World → Prop} (h : Sep b w L) (hr : Rng L g o (commC a0 a1 a2 a3))  (hk : k a0 w) : o1 Tryz.prog (Instr.loadAt T.int (.pointer (some ⟨g, o + 0, none⟩))) w k := st_of (load_one (by kernel_rfl) (range_cell (h.rng hr) (get_of_drop (commC_d0 )))) hk
theorem comm.e0 {a0 a1 a3 : Value} {a2 : List Value} {L : List It} {g o : Nat} {k : Value → Prop} {S : World → Prop} (hS : ∀ w, S w → Mayr L w) (hr : Rng L g o (commC a0 a1 a2 a3))  (hk : k a0) : tk Tryz.prog S (Instr.loadAt T.int (.pointer (some ⟨g, o + 0, none⟩))) k := tk_of _ (fun w hw => load_one (by kernel_rfl) (range_cell ((hS w hw).rng hr) (get_of_drop (commC_d0 )))) hk
theorem comm.s0 {a0 a1 a3 : Value} {a2 : List Value} {x : Value} {b : Base} {w : World} {L R : List It} {g : Nat} {k : Value → World → Prop} {tt : TypeId} (h : Sep b w L) (hm : Has L (blkI g tt (commC a0 a1 a2 a3)) R) (h2 : a2.length = 32) (hv : x.cells = #[x] ∧ x.oneCell' = true) (hk : ∀ w', Sep b w' (blkI g tt (commC x a1 a2 a3) :: R) → k undef w') :
    o1 Tryz.prog (Instr.fieldAt T.api_Commit (.pointer (some ⟨g, 0, none⟩)) 0) w fun a w => o0 Tryz.prog (Instr.storeAt T.int a x) w k :=
  sp_s1 (off := 0) (by kernel_rfl) (by kernel_rfl) (by simp [commC, h2]) (by simp [commC, List.set_append, h2]) hv h hm hk
theorem comm.l1 {a0 a1 a3 : Value} {a2 : List Value} {b : Base} {w : World} {L : List It} {g o : Nat} {k : Value → World → Prop} (h : Sep b w L) (hr : Rng L g o (commC a0 a1 a2 a3))  (hk : k a1 w) :
    o1 Tryz.prog (Instr.fieldAt T.api_Commit (.pointer (some ⟨g, o, none⟩)) 1) w fun t w => o1 Tryz.prog (Instr.loadAt T.int t) w k :=
  sp_f1 (off := 1) (by kernel_rfl) (by kernel_rfl) (commC_d1 ) h hr hk
theorem comm.k1 {a0 a1 a3 : Value} {a2 : List Value} {L : List It} {g o : Nat} {k : Value → Prop} {S : World → Prop} (hS : ∀ w, S w → Mayr L w) (hr : Rng L g o (commC a0 a1 a2 a3))  (hk : k a1) :
    tk Tryz.prog S (Instr.fieldAt T.api_Commit (.pointer (some ⟨g, o, none⟩)) 1) fun t => tk Tryz.prog S (Instr.loadAt T.int t) k :=
  tk_f1 (off := 1) (by kernel_rfl) (by kernel_rfl) (commC_d1 ) hS hr hk
theorem comm.a1 {w : World} {g o : Nat} {k : Value → World → Prop} (hk : k (.pointer (some ⟨g, o + 1, none⟩)) w) : o1 Tryz.prog (Instr.fieldAt T.api_Commit (.pointer (some ⟨g, o, none⟩)) 1) w k := st_of (fieldAt_run (by kernel_rfl) g o w) hk
theorem comm.c1 {g o : Nat} {k : Value → Prop} {S : World → Prop} (hk : k (.pointer (some ⟨g, o + 1, none⟩))) : tk Tryz.prog S (Instr.fieldAt T.api_Commit (.pointer (some ⟨g, o, none⟩)) 1) k := tk_of _ (fun w _ => fieldAt_run (by kernel_rfl) g o w) hk
theorem comm.r1 {a0 a1 a3 : Value} {a2 : List Value} {b : Base} {w : World} {L : List It} {g o : Nat} {k : Value → World → Prop} (h : Sep b w L) (hr : Rng L g o (commC a0 a1 a2 a3))  (hk : k a1 w) : o1 Tryz.prog (Instr.loadAt T.int (.pointer (some ⟨g, o + 1, none⟩))) w k := st_of (load_one (by kernel_rfl) (range_cell (h.rng hr) (get_of_drop (commC_d1 )))) hk
theorem comm.e1 {a0 a1 a3 : Value} {a2 : List Value} {L : List It} {g o : Nat} {k : Value → Prop} {S : World → Prop} (hS : ∀ w, S w → Mayr L w) (hr : Rng L g o (commC a0 a1 a2 a3))  (hk : k a1) : tk Tryz.prog S (Instr.loadAt T.int (.pointer (some ⟨g, o + 1, none⟩))) k := tk_of _ (fun w hw => load_one (by kernel_rfl) (range_cell ((hS w hw).rng hr) (get_of_drop (commC_d1 )))) hk
theorem comm.s1 {a0 a1 a3 : Value} {a2 : List Value} {x : Value} {b : Base} {w : World} {L R : List It} {g : Nat} {k : Value → World → Prop} {tt : TypeId} (h : Sep b w L) (hm : Has L (blkI g tt (commC a0 a1 a2 a3)) R) (h2 : a2.length = 32) (hv : x.cells = #[x] ∧ x.oneCell' = true) (hk : ∀ w', Sep b w' (blkI g tt (commC a0 x a2 a3) :: R) → k undef w') :
    o1 Tryz.prog (Instr.fieldAt T.api_Commit (.pointer (some ⟨g, 0, none⟩)) 1) w fun a w => o0 Tryz.prog (Instr.storeAt T.int a x) w k :=
  sp_s1 (off := 1) (by kernel_rfl) (by kernel_rfl) (by simp [commC, h2]) (by simp [commC, List.set_append, h2]) hv h hm hk
theorem comm.l2 {a0 a1 a3 : Value} {a2 : List Value} {b : Base} {w : World} {L : List It} {g o : Nat} {k : Value → World → Prop} (h : Sep b w L) (hr : Rng L g o (commC a0 a1 a2 a3))  (h2 : a2.length = 32) (hk : k (.agg a2.toArray) w) :
    o1 Tryz.prog (Instr.fieldAt T.api_Commit (.pointer (some ⟨g, o, none⟩)) 2) w fun t w => o1 Tryz.prog (Instr.loadAt T.api_Hash t) w k :=
  sp_fn (off := 2) (by kernel_rfl) (by kernel_rfl) h2 (commC_d2 ) h hr hk
theorem comm.k2 {a0 a1 a3 : Value} {a2 : List Value} {L : List It} {g o : Nat} {k : Value → Prop} {S : World → Prop} (hS : ∀ w, S w → Mayr L w) (hr : Rng L g o (commC a0 a1 a2 a3))  (h2 : a2.length = 32) (hk : k (.agg a2.toArray)) :
    tk Tryz.prog S (Instr.fieldAt T.api_Commit (.pointer (some ⟨g, o, none⟩)) 2) fun t => tk Tryz.prog S (Instr.loadAt T.api_Hash t) k :=
  tk_fn (off := 2) (by kernel_rfl) (by kernel_rfl) h2 (commC_d2 ) hS hr hk
theorem comm.a2 {w : World} {g o : Nat} {k : Value → World → Prop} (hk : k (.pointer (some ⟨g, o + 2, none⟩)) w) : o1 Tryz.prog (Instr.fieldAt T.api_Commit (.pointer (some ⟨g, o, none⟩)) 2) w k := st_of (fieldAt_run (by kernel_rfl) g o w) hk
theorem comm.c2 {g o : Nat} {k : Value → Prop} {S : World → Prop} (hk : k (.pointer (some ⟨g, o + 2, none⟩))) : tk Tryz.prog S (Instr.fieldAt T.api_Commit (.pointer (some ⟨g, o, none⟩)) 2) k := tk_of _ (fun w _ => fieldAt_run (by kernel_rfl) g o w) hk
theorem comm.r2 {a0 a1 a3 : Value} {a2 : List Value} {b : Base} {w : World} {L : List It} {g o : Nat} {k : Value → World → Prop} (h : Sep b w L) (hr : Rng L g o (commC a0 a1 a2 a3))  (h2 : a2.length = 32) (hk : k (.agg a2.toArray) w) : o1 Tryz.prog (Instr.loadAt T.api_Hash (.pointer (some ⟨g, o + 2, none⟩))) w k := st_of (load_agg (by kernel_rfl) (range_sub (h.rng hr) 2 (sub_of_drop (commC_d2 ))) (h2)) hk
theorem comm.e2 {a0 a1 a3 : Value} {a2 : List Value} {L : List It} {g o : Nat} {k : Value → Prop} {S : World → Prop} (hS : ∀ w, S w → Mayr L w) (hr : Rng L g o (commC a0 a1 a2 a3))  (h2 : a2.length = 32) (hk : k (.agg a2.toArray)) : tk Tryz.prog S (Instr.loadAt T.api_Hash (.pointer (some ⟨g, o + 2, none⟩))) k := tk_of _ (fun w hw => load_agg (by kernel_rfl) (range_sub ((hS w hw).rng hr) 2 (sub_of_drop (commC_d2 ))) (h2)) hk
theorem comm.s2 {a0 a1 a3 : Value} {a2 : List Value} {x : List Value} {b : Base} {w : World} {L R : List It} {g : Nat} {k : Value → World → Prop} {tt : TypeId} (h : Sep b w L) (hm : Has L (blkI g tt (commC a0 a1 a2 a3)) R) (h2 : a2.length = 32) (hx : x.length = 32) (hv : ∀ u ∈ x, u.oneCell' = true) (hk : ∀ w', Sep b w' (blkI g tt (commC a0 a1 x a3) :: R) → k undef w') :
    o1 Tryz.prog (Instr.fieldAt T.api_Commit (.pointer (some ⟨g, 0, none⟩)) 2) w fun a w => o0 Tryz.prog (Instr.storeAt T.api_Hash a (.agg x.toArray)) w k :=
  sp_sn (off := 2) (by kernel_rfl) (by kernel_rfl) hx (by simp [commC, h2]) (by simp [commC, List.take_append, List.drop_append, List.take_of_length_le, List.drop_of_length_le, h2, hx]) hv h hm hk
theorem comm.l3 {a0 a1 a3 : Value} {a2 : List Value} {b : Base} {w : World} {L : List It} {g o : Nat} {k : Value → World → Prop} (h : Sep b w L) (hr : Rng L g o (commC a0 a1 a2 a3)) (h2 : a2.length = 32) (hk : k a3 w) :
    o1 Tryz.prog (Instr.fieldAt T.api_Commit (.pointer (some ⟨g, o, none⟩)) 3) w fun t w => o1 Tryz.prog (Instr.loadAt T.sl_api_Vote t) w k :=
  sp_f1 (off := 34) (by kernel_rfl) (by kernel_rfl) (commC_d3 h2) h hr hk
theorem comm.k3 {a0 a1 a3 : Value} {a2 : List Value} {L : List It} {g o : Nat} {k : Value → Prop} {S : World → Prop} (hS : ∀ w, S w → Mayr L w) (hr : Rng L g o (commC a0 a1 a2 a3)) (h2 : a2.length = 32) (hk : k a3) :
    tk Tryz.prog S (Instr.fieldAt T.api_Commit (.pointer (some ⟨g, o, none⟩)) 3) fun t => tk Tryz.prog S (Instr.loadAt T.sl_api_Vote t) k :=
  tk_f1 (off := 34) (by kernel_rfl) (by kernel_rfl) (commC_d3 h2) hS hr hk
theorem comm.a3 {w : World} {g o : Nat} {k : Value → World → Prop} (hk : k (.pointer (some ⟨g, o + 34, none⟩)) w) : o1 Tryz.prog (Instr.fieldAt T.api_Commit (.pointer (some ⟨g, o, none⟩)) 3) w k := st_of (fieldAt_run (by kernel_rfl) g o w) hk
theorem comm.c3 {g o : Nat} {k : Value → Prop} {S : World → Prop} (hk : k (.pointer (some ⟨g, o + 34, none⟩))) : tk Tryz.prog S (Instr.fieldAt T.api_Commit (.pointer (some ⟨g, o, none⟩)) 3) k := tk_of _ (fun w _ => fieldAt_run (by kernel_rfl) g o w) hk
theorem comm.r3 {a0 a1 a3 : Value} {a2 : List Value} {b : Base} {w : World} {L : List It} {g o : Nat} {k : Value → World → Prop} (h : Sep b w L) (hr : Rng L g o (commC a0 a1 a2 a3)) (h2 : a2.length = 32) (hk : k a3 w) : o1 Tryz.prog (Instr.loadAt T.sl_api_Vote (.pointer (some ⟨g, o + 34, none⟩))) w k := st_of (load_one (by kernel_rfl) (range_cell (h.rng hr) (get_of_drop (commC_d3 h2)))) hk
theorem comm.e3 {a0 a1 a3 : Value} {a2 : List Value} {L : List It} {g o : Nat} {k : Value → Prop} {S : World → Prop} (hS : ∀ w, S w → Mayr L w) (hr : Rng L g o (commC a0 a1 a2 a3)) (h2 : a2.length = 32) (hk : k a3) : tk Tryz.prog S (Instr.loadAt T.sl_api_Vote (.pointer (some ⟨g, o + 34, none⟩))) k := tk_of _ (fun w hw => load_one (by kernel_rfl) (range_cell ((hS w hw).rng hr) (get_of_drop (commC_d3 h2)))) hk
theorem comm.s3 {a0 a1 a3 : Value} {a2 : List Value} {x : Value} {b : Base} {w : World} {L R : List It} {g : Nat} {k : Value → World → Prop} {tt : TypeId} (h : Sep b w L) (hm : Has L (blkI g tt (commC a0 a1 a2 a3)) R) (h2 : a2.length = 32) (hv : x.cells = #[x] ∧ x.oneCell' = true) (hk : ∀ w', Sep b w' (blkI g tt (commC a0 a1 a2 x) :: R) → k undef w') :
    o1 Tryz.prog (Instr.fieldAt T.api_Commit (.pointer (some ⟨g, 0, none⟩)) 3) w fun a w => o0 Tryz.prog (Instr.storeAt T.sl_api_Vote a x) w k :=
  sp_s1 (off := 34) (by kernel_rfl) (by kernel_rfl) (by simp [commC, h2]) (by simp [commC, List.set_append, h2]) hv h hm hk
theorem headC_one {a0 a1 a2 a8 : Value} {a3 a4 a5 a6 a7 : List Value}  (o0 : a0.oneCell' = true) (o1 : a1.oneCell' = true) (o2 : a2.oneCell' = true) (o3 : ∀ u ∈ a3, u.oneCell' = true) (o4 : ∀ u ∈ a4, u.oneCell' = true) (o5 : ∀ u ∈ a5, u.oneCell' = true) (o6 : ∀ u ∈ a6, u.oneCell' = true) (o7 : ∀ u ∈ a7, u.oneCell' = true) (o8 : a8.oneCell' = true) : ∀ u ∈ headC a0 a1 a2 a3 a4 a5 a6 a7 a8, u.oneCell' = true := by
  intro u hu
  simp only [headC, List.mem_cons, List.mem_append, List.not_mem_nil, or_false] at hu
  rcases hu with rfl | rfl | rfl | hu | hu | hu | hu | hu | rfl
  · exact o0
  · exact o1
  · exact o2
  · exact o3 u hu
  · exact o4 u hu
  · exact o5 u hu
  · exact o6 u hu
  · exact o7 u hu
  · exact o8
theorem head.l0 {a0 a1 a2 a8 : Value} {a3 a4 a5 a6 a7 : List Value} {b : Base} {w : World} {L : List It} {g o : Nat} {k : Value → World → Prop} (h : Sep b w L) (hr : Rng L g o (headC a0 a1 a2 a3 a4 a5 a6 a7 a8))  (hk : k a0 w) :
    o1 Tryz.prog (Instr.fieldAt T.api_Header (.pointer (some ⟨g, o, none⟩)) 0) w fun t w => o1 Tryz.prog (Instr.loadAt T.string t) w k :=
  sp_f1 (off := 0) (by kernel_rfl) (by kernel_rfl) (headC_d0 ) h hr hk
theorem head.k0 {a0 a1 a2 a8 : Value} {a3 a4 a5 a6 a7 : List Value} {L : List It} {g o : Nat} {k : Value → Prop} {S : World → Prop} (hS : ∀ w, S w → Mayr L w) (hr : Rng L g o (headC a0 a1 a2 a3 a4 a5 a6 a7 a8))  (hk : k a0) :
    tk Tryz.prog S (Instr.fieldAt T.api_Header (.pointer (some ⟨g, o, none⟩)) 0) fun t => tk Tryz.prog S (Instr.loadAt T.string t) k :=
  tk_f1 (off := 0) (by kernel_rfl) (by kernel_rfl) (headC_d0 ) hS hr hk
theorem head.a0 {w : World} {g o : Nat} {k : Value → World → Prop} (hk : k (.pointer (some ⟨g, o + 0, none⟩)) w) : o1 Tryz.prog (Instr.fieldAt T.api_Header (.pointer (some ⟨g, o, none⟩)) 0) w k := st_of (fieldAt_run (by kernel_rfl) g o w) hk
theorem head.c0 {g o : Nat} {k : Value → Prop} {S : World → Prop} (hk : k (.pointer (some ⟨g, o + 0, none⟩))) : tk Tryz.prog S (Instr.fieldAt T.api_Header (.pointer (some ⟨g, o, none⟩)) 0) k := tk_of _ (fun w _ => fieldAt_run (by kernel_rfl) g o w) hk
theorem head.r0 {a0 a1 a2 a8 : Value} {a3 a4 a5 a6 a7 : List Value} {b : Base} {w : World} {L : List It} {g o : Nat} {k : Value → World → Prop} (h : Sep b w L) (hr : Rng L g o (headC a0 a1 a2 a3 a4 a5 a6 a7 a8))  (hk : k a0 w) : o1 Tryz.prog (Instr.loadAt T.string (.pointer (some ⟨g, o + 0, none⟩))) w k := st_of (load_one (by kernel_rfl) (range_cell (h.rng hr) (get_of_drop (headC_d0 )))) hk
theorem head.e0 {a0 a1 a2 a8 : Value} {a3 a4 a5 a6 a7 : List Value} {L : List It} {g o : Nat} {k : Value → Prop} {S : World → Prop} (hS : ∀ w, S w → Mayr L w) (hr : Rng L g o (headC a0 a1 a2 a3 a4 a5 a6 a7 a8))  (hk : k a0) : tk Tryz.prog S (Instr.loadAt T.string (.pointer (some ⟨g, o + 0, none⟩))) k := tk_of _ (fun w hw => load_one (by kernel_rfl) (range_cell ((hS w hw).rng hr) (get_of_drop (headC_d0 )))) hk
theorem head.s0 {a0 a1 a2 a8 : Value} {a3 a4 a5 a6 a7 : List Value} {x : Value} {b : Base} {w : World} {L R : List It} {g : Nat} {k : Value → World → Prop} {tt : TypeId} (h : Sep b w L) (hm : Has L (blkI g tt (headC a0 a1 a2 a3 a4 a5 a6 a7 a8)) R) (h3 : a3.length = 32) (h4 : a4.length = 32) (h5 : a5.length = 32) (h6 : a6.length = 32) (h7 : a7.length = 32) (hv : x.cells = #[x] ∧ x.oneCell' = true) (hk : ∀ w', Sep b w' (blkI g tt (headC x a1 a2 a3 a4 a5 a6 a7 a8) :: R) → k undef w') :
    o1 Tryz.prog (Instr.fieldAt T.api_Header (.pointer (some ⟨g, 0, none⟩)) 0) w fun a w => o0 Tryz.prog (Instr.storeAt T.string a x) w k :=
  sp_s1 (off := 0) (by kernel_rfl) (by kernel_rfl) (by simp [headC, h3, h4, h5, h6, h7]) (by simp [headC, List.set_append, h3, h4, h5, h6, h7]) hv h hm hk
theorem head.l1 {a0 a1 a2 a8 : Value} {a3 a4 a5 a6 a7 : List Value} {b : Base} {w : World} {L : List It} {g o : Nat} {k : Value → World → Prop} (h : Sep b w L) (hr : Rng L g o (headC a0 a1 a2 a3 a4 a5 a6 a7 a8))  (hk : k a1 w) :
    o1 Tryz.prog (Instr.fieldAt T.api_Header (.pointer (some ⟨g, o, none⟩)) 1) w fun t w => o1 Tryz.prog (Instr.loadAt T.int t) w k :=
  sp_f1 (off := 1) (by kernel_rfl) (by kernel_rfl) (headC_d1 ) h hr hk
theorem head.k1 {a0 a1 a2 a8 : Value} {a3 a4 a5 a6 a7 : List Value} {L : List It} {g o : Nat} {k : Value → Prop} {S : World → Prop} (hS : ∀ w, S w → Mayr L w) (hr : Rng L g o (headC a0 a1 a2 a3 a4 a5 a6 a7 a8))  (hk : k a1) :
    tk Tryz.prog S (Instr.fieldAt T.api_Header (.pointer (some ⟨g, o, none⟩)) 1) fun t => tk Tryz.prog S (Instr.loadAt T.int t) k :=
  tk_f1 (off := 1) (by kernel_rfl) (by kernel_rfl) (headC_d1 ) hS hr hk
theorem head.a1 {w : World} {g o : Nat} {k : Value → World → Prop} (hk : k (.pointer (some ⟨g, o + 1, none⟩)) w) : o1 Tryz.prog (Instr.fieldAt T.api_Header (.pointer (some ⟨g, o, none⟩)) 1) w k := st_of (fieldAt_run (by kernel_rfl) g o w) hk
theorem head.c1 {g o : Nat} {k : Value → Prop} {S : World → Prop} (hk : k (.pointer (some ⟨g, o + 1, none⟩))) : tk Tryz.prog S (Instr.fieldAt T.api_Header (.pointer (some ⟨g, o, none⟩)) 1) k := tk_of _ (fun w _ => fieldAt_run (by kernel_rfl) g o w) hk
theorem head.r1 {a0 a1 a2 a8 : Value} {a3 a4 a5 a6 a7 : List Value} {b : Base} {w : World} {L : List It} {g o : Nat} {k : Value → World → Prop} (h : Sep b w L) (hr : Rng L g o (headC a0 a1 a2 a3 a4 a5 a6 a7 a8))  (hk : k a1 w) : o1 Tryz.prog (Instr.loadAt T.int (.pointer (some ⟨g, o + 1, none⟩))) w k := st_of (load_one (by kernel_rfl) (range_cell (h.rng hr) (get_of_drop (headC_d1 )))) hk
theorem head.e1 {a0 a1 a2 a8 : Value} {a3 a4 a5 a6 a7 : List Value} {L : List It} {g o : Nat} {k : Value → Prop} {S : World → Prop} (hS : ∀ w, S w → Mayr L w) (hr : Rng L g o (headC a0 a1 a2 a3 a4 a5 a6 a7 a8))  (hk : k a1) : tk Tryz.prog S (Instr.loadAt T.int (.pointer (some ⟨g, o + 1, none⟩))) k := tk_of _ (fun w hw => load_one (by kernel_rfl) (range_cell ((hS w hw).rng hr) (get_of_drop (headC_d1 )))) hk
theorem head.s1 {a0 a1 a2 a8 : Value} {a3 a4 a5 a6 a7 : List Value} {x : Value} {b : Base} {w : World} {L R : List It} {g : Nat} {k : Value → World → Prop} {tt : TypeId} (h : Sep b w L) (hm : Has L (blkI g tt (headC a0 a1 a2 a3 a4 a5 a6 a7 a8)) R) (h3 : a3.length = 32) (h4 : a4.length = 32) (h5 : a5.length = 32) (h6 : a6.length = 32) (h7 : a7.length = 32) (hv : x.cells = #[x] ∧ x.oneCell' = true) (hk : ∀ w', Sep b w' (blkI g tt (headC a0 x a2 a3 a4 a5 a6 a7 a8) :: R) → k undef w') :
    o1 Tryz.prog (Instr.fieldAt T.api_Header (.pointer (some ⟨g, 0, none⟩)) 1) w fun a w => o0 Tryz.prog (Instr.storeAt T.int a x) w k :=
  sp_s1 (off := 1) (by kernel_rfl) (by kernel_rfl) (by simp [headC, h3, h4, h5, h6, h7]) (by simp [headC, List.set_append, h3, h4, h5, h6, h7]) hv h hm hk
theorem head.l2 {a0 a1 a2 a8 : Value} {a3 a4 a5 a6 a7 : List Value} {b : Base} {w : World} {L : List It} {g o : Nat} {k : Value → World → Prop} (h : Sep b w L) (hr : Rng L g o (headC a0 a1 a2 a3 a4 a5 a6 a7 a8))  (hk : k a2 w) :
    o1 Tryz.prog (Instr.fieldAt T.api_Header (.pointer (some ⟨g, o, none⟩)) 2) w fun t w => o1 Tryz.prog (Instr.loadAt T.int t) w k :=
  sp_f1 (off := 2) (by kernel_rfl) (by kernel_rfl) (headC_d2 ) h hr hk
theorem head.k2 {a0 a1 a2 a8 : Value} {a3 a4 a5 a6 a7 : List Value} {L : List It} {g o : Nat} {k : Value → Prop} {S : World → Prop} (hS : ∀ w, S w → Mayr L w) (hr : Rng L g o (headC a0 a1 a2 a3 a4 a5 a6 a7 a8))  (hk : k a2) :
    tk Tryz.prog S (Instr.fieldAt T.api_Header (.pointer (some ⟨g, o, none⟩)) 2) fun t => tk Tryz.prog S (Instr.loadAt T.int t) k :=
  tk_f1 (off := 2) (by kernel_rfl) (by kernel_rfl) (headC_d2 ) hS hr hk
theorem head.a2 {w : World} {g o : Nat} {k : Value → World → Prop} (hk : k (.pointer (some ⟨g, o + 2, none⟩)) w) : o1 Tryz.prog (Instr.fieldAt T.api_Header (.pointer (some ⟨g, o, none⟩)) 2) w k := st_of (fieldAt_run (by kernel_rfl) g o w) hk
theorem head.c2 {g o : Nat} {k : Value → Prop} {S : World → Prop} (hk : k (.pointer (some ⟨g, o + 2, none⟩))) : tk Tryz.prog S (Instr.fieldAt T.api_Header (.pointer (some ⟨g, o, none⟩)) 2) k := tk_of _ (fun w _ => fieldAt_run (by kernel_rfl) g o w) hk
theorem head.r2 {a0 a1 a2 a8 : Value} {a3 a4 a5 a6 a7 : List Value} {b : Base} {w : World} {L : List It} {g o : Nat} {k : Value → World → Prop} (h : Sep b w L) (hr : Rng L g o (headC a0 a1 a2 a3 a4 a5 a6 a7 a8))  (hk : k a2 w) : o1 Tryz.prog (Instr.loadAt T.int (.pointer (some ⟨g, o + 2, none⟩))) w k := st_of (load_one (by kernel_rfl) (range_cell (h.rng hr) (get_of_drop (headC_d2 )))) hk
theorem head.e2 {a0 a1 a2 a8 : Value} {a3 a4 a5 a6 a7 : List Value} {L : List It} {g o : Nat} {k : Value → Prop} {S : World → Prop} (hS : ∀ w, S w → Mayr L w) (hr : Rng L g o (headC a0 a1 a2 a3 a4 a5 a6 a7 a8))  (hk : k a2) : tk Tryz.prog S (Instr.loadAt T.int (.pointer (some ⟨g, o + 2, none⟩))) k := tk_of _ (fun w hw => load_one (by kernel_rfl) (range_cell ((hS w hw).rng hr) (get_of_drop (headC_d2 )))) hk
theorem head.s2 {a0 a1 a2 a8 : Value} {a3 a4 a5 a6 a7 : List Value} {x : Value} {b : Base} {w : World} {L R : List It} {g : Nat} {k : Value → World → Prop} {tt : TypeId} (h : Sep b w L) (hm : Has L (blkI g tt (headC a0 a1 a2 a3 a4 a5 a6 a7 a8)) R) (h3 : a3.length = 32) (h4 : a4.length = 32) (h5 : a5.length = 32) (h6 : a6.length = 32) (h7 : a7.length = 32) (hv : x.cells = #[x] ∧ x.oneCell' = true) (hk : ∀ w', Sep b w' (blkI g tt (headC a0 a1 x a3 a4 a5 a6 a7 a8) :: R) → k undef w') :
    o1 Tryz.prog (Instr.fieldAt T.api_Header (.pointer (some ⟨g, 0, none⟩)) 2) w fun a w => o0 Tryz.prog (Instr.storeAt T.int a x) w k :=
  sp_s1 (off := 2) (by kernel_rfl) (by kernel_rfl) (by simp [headC, h3, h4, h5, h6, h7]) (by simp [headC, List.set_append, h3, h4, h5, h6, h7]) hv h hm hk
theorem head.l3 {a0 a1 a2 a8 : Value} {a3 a4 a5 a6 a7 : List Value} {b : Base} {w : World} {L : List It} {g o : Nat} {k : Value → World → Prop} (h : Sep b w L) (hr : Rng L g o (headC a0 a1 a2 a3 a4 a5 a6 a7 a8))  (h3 : a3.length = 32) (hk : k (.agg a3.toArray) w) :
    o1 Tryz.prog (Instr.fieldAt T.api_Header (.pointer (some ⟨g, o, none⟩)) 3) w fun t w => o1 Tryz.prog (Instr.loadAt T.api_Hash t) w k :=
  sp_fn (off := 3) (by kernel_rfl) (by kernel_rfl) h3 (headC_d3 ) h hr hk
theorem head.k3 {a0 a1 a2 a8 : Value} {a3 a4 a5 a6 a7 : List Value} {L : List It} {g o : Nat} {k : Value → Prop} {S : World → Prop} (hS : ∀ w, S w → Mayr L w) (hr : Rng L g o (headC a0 a1 a2 a3 a4 a5 a6 a7 a8))  (h3 : a3.length = 32) (hk : k (.agg a3.toArray)) :
    tk Tryz.prog S (Instr.fieldAt T.api_Header (.pointer (some ⟨g, o, none⟩)) 3) fun t => tk Tryz.prog S (Instr.loadAt T.api_Hash t) k :=
  tk_fn (off := 3) (by kernel_rfl) (by kernel_rfl) h3 (headC_d3 ) hS hr hk
theorem head.a3 {w : World} {g o : Nat} {k : Value → World → Prop} (hk : k (.pointer (some ⟨g, o + 3, none⟩)) w) : o1 Tryz.prog (Instr.fieldAt T.api_Header (.pointer (some ⟨g, o, none⟩)) 3) w k := st_of (fieldAt_run (by kernel_rfl) g o w) hk
theorem head.c3 {g o : Nat} {k : Value → Prop} {S : World → Prop} (hk : k (.pointer (some ⟨g, o + 3, none⟩))) : tk Tryz.prog S (Instr.fieldAt T.api_Header (.pointer (some ⟨g, o, none⟩)) 3) k := tk_of _ (fun w _ => fieldAt_run (by kernel_rfl) g o w) hk
theorem head.r3 {a0 a1 a2 a8 : Value} {a3 a4 a5 a6 a7 : List Value} {b : Base} {w : World} {L : List It} {g o : Nat} {k : Value → World → Prop} (h : Sep b w L) (hr : Rng L g o (headC a0 a1 a2 a3 a4 a5 a6 a7 a8))  (h3 : a3.length = 32) (hk : k (.agg a3.toArray) w) : o1 Tryz.prog (Instr.loadAt T.api_Hash (.pointer (some ⟨g, o + 3, none⟩))) w k := st_of (load_agg (by kernel_rfl) (range_sub (h.rng hr) 3 (sub_of_drop (headC_d3 ))) (h3)) hk
theorem head.e3 {a0 a1 a2 a8 : Value} {a3 a4 a5 a6 a7 : List Value} {L : List It} {g o : Nat} {k : Value → Prop} {S : World → Prop} (hS : ∀ w, S w → Mayr L w) (hr : Rng L g o (headC a0 a1 a2 a3 a4 a5 a6 a7 a8))  (h3 : a3.length = 32) (hk : k (.agg a3.toArray)) : tk Tryz.prog S (Instr.loadAt T.api_Hash (.pointer (some ⟨g, o + 3, none⟩))) k := tk_of _ (fun w hw => load_agg (by kernel_rfl) (range_sub ((hS w hw).rng hr) 3 (sub_of_drop (headC_d3 ))) (h3)) hk
theorem head.s3 {a0 a1 a2 a8 : Value} {a3 a4 a5 a6 a7 : List Value} {x : List Value} {b : Base} {w : World} {L R : List It} {g : Nat} {k : Value → World → Prop} {tt : TypeId} (h : Sep b w L) (hm : Has L (blkI g tt (headC a0 a1 a2 a3 a4 a5 a6 a7 a8)) R) (h3 : a3.length = 32) (h4 : a4.length = 32) (h5 : a5.length = 32) (h6 : a6.length = 32) (h7 : a7.length = 32) (hx : x.length = 32) (hv : ∀ u ∈ x, u.oneCell' = true) (hk : ∀ w', Sep b w' (blkI g tt (headC a0 a1 a2 x a4 a5 a6 a7 a8) :: R) → k undef w') :
    o1 Tryz.prog (Instr.fieldAt T.api_Header (.pointer (some ⟨g, 0, none⟩)) 3) w fun a w => o0 Tryz.prog (Instr.storeAt T.api_Hash a (.agg x.toArray)) w k :=
  sp_sn (off := 3) (by kernel_rfl) (by kernel_rfl) hx (by simp [headC, h3, h4, h5, h6, h7]) (by simp [headC, List.take_append, List.drop_append, List.take_of_length_le, List.drop_of_length_le, h3, h4, h5, h6, h7, hx]) hv h hm hk
theorem head.l4 {a0 a1 a2 a8 : Value} {a3 a4 a5 a6 a7 : List Value} {b : Base} {w : World} {L : List It} {g o : Nat} {k : Value → World → Prop} (h : Sep b w L) (hr : Rng L g o (headC a0 a1 a2 a3 a4 a5 a6 a7 a8)) (h3 : a3.length = 32) (h4 : a4.length = 32) (hk : k (.agg a4.toArray) w) :
    o1 Tryz.prog (Instr.fieldAt T.api_Header (.pointer (some ⟨g, o, none⟩)) 4) w fun t w => o1 Tryz.prog (Instr.loadAt T.api_Hash t) w k :=
  sp_fn (off := 35) (by kernel_rfl) (by kernel_rfl) h4 (headC_d4 h3) h hr hk
theorem head.k4 {a0 a1 a2 a8 : Value} {a3 a4 a5 a6 a7 : List Value} {L : List It} {g o : Nat} {k : Value → Prop} {S : World → Prop} (hS : ∀ w, S w → Mayr L w) (hr : Rng L g o (headC a0 a1 a2 a3 a4 a5 a6 a7 a8)) (h3 : a3.length = 32) (h4 : a4.length = 32) (hk : k (.agg a4.toArray)) :
    tk Tryz.prog S (Instr.fieldAt T.api_Header (.pointer (some ⟨g, o, none⟩)) 4) fun t => tk Tryz.prog S (Instr.loadAt T.api_Hash t) k :=
  tk_fn (off := 35) (by kernel_rfl) (by kernel_rfl) h4 (headC_d4 h3) hS hr hk
theorem head.a4 {w : World} {g o : Nat} {k : Value → World → Prop} (hk : k (.pointer (some ⟨g, o + 35, none⟩)) w) : o1 Tryz.prog (Instr.fieldAt T.api_Header (.pointer (some ⟨g, o, none⟩)) 4) w k := st_of (fieldAt_run (by kernel_rfl) g o w) hk
theorem head.c4 {g o : Nat} {k : Value → Prop} {S : World → Prop} (hk : k (.pointer (some ⟨g, o + 35, none⟩))) : tk Tryz.prog S (Instr.fieldAt T.api_Header (.pointer (some ⟨g, o, none⟩)) 4) k := tk_of _ (fun w _ => fieldAt_run (by kernel_rfl) g o w) hk
theorem head.r4 {a0 a1 a2 a8 : Value} {a3 a4 a5 a6 a7 : List Value} {b : Base} {w : World} {L : List It} {g o : Nat} {k : Value → World → Prop} (h : Sep b w L) (hr : Rng L g o (headC a0 a1 a2 a3 a4 a5 a6 a7 a8)) (h3 : a3.length = 32) (h4 : a4.length = 32) (hk : k (.agg a4.toArray) w) : o1 Tryz.prog (Instr.loadAt T.api_Hash (.pointer (some ⟨g, o + 35, none⟩))) w k := st_of (load_agg (by kernel_rfl) (range_sub (h.rng hr) 35 (sub_of_drop (headC_d4 h3))) (h4)) hk
theorem head.e4 {a0 a1 a2 a8 : Value} {a3 a4 a5 a6 a7 : List Value} {L : List It} {g o : Nat} {k : Value → Prop} {S : World → Prop} (hS : ∀ w, S w → Mayr L w) (hr : Rng L g o (headC a0 a1 a2 a3 a4 a5 a6 a7 a8)) (h3 : a3.length = 32) (h4 : a4.length = 32) (hk : k (.agg a4.toArray)) : tk Tryz.prog S (Instr.loadAt T.api_Hash (.pointer (some ⟨g, o + 35, none⟩))) k := tk_of _ (fun w hw => load_agg (by kernel_rfl) (range_sub ((hS w hw).rng hr) 35 (sub_of_drop (headC_d4 h3))) (h4)) hk
theorem head.s4 {a0 a1 a2 a8 : Value} {a3 a4 a5 a6 a7 : List Value} {x : List Value} {b : Base} {w : World} {L R : List It} {g : Nat} {k : Value → World → Prop} {tt : TypeId} (h : Sep b w L) (hm : Has L (blkI g tt (headC a0 a1 a2 a3 a4 a5 a6 a7 a8)) R) (h3 : a3.length = 32) (h4 : a4.length = 32) (h5 : a5.length = 32) (h6 : a6.length = 32) (h7 : a7.length = 32) (hx : x.length = 32) (hv : ∀ u ∈ x, u.oneCell' = true) (hk : ∀ w', Sep b w' (blkI g tt (headC a0 a1 a2 a3 x a5 a6 a7 a8) :: R) → k undef w') :
    o1 Tryz.prog (Instr.fieldAt T.api_Header (.pointer (some ⟨g, 0, none⟩)) 4) w fun a w => o0 Tryz.prog (Instr.storeAt T.api_Hash a (.agg x.toArray)) w k :=
  sp_sn (off := 35) (by kernel_rfl) (by kernel_rfl) hx (by simp [headC, h3, h4, h5, h6, h7]) (by simp [headC, List.take_append, List.drop_append, List.take_of_length_le, List.drop_of_length_le, h3, h4, h5, h6, h7, hx]) hv h hm hk
theorem head.l5 {a0 a1 a2 a8 : Value} {a3 a4 a5 a6 a7 : List Value} {b : Base} {w : World} {L : List It} {g o : Nat} {k : Value → World → Prop} (h : Sep b w L) (hr : Rng L g o (headC a0 a1 a2 a3 a4 a5 a6 a7 a8)) (h3 : a3.length = 32) (h4 : a4.length = 32) (h5 : a5.length = 32) (hk : k (.agg a5.toArray) w) :
    o1 Tryz.prog (Instr.fieldAt T.api_Header (.pointer (some ⟨g, o, none⟩)) 5) w fun t w => o1 Tryz.prog (Instr.loadAt T.api_Hash t) w k :=
  sp_fn (off := 67) (by kernel_rfl) (by kernel_rfl) h5 (headC_d5 h3 h4) h hr hk
theorem head.k5 {a0 a1 a2 a8 : Value} {a3 a4 a5 a6 a7 : List Value} {L : List It} {g o : Nat} {k : Value → Prop} {S : World → Prop} (hS : ∀ w, S w → Mayr L w) (hr : Rng L g o (headC a0 a1 a2 a3 a4 a5 a6 a7 a8)) (h3 : a3.length = 32) (h4 : a4.length = 32) (h5 : a5.length = 32) (hk : k (.agg a5.toArray)) :
    tk Tryz.prog S (Instr.fieldAt T.api_Header (.pointer (some ⟨g, o, none⟩)) 5) fun t => tk Tryz.prog S (Instr.loadAt T.api_Hash t) k :=
  tk_fn (off := 67) (by kernel_rfl) (by kernel_rfl) h5 (headC_d5 h3 h4) hS hr hk
theorem head.a5 {w : World} {g o : Nat} {k : Value → World → Prop} (hk : k (.pointer (some ⟨g, o + 67, none⟩)) w) : o1 Tryz.prog (Instr.fieldAt T.api_Header (.pointer (some ⟨g, o, none⟩)) 5) w k := st_of (fieldAt_run (by kernel_rfl) g o w) hk
theorem head.c5 {g o : Nat} {k : Value → Prop} {S : World → Prop} (hk : k (.pointer (some ⟨g, o + 67, none⟩))) : tk Tryz.prog S (Instr.fieldAt T.api_Header (.pointer (some ⟨g, o, none⟩)) 5) k := tk_of _ (fun w _ => fieldAt_run (by kernel_rfl) g o w) hk
theorem head.r5 {a0 a1 a2 a8 : Value} {a3 a4 a5 a6 a7 : List Value} {b : Base} {w : World} {L : List It} {g o : Nat} {k : Value → World → Prop} (h : Sep b w L) (hr : Rng L g o (headC a0 a1 a2 a3 a4 a5 a6 a7 a8)) (h3 : a3.length = 32) (h4 : a4.length = 32) (h5 : a5.length = 32) (hk : k (.agg a5.toArray) w) : o1 Tryz.prog (Instr.loadAt T.api_Hash (.pointer (some ⟨g, o + 67, none⟩))) w k := st_of (load_agg (by kernel_rfl) (range_sub (h.rng hr) 67 (sub_of_drop (headC_d5 h3 h4))) (h5)) hk
theorem head.e5 {a0 a1 a2 a8 : Value} {a3 a4 a5 a6 a7 : List Value} {L : List It} {g o : Nat} {k : Value → Prop} {S : World → Prop} (hS : ∀ w, S w → Mayr L w) (hr : Rng L g o (headC a0 a1 a2 a3 a4 a5 a6 a7 a8)) (h3 : a3.length = 32) (h4 : a4.length = 32) (h5 : a5.length = 32) (hk : k (.agg a5.toArray)) : tk Tryz.prog S (Instr.loadAt T.api_Hash (.pointer (some ⟨g, o + 67, none⟩))) k := tk_of _ (fun w hw => load_agg (by kernel_rfl) (range_sub ((hS w hw).rng hr) 67 (sub_of_drop (headC_d5 h3 h4))) (h5)) hk
theorem head.s5 {a0 a1 a2 a8 : Value} {a3 a4 a5 a6 a7 : List Value} {x : List Value} {b : Base} {w : World} {L R : List It} {g : Nat} {k : Value → World → Prop} {tt : TypeId} (h : Sep b w L) (hm : Has L (blkI g tt (headC a0 a1 a2 a3 a4 a5 a6 a7 a8)) R) (h3 : a3.length = 32) (h4 : a4.length = 32) (h5 : a5.length = 32) (h6 : a6.length = 32) (h7 : a7.length = 32) (hx : x.length = 32) (hv : ∀ u ∈ x, u.oneCell' = true) (hk : ∀ w', Sep b w' (blkI g tt (headC a0 a1 a2 a3 a4 x a6 a7 a8) :: R) → k undef w') :
    o1 Tryz.prog (Instr.fieldAt T.api_Header (.pointer (some ⟨g, 0, none⟩)) 5) w fun a w => o0 Tryz.prog (Instr.storeAt T.api_Hash a (.agg x.toArray)) w k :=
  sp_sn (off := 67) (by kernel_rfl) (by kernel_rfl) hx (by simp [headC, h3, h4, h5, h6, h7]) (by simp [headC, List.take_append, List.drop_append, List.take_of_length_le, List.drop_of_length_le, h3, h4, h5, h6, h7, hx]) hv h hm hk
theorem head.l6 {a0 a1 a2 a8 : Value} {a3 a4 a5 a6 a7 : List Value} {b : Base} {w : World} {L : List It} {g o : Nat} {k : Value → World → Prop} (h : Sep b w L) (hr : Rng L g o (headC a0 a1 a2 a3 a4 a5 a6 a7 a8)) (h3 : a3.length = 32) (h4 : a4.length = 32) (h5 : a5.length = 32) (h6 : a6.length = 32) (hk : k (.agg a6.toArray) w) :
    o1 Tryz.prog (Instr.fieldAt T.api_Header (.pointer (some ⟨g, o, none⟩)) 6) w fun t w => o1 Tryz.prog (Instr.loadAt T.api_Hash t) w k :=
  sp_fn (off := 99) (by kernel_rfl) (by kernel_rfl) h6 (headC_d6 h3 h4 h5) h hr hk
theorem head.k6 {a0 a1 a2 a8 : Value} {a3 a4 a5 a6 a7 : List Value} {L : List It} {g o : Nat} {k : Value → Prop} {S : World → Prop} (hS : ∀ w, S w → Mayr L w) (hr : Rng L g o (headC a0 a1 a2 a3 a4 a5 a6 a7 a8)) (h3 : a3.length = 32) (h4 : a4.length = 32) (h5 : a5.length = 32) (h6 : a6.length = 32) (hk : k (.agg a6.toArray)) :
    tk Tryz.prog S (Instr.fieldAt T.api_Header (.pointer (some ⟨g, o, none⟩)) 6) fun t => tk Tryz.prog S (Instr.loadAt T.api_Hash t) k :=
  tk_fn (off := 99) (by kernel_rfl) (by kernel_rfl) h6 (headC_d6 h3 h4 h5) hS hr hk
theorem head.a6 {w : World} {g o : Nat} {k : Value → World → Prop} (hk : k (.pointer (some ⟨g, o + 99, none⟩)) w) : o1 Tryz.prog (Instr.fieldAt T.api_Header (.pointer (some ⟨g, o, none⟩)) 6) w k := st_of (fieldAt_run (by kernel_rfl) g o w) hk
theorem head.c6 {g o : Nat} {k : Value → Prop} {S : World → Prop} (hk : k (.pointer (some ⟨g, o + 99, none⟩))) : tk Tryz.prog S (Instr.fieldAt T.api_Header (.pointer (some ⟨g, o, none⟩)) 6) k := tk_of _ (fun w _ => fieldAt_run (by kernel_rfl) g o w) hk
theorem head.r6 {a0 a1 a2 a8 : Value} {a3 a4 a5 a6 a7 : List Value} {b : Base} {w : World} {L : List It} {g o : Nat} {k : Value → World → Prop} (h : Sep b w L) (hr : Rng L g o (headC a0 a1 a2 a3 a4 a5 a6 a7 a8)) (h3 : a3.length = 32) (h4 : a4.length = 32) (h5 : a5.length = 32) (h6 : a6.length = 32) (hk : k (.agg a6.toArray) w) : o1 Tryz.prog (Instr.loadAt T.api_Hash (.pointer (some ⟨g, o + 99, none⟩))) w k := st_of (load_agg (by kernel_rfl) (range_sub (h.rng hr) 99 (sub_of_drop (headC_d6 h3 h4 h5))) (h6)) hk
theorem head.e6 {a0 a1 a2 a8 : Value} {a3 a4 a5 a6 a7 : List Value} {L : List It} {g o : Nat} {k : Value → Prop} {S : World → Prop} (hS : ∀ w, S w → Mayr L w) (hr : Rng L g o (headC a0 a1 a2 a3 a4 a5 a6 a7 a8)) (h3 : a3.length = 32) (h4 : a4.length = 32) (h5 : a5.length = 32) (h6 : a6.length = 32) (hk : k (.agg a6.toArray)) : tk Tryz.prog S (Instr.loadAt T.api_Hash (.pointer (some ⟨g, o + 99, none⟩))) k := tk_of _ (fun w hw => load_agg (by kernel_rfl) (range_sub ((hS w hw).rng hr) 99 (sub_of_drop (headC_d6 h3 h4 h5))) (h6)) hk
theorem head.s6 {a0 a1 a2 a8 : Value} {a3 a4 a5 a6 a7 : List Value} {x : List Value} {b : Base} {w : World} {L R : List It} {g : Nat} {k : Value → World → Prop} {tt : TypeId} (h : Sep b w L) (hm : Has L (blkI g tt (headC a0 a1 a2 a3 a4 a5 a6 a7 a8)) R) (h3 : a3.length = 32) (h4 : a4.length = 32) (h5 : a5.length = 32) (h6 : a6.length = 32) (h7 : a7.length = 32) (hx : x.length = 32) (hv : ∀ u ∈ x, u.oneCell' = true) (hk : ∀ w', Sep b w' (blkI g tt (headC a0 a1 a2 a3 a4 a5 x a7 a8) :: R) → k undef w') :
    o1 Tryz.prog (Instr.fieldAt T.api_Header (.pointer (some ⟨g, 0, none⟩)) 6) w fun a w => o0 Tryz.prog (Instr.storeAt T.api_Hash a (.agg x.toArray)) w k :=
  sp_sn (off := 99) (by kernel_rfl) (by kernel_rfl) hx (by simp [headC, h3, h4, h5, h6, h7]) (by simp [headC, List.take_append, List.drop_append, List.take_of_length_le, List.drop_of_length_le, h3, h4, h5, h6, h7, hx]) hv h hm hk
theorem head.l7 {a0 a1 a2 a8 : Value} {a3 a4 a5 a6 a7 : List Value} {b : Base} {w : World} {L : List It} {g o : Nat} {k : Value → World → Prop} (h : Sep b w L) (hr : Rng L g o (headC a0 a1 a2 a3 a4 a5 a6 a7 a8)) (h3 : a3.length = 32) (h4 : a4.length = 32) (h5 : a5.length = 32) (h6 : a6.length = 32) (h7 : a7.length = 32) (hk : k (.agg a7.toArray) w) :
    o1 Tryz.prog (Instr.fieldAt T.api_Header (.pointer (some ⟨g, o, none⟩)) 7) w fun t w => o1 Tryz.prog (Instr.loadAt T.api_Hash t) w k :=
  sp_fn (off := 131) (by kernel_rfl) (by kernel_rfl) h7 (headC_d7 h3 h4 h5 h6) h hr hk
theorem head.k7 {a0 a1 a2 a8 : Value} {a3 a4 a5 a6 a7 : List Value} {L : List It} {g o : Nat} {k : Value → Prop} {S : World → Prop} (hS : ∀ w, S w → Mayr L w) (hr : Rng L g o (headC a0 a1 a2 a3 a4 a5 a6 a7 a8)) (h3 : a3.length = 32) (h4 : a4.length = 32) (h5 : a5.length = 32) (h6 : a6.length = 32) (h7 : a7.length = 32) (hk : k (.agg a7.toArray)) :
    tk Tryz.prog S (Instr.fieldAt T.api_Header (.pointer (some ⟨g, o, none⟩)) 7) fun t => tk Tryz.prog S (Instr.loadAt T.api_Hash t) k :=
  tk_fn (off := 131) (by kernel_rfl) (by kernel_rfl) h7 (headC_d7 h3 h4 h5 h6) hS hr hk
theorem head.a7 {w : World} {g o : Nat} {k : Value → World → Prop} (hk : k (.pointer (some ⟨g, o + 131, none⟩)) w) : o1 Tryz.prog (Instr.fieldAt T.api_Header (.pointer (some ⟨g, o, none⟩)) 7) w k := st_of (fieldAt_run (by kernel_rfl) g o w) hk
theorem head.c7 {g o : Nat} {k : Value → Prop} {S : World → Prop} (hk : k (.pointer (some ⟨g, o + 131, none⟩))) : tk Tryz.prog S (Instr.fieldAt T.api_Header (.pointer (some ⟨g, o, none⟩)) 7) k := tk_of _ (fun w _ => fieldAt_run (by kernel_rfl) g o w) hk
theorem head.r7 {a0 a1 a2 a8 : Value} {a3 a4 a5 a6 a7 : List Value} {b : Base} {w : World} {L : List It} {g o : Nat} {k : Value → World → Prop} (h : Sep b w L) (hr : Rng L g o (headC a0 a1 a2 a3 a4 a5 a6 a7 a8)) (h3 : a3.length = 32) (h4 : a4.length = 32) (h5 : a5.length = 32) (h6 : a6.length = 32) (h7 : a7.length = 32) (hk : k (.agg a7.toArray) w) : o1 Tryz.prog (Instr.loadAt T.api_Hash (.pointer (some ⟨g, o + 131, none⟩))) w k := st_of (load_agg (by kernel_rfl) (range_sub (h.rng hr) 131 (sub_of_drop (headC_d7 h3 h4 h5 h6))) (h7)) hk
theorem head.e7 {a0 a1 a2 a8 : Value} {a3 a4 a5 a6 a7 : List Value} {L : List It} {g o : Nat} {k : Value → Prop} {S : World → Prop} (hS : ∀ w, S w → Mayr L w) (hr : Rng L g o (headC a0 a1 a2 a3 a4 a5 a6 a7 a8)) (h3 : a3.length = 32) (h4 : a4.length = 32) (h5 : a5.length = 32) (h6 : a6.length = 32) (h7 : a7.length = 32) (hk : k (.agg a7.toArray)) : tk Tryz.prog S (Instr.loadAt T.api_Hash (.pointer (some ⟨g, o + 131, none⟩))) k := tk_of _ (fun w hw => load_agg (by kernel_rfl) (range_sub ((hS w hw).rng hr) 131 (sub_of_drop (headC_d7 h3 h4 h5 h6))) (h7)) hk
theorem head.s7 {a0 a1 a2 a8 : Value} {a3 a4 a5 a6 a7 : List Value} {x : List Value} {b : Base} {w : World} {L R : List It} {g : Nat} {k : Value → World → Prop} {tt : TypeId} (h : Sep b w L) (hm : Has L (blkI g tt (headC a0 a1 a2 a3 a4 a5 a6 a7 a8)) R) (h3 : a3.length = 32) (h4 : a4.length = 32) (h5 : a5.length = 32) (h6 : a6.length = 32) (h7 : a7.length = 32) (hx : x.length = 32) (hv : ∀ u ∈ x, u.oneCell' = true) (hk : ∀ w', Sep b w' (blkI g tt (headC a0 a1 a2 a3 a4 a5 a6 x a8) :: R) → k undef w') :
    o1 Tryz.prog (Instr.fieldAt T.api_Header (.pointer (some ⟨g, 0, none⟩)) 7) w fun a w => o0 Tryz.prog (Instr.storeAt T.api_Hash a (.agg x.toArray)) w k :=
  sp_sn (off := 131) (by kernel_rfl) (by kernel_rfl) hx (by simp [headC, h3, h4, h5, h6, h7]) (by simp [headC, List.take_append, List.drop_append, List.take_of_length_le, List.drop_of_length_le, h3, h4, h5, h6, h7, hx]) hv h hm hk
theorem head.l8 {a0 a1 a2 a8 : Value} {a3 a4 a5 a6 a7 : List Value} {b : Base} {w : World} {L : List It} {g o : Nat} {k : Value → World → Prop} (h : Sep b w L) (hr : Rng L g o (headC a0 a1 a2 a3 a4 a5 a6 a7 a8)) (h3 : a3.length = 32) (h4 : a4.length = 32) (h5 : a5.length = 32) (h6 : a6.length = 32) (h7 : a7.length = 32) (hk : k a8 w) :
    o1 Tryz.prog (Instr.fieldAt T.api_Header (.pointer (some ⟨g, o, none⟩)) 8) w fun t w => o1 Tryz.prog (Instr.loadAt T.int t) w k :=
  sp_f1 (off := 163) (by kernel_rfl) (by kernel_rfl) (headC_d8 h3 h4 h5 h6 h7) h hr hk
theorem head.k8 {a0 a1 a2 a8 : Value} {a3 a4 a5 a6 a7 : List Value} {L : List It} {g o : Nat} {k : Value → Prop} {S : World → Prop} (hS : ∀ w, S w → Mayr L w) (hr : Rng L g o (headC a0 a1 a2 a3 a4 a5 a6 a7 a8)) (h3 : a3.length = 32) (h4 : a4.length = 32) (h5 : a5.length = 32) (h6 : a6.length = 32) (h7 : a7.length = 32) (hk : k a8) :
    tk Tryz.prog S (Instr.fieldAt T.api_Header (.pointer (some ⟨g, o, none⟩)) 8) fun t => tk Tryz.prog S (Instr.loadAt T.int t) k :=
  tk_f1 (off := 163) (by kernel_rfl) (by kernel_rfl) (headC_d8 h3 h4 h5 h6 h7) hS hr hk
theorem head.a8 {w : World} {g o : Nat} {k : Value → World → Prop} (hk : k (.pointer (some ⟨g, o + 163, none⟩)) w) : o1 Tryz.prog (Instr.fieldAt T.api_Header (.pointer (some ⟨g, o, none⟩)) 8) w k := st_of (fieldAt_run (by kernel_rfl) g o w) hk
theorem head.c8 {g o : Nat} {k : Value → Prop} {S : World → Prop} (hk : k (.pointer (some ⟨g, o + 163, none⟩))) : tk Tryz.prog S (Instr.fieldAt T.api_Header (.pointer (some ⟨g, o, none⟩)) 8) k := tk_of _ (fun w _ => fieldAt_run (by kernel_rfl) g o w) hk
theorem head.r8 {a0 a1 a2 a8 : Value} {a3 a4 a5 a6 a7 : List Value} {b : Base} {w : World} {L : List It} {g o : Nat} {k : Value → World → Prop} (h : Sep b w L) (hr : Rng L g o (headC a0 a1 a2 a3 a4 a5 a6 a7 a8)) (h3 : a3.length = 32) (h4 : a4.length = 32) (h5 : a5.length = 32) (h6 : a6.length = 32) (h7 : a7.length = 32) (hk : k a8 w) : o1 Tryz.prog (Instr.loadAt T.int (.pointer (some ⟨g, o + 163, none⟩))) w k := st_of (load_one (by kernel_rfl) (range_cell (h.rng hr) (get_of_drop (headC_d8 h3 h4 h5 h6 h7)))) hk
theorem head.e8 {a0 a1 a2 a8 : Value} {a3 a4 a5 a6 a7 : List Value} {L : List It} {g o : Nat} {k : Value → Prop} {S : World → Prop} (hS : ∀ w, S w → Mayr L w) (hr : Rng L g o (headC a0 a1 a2 a3 a4 a5 a6 a7 a8)) (h3 : a3.length = 32) (h4 : a4.length = 32) (h5 : a5.length = 32) (h6 : a6.length = 32) (h7 : a7.length = 32) (hk : k a8) : tk Tryz.prog S (Instr.loadAt T.int (.pointer (some ⟨g, o + 163, none⟩))) k := tk_of _ (fun w hw => load_one (by kernel_rfl) (range_cell ((hS w hw).rng hr) (get_of_drop (headC_d8 h3 h4 h5 h6 h7)))) hk
theorem head.s8 {a0 a1 a2 a8 : Value} {a3 a4 a5 a6 a7 : List Value} {x : Value} {b : Base} {w : World} {L R : List It} {g : Nat} {k : Value → World → Prop} {tt : TypeId} (h : Sep b w L) (hm : Has L (blkI g tt (headC a0 a1 a2 a3 a4 a5 a6 a7 a8)) R) (h3 : a3.length = 32) (h4 : a4.length = 32) (h5 : a5.length = 32) (h6 : a6.length = 32) (h7 : a7.length = 32) (hv : x.cells = #[x] ∧ x.oneCell' = true) (hk : ∀ w', Sep b w' (blkI g tt (headC a0 a1 a2 a3 a4 a5 a6 a7 x) :: R) → k undef w') :
    o1 Tryz.prog (Instr.fieldAt T.api_Header (.pointer (some ⟨g, 0, none⟩)) 8) w fun a w => o0 Tryz.prog (Instr.storeAt T.int a x) w k :=
  sp_s1 (off := 163) (by kernel_rfl) (by kernel_rfl) (by simp [headC, h3, h4, h5, h6, h7]) (by simp [headC, List.set_append, h3, h4, h5, h6, h7]) hv h hm hk
theorem blokC_one {a1 : Value} {a0 a2 : List Value}  (o0 : ∀ u ∈ a0, u.oneCell' = true) (o1 : a1.oneCell' = true) (o2 : ∀ u ∈ a2, u.oneCell' = true) : ∀ u ∈ blokC a0 a1 a2, u.oneCell' = true := by
  intro u hu
  simp only [blokC, List.mem_cons, List.mem_append, List.not_mem_nil, or_false] at hu
  rcases hu with hu | rfl | hu
  · exact o0 u hu
  · exact o1
  · exact o2 u hu
theorem blok.l0 {a1 : Value} {a0 a2 : List Value} {b : Base} {w : World} {L : List It} {g o : Nat} {k : Value → World → Prop} (h : Sep b w L) (hr : Rng L g o (blokC a0 a1 a2))  (h0 : a0.length = 164) (hk : k (.agg a0.toArray) w) :
    o1 Tryz.prog (Instr.fieldAt T.api_Block (.pointer (some ⟨g, o, none⟩)) 0) w fun t w => o1 Tryz.prog (Instr.loadAt T.api_Header t) w k :=
  sp_fn (off := 0) (by kernel_rfl) (by kernel_rfl) h0 (blokC_d0 ) h hr hk
theorem blok.k0 {a1 : Value} {a0 a2 : List Value} {L : List It} {g o : Nat} {k : Value → Prop} {S : World → Prop} (hS : ∀ w, S w → Mayr L w) (hr : Rng L g o (blokC a0 a1 a2))  (h0 : a0.length = 164) (hk : k (.agg a0.toArray)) :
    tk Tryz.prog S (Instr.fieldAt T.api_Block (.pointer (some ⟨g, o, none⟩)) 0) fun t => tk Tryz.prog S (Instr.loadAt T.api_Header t) k :=
  tk_fn (off := 0) (by kernel_rfl) (by kernel_rfl) h0 (blokC_d0 ) hS hr hk
theorem blok.a0 {w : World} {g o : Nat} {k : Value → World → Prop} (hk : k (.pointer (some ⟨g, o + 0, none⟩)) w) : o1 Tryz.prog (Instr.fieldAt T.api_Block (.pointer (some ⟨g, o, none⟩)) 0) w k := st_of (fieldAt_run (by kernel_rfl) g o w) hk
theorem blok.c0 {g o : Nat} {k : Value → Prop} {S : World → Prop} (hk : k (.pointer (some ⟨g, o + 0, none⟩))) : tk Tryz.prog S (Instr.fieldAt T.api_Block (.pointer (some ⟨g, o, none⟩)) 0) k := tk_of _ (fun w _ => fieldAt_run (by kernel_rfl) g o w) hk
theorem blok.r0 {a1 : Value} {a0 a2 : List Value} {b : Base} {w : World} {L : List It} {g o : Nat} {k : Value → World → Prop} (h : Sep b w L) (hr : Rng L g o (blokC a0 a1 a2))  (h0 : a0.length = 164) (hk : k (.agg a0.toArray) w) : o1 Tryz.prog (Instr.loadAt T.api_Header (.pointer (some ⟨g, o + 0, none⟩))) w k := st_of (load_agg (by kernel_rfl) (range_sub (h.rng hr) 0 (sub_of_drop (blokC_d0 ))) (h0)) hk
theorem blok.e0 {a1 : Value} {a0 a2 : List Value} {L : List It} {g o : Nat} {k : Value → Prop} {S : World → Prop} (hS : ∀ w, S w → Mayr L w) (hr : Rng L g o (blokC a0 a1 a2))  (h0 : a0.length = 164) (hk : k (.agg a0.toArray)) : tk Tryz.prog S (Instr.loadAt T.api_Header (.pointer (some ⟨g, o + 0, none⟩))) k := tk_of _ (fun w hw => load_agg (by kernel_rfl) (range_sub ((hS w hw).rng hr) 0 (sub_of_drop (blokC_d0 ))) (h0)) hk
theorem blok.s0 {a1 : Value} {a0 a2 : List Value} {x : List Value} {b : Base} {w : World} {L R : List It} {g : Nat} {k : Value → World → Prop} {tt : TypeId} (h : Sep b w L) (hm : Has L (blkI g tt (blokC a0 a1 a2)) R) (h0 : a0.length = 164) (h2 : a2.length = 35) (hx : x.length = 164) (hv : ∀ u ∈ x, u.oneCell' = true) (hk : ∀ w', Sep b w' (blkI g tt (blokC x a1 a2) :: R) → k undef w') :
    o1 Tryz.prog (Instr.fieldAt T.api_Block (.pointer (some ⟨g, 0, none⟩)) 0) w fun a w => o0 Tryz.prog (Instr.storeAt T.api_Header a (.agg x.toArray)) w k :=
  sp_sn (off := 0) (by kernel_rfl) (by kernel_rfl) hx (by simp [blokC, h0, h2]) (by simp [blokC, List.take_append, List.drop_append, List.take_of_length_le, List.drop_of_length_le, h0, h2, hx]) hv h hm hk
theorem blok.l1 {a1 : Value} {a0 a2 : List Value} {b : Base} {w : World} {L : List It} {g o : Nat} {k : Value → World → Prop} (h : Sep b w L) (hr : Rng L g o (blokC a0 a1 a2)) (h0 : a0.length = 164) (hk : k a1 w) :
    o1 Tryz.prog (Instr.fieldAt T.api_Block (.pointer (some ⟨g, o, none⟩)) 1) w fun t w => o1 Tryz.prog (Instr.loadAt T.sl_sl_uint8 t) w k :=
  sp_f1 (off := 164) (by kernel_rfl) (by kernel_rfl) (blokC_d1 h0) h hr hk
theorem blok.k1 {a1 : Value} {a0 a2 : List Value} {L : List It} {g o : Nat} {k : Value → Prop} {S : World → Prop} (hS : ∀ w, S w → Mayr L w) (hr : Rng L g o (blokC a0 a1 a2)) (h0 : a0.length = 164) (hk : k a1) :
    tk Tryz.prog S (Instr.fieldAt T.api_Block (.pointer (some ⟨g, o, none⟩)) 1) fun t => tk Tryz.prog S (Instr.loadAt T.sl_sl_uint8 t) k :=
  tk_f1 (off := 164) (by kernel_rfl) (by kernel_rfl) (blokC_d1 h0) hS hr hk
theorem blok.a1 {w : World} {g o : Nat} {k : Value → World → Prop} (hk : k (.pointer (some ⟨g, o + 164, none⟩)) w) : o1 Tryz.prog (Instr.fieldAt T.api_Block (.pointer (some ⟨g, o, none⟩)) 1) w k := st_of (fieldAt_run (by kernel_rfl) g o w) hk
theorem blok.c1 {g o : Nat} {k : Value → Prop} {S : World → Prop} (hk : k (.pointer (some ⟨g, o + 164, none⟩))) : tk Tryz.prog S (Instr.fieldAt T.api_Block (.pointer (some ⟨g, o, none⟩)) 1) k := tk_of _ (fun w _ => fieldAt_run (by kernel_rfl) g o w) hk
theorem blok.r1 {a1 : Value} {a0 a2 : List Value} {b : Base} {w : World} {L : List It} {g o : Nat} {k : Value → World → Prop} (h : Sep b w L) (hr : Rng L g o (blokC a0 a1 a2)) (h0 : a0.length = 164) (hk : k a1 w) : o1 Tryz.prog (Instr.loadAt T.sl_sl_uint8 (.pointer (some ⟨g, o + 164, none⟩))) w k := st_of (load_one (by kernel_rfl) (range_cell (h.rng hr) (get_of_drop (blokC_d1 h0)))) hk
theorem blok.e1 {a1 : Value} {a0 a2 : List Value} {L : List It} {g o : Nat} {k : Value → Prop} {S : World → Prop} (hS : ∀ w, S w → Mayr L w) (hr : Rng L g o (blokC a0 a1 a2)) (h0 : a0.length = 164) (hk : k a1) : tk Tryz.prog S (Instr.loadAt T.sl_sl_uint8 (.pointer (some ⟨g, o + 164, none⟩))) k := tk_of _ (fun w hw => load_one (by kernel_rfl) (range_cell ((hS w hw).rng hr) (get_of_drop (blokC_d1 h0)))) hk
theorem blok.s1 {a1 : Value} {a0 a2 : List Value} {x : Value} {b : Base} {w : World} {L R : List It} {g : Nat} {k : Value → World → Prop} {tt : TypeId} (h : Sep b w L) (hm : Has L (blkI g tt (blokC a0 a1 a2)) R) (h0 : a0.length = 164) (h2 : a2.length = 35) (hv : x.cells = #[x] ∧ x.oneCell' = true) (hk : ∀ w', Sep b w' (blkI g tt (blokC a0 x a2) :: R) → k undef w') :
    o1 Tryz.prog (Instr.fieldAt T.api_Block (.pointer (some ⟨g, 0, none⟩)) 1) w fun a w => o0 Tryz.prog (Instr.storeAt T.sl_sl_uint8 a x) w k :=
  sp_s1 (off := 164) (by kernel_rfl) (by kernel_rfl) (by simp [blokC, h0, h2]) (by simp [blokC, List.set_append, h0, h2]) hv h hm hk
theorem blok.l2 {a1 : Value} {a0 a2 : List Value} {b : Base} {w : World} {L : List It} {g o : Nat} {k : Value → World → Prop} (h : Sep b w L) (hr : Rng L g o (blokC a0 a1 a2)) (h0 : a0.length = 164) (h2 : a2.length = 35) (hk : k (.agg a2.toArray) w) :
    o1 Tryz.prog (Instr.fieldAt T.api_Block (.pointer (some ⟨g, o, none⟩)) 2) w fun t w => o1 Tryz.prog (Instr.loadAt T.api_Commit t) w k :=
  sp_fn (off := 165) (by kernel_rfl) (by kernel_rfl) h2 (blokC_d2 h0) h hr hk
theorem blok.k2 {a1 : Value} {a0 a2 : List Value} {L : List It} {g o : Nat} {k : Value → Prop} {S : World → Prop} (hS : ∀ w, S w → Mayr L w) (hr : Rng L g o (blokC a0 a1 a2)) (h0 : a0.length = 164) (h2 : a2.length = 35) (hk : k (.agg a2.toArray)) :
    tk Tryz.prog S (Instr.fieldAt T.api_Block (.pointer (some ⟨g, o, none⟩)) 2) fun t => tk Tryz.prog S (Instr.loadAt T.api_Commit t) k :=
  tk_fn (off := 165) (by kernel_rfl) (by kernel_rfl) h2 (blokC_d2 h0) hS hr hk
theorem blok.a2 {w : World} {g o : Nat} {k : Value → World → Prop} (hk : k (.pointer (some ⟨g, o + 165, none⟩)) w) : o1 Tryz.prog (Instr.fieldAt T.api_Block (.pointer (some ⟨g, o, none⟩)) 2) w k := st_of (fieldAt_run (by kernel_rfl) g o w) hk
theorem blok.c2 {g o : Nat} {k : Value → Prop} {S : World → Prop} (hk : k (.pointer (some ⟨g, o + 165, none⟩))) : tk Tryz.prog S (Instr.fieldAt T.api_Block (.pointer (some ⟨g, o, none⟩)) 2) k := tk_of _ (fun w _ => fieldAt_run (by kernel_rfl) g o w) hk
theorem blok.r2 {a1 : Value} {a0 a2 : List Value} {b : Base} {w : World} {L : List It} {g o : Nat} {k : Value → World → Prop} (h : Sep b w L) (hr : Rng L g o (blokC a0 a1 a2)) (h0 : a0.length = 164) (h2 : a2.length = 35) (hk : k (.agg a2.toArray) w) : o1 Tryz.prog (Instr.loadAt T.api_Commit (.pointer (some ⟨g, o + 165, none⟩))) w k := st_of (load_agg (by kernel_rfl) (range_sub (h.rng hr) 165 (sub_of_drop (blokC_d2 h0))) (h2)) hk
theorem blok.e2 {a1 : Value} {a0 a2 : List Value} {L : List It} {g o : Nat} {k : Value → Prop} {S : World → Prop} (hS : ∀ w, S w → Mayr L w) (hr : Rng L g o (blokC a0 a1 a2)) (h0 : a0.length = 164) (h2 : a2.length = 35) (hk : k (.agg a2.toArray)) : tk Tryz.prog S (Instr.loadAt T.api_Commit (.pointer (some ⟨g, o + 165, none⟩))) k := tk_of _ (fun w hw => load_agg (by kernel_rfl) (range_sub ((hS w hw).rng hr) 165 (sub_of_drop (blokC_d2 h0))) (h2)) hk
theorem blok.s2 {a1 : Value} {a0 a2 : List Value} {x : List Value} {b : Base} {w : World} {L R : List It} {g : Nat} {k : Value → World → Prop} {tt : TypeId} (h : Sep b w L) (hm : Has L (blkI g tt (blokC a0 a1 a2)) R) (h0 : a0.length = 164) (h2 : a2.length = 35) (hx : x.length = 35) (hv : ∀ u ∈ x, u.oneCell' = true) (hk : ∀ w', Sep b w' (blkI g tt (blokC a0 a1 x) :: R) → k undef w') :
    o1 Tryz.prog (Instr.fieldAt T.api_Block (.pointer (some ⟨g, 0, none⟩)) 2) w fun a w => o0 Tryz.prog (Instr.storeAt T.api_Commit a (.agg x.toArray)) w k :=
  sp_sn (off := 165) (by kernel_rfl) (by kernel_rfl) hx (by simp [blokC, h0, h2]) (by simp [blokC, List.take_append, List.drop_append, List.take_of_length_le, List.drop_of_length_le, h0, h2, hx]) hv h hm hk
theorem valiC_one {a0 a2 : Value} {a1 : List Value}  (o0 : a0.oneCell' = true) (o1 : ∀ u ∈ a1, u.oneCell' = true) (o2 : a2.oneCell' = true) : ∀ u ∈ valiC a0 a1 a2, u.oneCell' = true := by
  intro u hu
  simp only [valiC, List.mem_cons, List.mem_append, List.not_mem_nil, or_false] at hu
  rcases hu with rfl | hu | rfl
  · exact o0
  · exact o1 u hu
  · exact o2
theorem vali.l0 {a0 a2 : Value} {a1 : List Value} {b : Base} {w : World} {L : List It} {g o : Nat} {k : Value → World → Prop} (h : Sep b w L) (hr : Rng L g o (valiC a0 a1 a2))  (hk : k a0 w) :
    o1 Tryz.prog (Instr.fieldAt T.api_Validator (.pointer (some ⟨g, o, none⟩)) 0) w fun t w => o1 Tryz.prog (Instr.loadAt T.string t) w k :=
  sp_f1 (off := 0) (by kernel_rfl) (by kernel_rfl) (valiC_d0 ) h hr hk
theorem vali.k0 {a0 a2 : Value} {a1 : List Value} {L : List It} {g o : Nat} {k : Value → Prop} {S : World → Prop} (hS : ∀ w, S w → Mayr L w) (hr : Rng L g o (valiC a0 a1 a2))  (hk : k a0) :
    tk Tryz.prog S (Instr.fieldAt T.api_Validator (.pointer (some ⟨g, o, none⟩)) 0) fun t => tk Tryz.prog S (Instr.loadAt T.string t) k :=
  tk_f1 (off := 0) (by kernel_rfl) (by kernel_rfl) (valiC_d0 ) hS hr hk
theorem vali.a0 {w : World} {g o : Nat} {k : Value → World → Prop} (hk : k (.pointer (some ⟨g, o + 0, none⟩)) w) : o1 Tryz.prog (Instr.fieldAt T.api_Validator (.pointer (some ⟨g, o, none⟩)) 0) w k := st_of (fieldAt_run (by kernel_rfl) g o w) hk
theorem vali.c0 {g o : Nat} {k : Value → Prop} {S : World → Prop} (hk : k (.pointer (some ⟨g, o + 0, none⟩))) : tk Tryz.prog S (Instr.fieldAt T.api_Validator (.pointer (some ⟨g, o, none⟩)) 0) k := tk_of _ (fun w _ => fieldAt_run (by kernel_rfl) g o w) hk
theorem vali.r0 {a0 a2 : Value} {a1 : List Value} {b : Base} {w : World} {L : List It} {g o : Nat} {k : Value → World → Prop} (h : Sep b w L) (hr : Rng L g o (valiC a0 a1 a2))  (hk : k a0 w) : o1 Tryz.prog (Instr.loadAt T.string (.pointer (some ⟨g, o + 0, none⟩))) w k := st_of (load_one (by kernel_rfl) (range_cell (h.rng hr) (get_of_drop (valiC_d0 )))) hk
theorem vali.e0 {a0 a2 : Value} {a1 : List Value} {L : List It} {g o : Nat} {k : Value → Prop} {S : World → Prop} (hS : ∀ w, S w → Mayr L w) (hr : Rng L g o (valiC a0 a1 a2))  (hk : k a0) : tk Tryz.prog S (Instr.loadAt T.string (.pointer (some ⟨g, o + 0, none⟩))) k := tk_of _ (fun w hw => load_one (by kernel_rfl) (range_cell ((hS w hw).rng hr) (get_of_drop (valiC_d0 )))) hk
theorem vali.s0 {a0 a2 : Value} {a1 : List Value} {x : Value} {b : Base} {w : World} {L R : List It} {g : Nat} {k : Value → World → Prop} {tt : TypeId} (h : Sep b w L) (hm : Has L (blkI g tt (valiC a0 a1 a2)) R) (h1 : a1.length = 32) (hv : x.cells = #[x] ∧ x.oneCell' = true) (hk : ∀ w', Sep b w' (blkI g tt (valiC x a1 a2) :: R) → k undef w') :
    o1 Tryz.prog (Instr.fieldAt T.api_Validator (.pointer (some ⟨g, 0, none⟩)) 0) w fun a w => o0 Tryz.prog (Instr.storeAt T.string a x) w k :=
  sp_s1 (off := 0) (by kernel_rfl) (by kernel_rfl) (by simp [valiC, h1]) (by simp [valiC, List.set_append, h1]) hv h hm hk
theorem vali.l1 {a0 a2 : Value} {a1 : List Value} {b : Base} {w : World} {L : List It} {g o : Nat} {k : Value → World → Prop} (h : Sep b w L) (hr : Rng L g o (valiC a0 a1 a2))  (h1 : a1.length = 32) (hk : k (.agg a1.toArray) w) :
    o1 Tryz.prog (Instr.fieldAt T.api_Validator (.pointer (some ⟨g, o, none⟩)) 1) w fun t w => o1 Tryz.prog (Instr.loadAt T.api_Hash t) w k :=
  sp_fn (off := 1) (by kernel_rfl) (by kernel_rfl) h1 (valiC_d1 ) h hr hk
theorem vali.k1 {a0 a2 : Value} {a1 : List Value} {L : List It} {g o : Nat} {k : Value → Prop} {S : World → Prop} (hS : ∀ w, S w → Mayr L w) (hr : Rng L g o (valiC a0 a1 a2))  (h1 : a1.length = 32) (hk : k (.agg a1.toArray)) :
    tk Tryz.prog S (Instr.fieldAt T.api_Validator (.pointer (some ⟨g, o, none⟩)) 1) fun t => tk Tryz.prog S (Instr.loadAt T.api_Hash t) k :=
  tk_fn (off := 1) (by kernel_rfl) (by kernel_rfl) h1 (valiC_d1 ) hS hr hk
theorem vali.a1 {w : World} {g o : Nat} {k : Value → World → Prop} (hk : k (.pointer (some ⟨g, o + 1, none⟩)) w) : o1 Tryz.prog (Instr.fieldAt T.api_Validator (.pointer (some ⟨g, o, none⟩)) 1) w k := st_of (fieldAt_run (by kernel_rfl) g o w) hk
theorem vali.c1 {g o : Nat} {k : Value → Prop} {S : World → Prop} (hk : k (.pointer (some ⟨g, o + 1, none⟩))) : tk Tryz.prog S (Instr.fieldAt T.api_Validator (.pointer (some ⟨g, o, none⟩)) 1) k := tk_of _ (fun w _ => fieldAt_run (by kernel_rfl) g o w) hk
theorem vali.r1 {a0 a2 : Value} {a1 : List Value} {b : Base} {w : World} {L : List It} {g o : Nat} {k : Value → World → Prop} (h : Sep b w L) (hr : Rng L g o (valiC a0 a1 a2))  (h1 : a1.length = 32) (hk : k (.agg a1.toArray) w) : o1 Tryz.prog (Instr.loadAt T.api_Hash (.pointer (some ⟨g, o + 1, none⟩))) w k := st_of (load_agg (by kernel_rfl) (range_sub (h.rng hr) 1 (sub_of_drop (valiC_d1 ))) (h1)) hk
theorem vali.e1 {a0 a2 : Value} {a1 : List Value} {L : List It} {g o : Nat} {k : Value → Prop} {S : World → Prop} (hS : ∀ w, S w → Mayr L w) (hr : Rng L g o (valiC a0 a1 a2))  (h1 : a1.length = 32) (hk : k (.agg a1.toArray)) : tk Tryz.prog S (Instr.loadAt T.api_Hash (.pointer (some ⟨g, o + 1, none⟩))) k := tk_of _ (fun w hw => load_agg (by kernel_rfl) (range_sub ((hS w hw).rng hr) 1 (sub_of_drop (valiC_d1 ))) (h1)) hk
theorem vali.s1 {a0 a2 : Value} {a1 : List Value} {x : List Value} {b : Base} {w : World} {L R : List It} {g : Nat} {k : Value → World → Prop} {tt : TypeId} (h : Sep b w L) (hm : Has L (blkI g tt (valiC a0 a1 a2)) R) (h1 : a1.length = 32) (hx : x.length = 32) (hv : ∀ u ∈ x, u.oneCell' = true) (hk : ∀ w', Sep b w' (blkI g tt (valiC a0 x a2) :: R) → k undef w') :
    o1 Tryz.prog (Instr.fieldAt T.api_Validator (.pointer (some ⟨g, 0, none⟩)) 1) w fun a w => o0 Tryz.prog (Instr.storeAt T.api_Hash a (.agg x.toArray)) w k :=
  sp_sn (off := 1) (by kernel_rfl) (by kernel_rfl) hx (by simp [valiC, h1]) (by simp [valiC, List.take_append, List.drop_append, List.take_of_length_le, List.drop_of_length_le, h1, hx]) hv h hm hk
theorem vali.l2 {a0 a2 : Value} {a1 : List Value} {b : Base} {w : World} {L : List It} {g o : Nat} {k : Value → World → Prop} (h : Sep b w L) (hr : Rng L g o (valiC a0 a1 a2)) (h1 : a1.length = 32) (hk : k a2 w) :
    o1 Tryz.prog (Instr.fieldAt T.api_Validator (.pointer (some ⟨g, o, none⟩)) 2) w fun t w => o1 Tryz.prog (Instr.loadAt T.int t) w k :=
  sp_f1 (off := 33) (by kernel_rfl) (by kernel_rfl) (valiC_d2 h1) h hr hk
theorem vali.k2 {a0 a2 : Value} {a1 : List Value} {L : List It} {g o : Nat} {k : Value → Prop} {S : World → Prop} (hS : ∀ w, S w → Mayr L w) (hr : Rng L g o (valiC a0 a1 a2)) (h1 : a1.length = 32) (hk : k a2) :
    tk Tryz.prog S (Instr.fieldAt T.api_Validator (.pointer (some ⟨g, o, none⟩)) 2) fun t => tk Tryz.prog S (Instr.loadAt T.int t) k :=
  tk_f1 (off := 33) (by kernel_rfl) (by kernel_rfl) (valiC_d2 h1) hS hr hk
theorem vali.a2 {w : World} {g o : Nat} {k : Value → World → Prop} (hk : k (.pointer (some ⟨g, o + 33, none⟩)) w) : o1 Tryz.prog (Instr.fieldAt T.api_Validator (.pointer (some ⟨g, o, none⟩)) 2) w k := st_of (fieldAt_run (by kernel_rfl) g o w) hk
theorem vali.c2 {g o : Nat} {k : Value → Prop} {S : World → Prop} (hk : k (.pointer (some ⟨g, o + 33, none⟩))) : tk Tryz.prog S (Instr.fieldAt T.api_Validator (.pointer (some ⟨g, o, none⟩)) 2) k := tk_of _ (fun w _ => fieldAt_run (by kernel_rfl) g o w) hk
theorem vali.r2 {a0 a2 : Value} {a1 : List Value} {b : Base} {w : World} {L : List It} {g o : Nat} {k : Value → World → Prop} (h : Sep b w L) (hr : Rng L g o (valiC a0 a1 a2)) (h1 : a1.length = 32) (hk : k a2 w) : o1 Tryz.prog (Instr.loadAt T.int (.pointer (some ⟨g, o + 33, none⟩))) w k := st_of (load_one (by kernel_rfl) (range_cell (h.rng hr) (get_of_drop (valiC_d2 h1)))) hk
theorem vali.e2 {a0 a2 : Value} {a1 : List Value} {L : List It} {g o : Nat} {k : Value → Prop} {S : World → Prop} (hS : ∀ w, S w → Mayr L w) (hr : Rng L g o (valiC a0 a1 a2)) (h1 : a1.length = 32) (hk : k a2) : tk Tryz.prog S (Instr.loadAt T.int (.pointer (some ⟨g, o + 33, none⟩))) k := tk_of _ (fun w hw => load_one (by kernel_rfl) (range_cell ((hS w hw).rng hr) (get_of_drop (valiC_d2 h1)))) hk
theorem vali.s2 {a0 a2 : Value} {a1 : List Value} {x : Value} {b : Base} {w : World} {L R : List It} {g : Nat} {k : Value → World → Prop} {tt : TypeId} (h : Sep b w L) (hm : Has L (blkI g tt (valiC a0 a1 a2)) R) (h1 : a1.length = 32) (hv : x.cells = #[x] ∧ x.oneCell' = true) (hk : ∀ w', Sep b w' (blkI g tt (valiC a0 a1 x) :: R) → k undef w') :
    o1 Tryz.prog (Instr.fieldAt T.api_Validator (.pointer (some ⟨g, 0, none⟩)) 2) w fun a w => o0 Tryz.prog (Instr.storeAt T.int a x) w k :=
  sp_s1 (off := 33) (by kernel_rfl) (by kernel_rfl) (by simp [valiC, h1]) (by simp [valiC, List.set_append, h1]) hv h hm hk
theorem paraC_one {a0 a1 : Value}  (o0 : a0.oneCell' = true) (o1 : a1.oneCell' = true) : ∀ u ∈ paraC a0 a1, u.oneCell' = true := by
  intro u hu
  simp only [paraC, List.mem_cons, List.mem_append, List.not_mem_nil, or_false] at hu
  rcases hu with rfl | rfl
  · exact o0
  · exact o1
theorem para.l0 {a0 a1 : Value} {b : Base} {w : World} {L : List It} {g o : Nat} {k : Value → World → Prop} (h : Sep b w L) (hr : Rng L g o (paraC a0 a1))  (hk : k a0 w) :
    o1 Tryz.prog (Instr.fieldAt T.api_Params (.pointer (some ⟨g, o, none⟩)) 0) w fun t w => o1 Tryz.prog (Instr.loadAt T.int t) w k :=
  sp_f1 (off := 0) (by kernel_rfl) (by kernel_rfl) (paraC_d0 ) h hr hk
theorem para.k0 {a0 a1 : Value} {L : List It} {g o : Nat} {k : Value → Prop} {S : World → Prop} (hS : ∀ w, S w → Mayr L w) (hr : Rng L g o (paraC a0 a1))  (hk : k a0) :
    tk Tryz.prog S (Instr.fieldAt T.api_Params (.pointer (some ⟨g, o, none⟩)) 0) fun t => tk Tryz.prog S (Instr.loadAt T.int t) k :=
  tk_f1 (off := 0) (by kernel_rfl) (by kernel_rfl) (paraC_d0 ) hS hr hk
theorem para.a0 {w : World} {g o : Nat} {k : Value → World → Prop} (hk : k (.pointer (some ⟨g, o + 0, none⟩)) w) : o1 Tryz.prog (Instr.fieldAt T.api_Params (.pointer (some ⟨g, o, none⟩)) 0) w k := st_of (fieldAt_run (by kernel_rfl) g o w) hk
theorem para.c0 {g o : Nat} {k : Value → Prop} {S : World → Prop} (hk : k (.pointer (some ⟨g, o + 0, none⟩))) : tk Tryz.prog S (Instr.fieldAt T.api_Params (.pointer (some ⟨g, o, none⟩)) 0) k := tk_of _ (fun w _ => fieldAt_run (by kernel_rfl) g o w) hk
theorem para.r0 {a0 a1 : Value} {b : Base} {w : World} {L : List It} {g o : Nat} {k : Value → World → Prop} (h : Sep b w L) (hr : Rng L g o (paraC a0 a1))  (hk : k a0 w) : o1 Tryz.prog (Instr.loadAt T.int (.pointer (some ⟨g, o + 0, none⟩))) w k := st_of (load_one (by kernel_rfl) (range_cell (h.rng hr) (get_of_drop (paraC_d0 )))) hk
theorem para.e0 {a0 a1 : Value} {L : List It} {g o : Nat} {k : Value → Prop} {S : World → Prop} (hS : ∀ w, S w → Mayr L w) (hr : Rng L g o (paraC a0 a1))  (hk : k a0) : tk Tryz.prog S (Instr.loadAt T.int (.pointer (some ⟨g, o + 0, none⟩))) k := tk_of _ (fun w hw => load_one (by kernel_rfl) (range_cell ((hS w hw).rng hr) (get_of_drop (paraC_d0 )))) hk
theorem para.s0 {a0 a1 : Value} {x : Value} {b : Base} {w : World} {L R : List It} {g : Nat} {k : Value → World → Prop} {tt : TypeId} (h : Sep b w L) (hm : Has L (blkI g tt (paraC a0 a1)) R)  (hv : x.cells = #[x] ∧ x.oneCell' = true) (hk : ∀ w', Sep b w' (blkI g tt (paraC x a1) :: R) → k undef w') :
    o1 Tryz.prog (Instr.fieldAt T.api_Params (.pointer (some ⟨g, 0, none⟩)) 0) w fun a w => o0 Tryz.prog (Instr.storeAt T.int a x) w k :=
  sp_s1 (off := 0) (by kernel_rfl) (by kernel_rfl) (by simp [paraC]) (by simp [paraC, List.set_append]) hv h hm hk
theorem para.l1 {a0 a1 : Value} {b : Base} {w : World} {L : List It} {g o : Nat} {k : Value → World → Prop} (h : Sep b w L) (hr : Rng L g o (paraC a0 a1))  (hk : k a1 w) :
    o1 Tryz.prog (Instr.fieldAt T.api_Params (.pointer (some ⟨g, o, none⟩)) 1) w fun t w => o1 Tryz.prog (Instr.loadAt T.int t) w k :=
  sp_f1 (off := 1) (by kernel_rfl) (by kernel_rfl) (paraC_d1 ) h hr hk
theorem para.k1 {a0 a1 : Value} {L : List It} {g o : Nat} {k : Value → Prop} {S : World → Prop} (hS : ∀ w, S w → Mayr L w) (hr : Rng L g o (paraC a0 a1))  (hk : k a1) :
    tk Tryz.prog S (Instr.fieldAt T.api_Params (.pointer (some ⟨g, o, none⟩)) 1) fun t => tk Tryz.prog S (Instr.loadAt T.int t) k :=
  tk_f1 (off := 1) (by kernel_rfl) (by kernel_rfl) (paraC_d1 ) hS hr hk
theorem para.a1 {w : World} {g o : Nat} {k : Value → World → Prop} (hk : k (.pointer (some ⟨g, o + 1, none⟩)) w) : o1 Tryz.prog (Instr.fieldAt T.api_Params (.pointer (some ⟨g, o, none⟩)) 1) w k := st_of (fieldAt_run (by kernel_rfl) g o w) hk
theorem para.c1 {g o : Nat} {k : Value → Prop} {S : World → Prop} (hk : k (.pointer (some ⟨g, o + 1, none⟩))) : tk Tryz.prog S (Instr.fieldAt T.api_Params (.pointer (some ⟨g, o, none⟩)) 1) k := tk_of _ (fun w _ => fieldAt_run (by kernel_rfl) g o w) hk
theorem para.r1 {a0 a1 : Value} {b : Base} {w : World} {L : List It} {g o : Nat} {k : Value → World → Prop} (h : Sep b w L) (hr : Rng L g o (paraC a0 a1))  (hk : k a1 w) : o1 Tryz.prog (Instr.loadAt T.int (.pointer (some ⟨g, o + 1, none⟩))) w k := st_of (load_one (by kernel_rfl) (range_cell (h.rng hr) (get_of_drop (paraC_d1 )))) hk
theorem para.e1 {a0 a1 : Value} {L : List It} {g o : Nat} {k : Value → Prop} {S : World → Prop} (hS : ∀ w, S w → Mayr L w) (hr : Rng L g o (paraC a0 a1))  (hk : k a1) : tk Tryz.prog S (Instr.loadAt T.int (.pointer (some ⟨g, o + 1, none⟩))) k := tk_of _ (fun w hw => load_one (by kernel_rfl) (range_cell ((hS w hw).rng hr) (get_of_drop (paraC_d1 )))) hk
theorem para.s1 {a0 a1 : Value} {x : Value} {b : Base} {w : World} {L R : List It} {g : Nat} {k : Value → World → Prop} {tt : TypeId} (h : Sep b w L) (hm : Has L (blkI g tt (paraC a0 a1)) R)  (hv : x.cells = #[x] ∧ x.oneCell' = true) (hk : ∀ w', Sep b w' (blkI g tt (paraC a0 x) :: R) → k undef w') :
    o1 Tryz.prog (Instr.fieldAt T.api_Params (.pointer (some ⟨g, 0, none⟩)) 1) w fun a w => o0 Tryz.prog (Instr.storeAt T.int a x) w k :=
  sp_s1 (off := 1) (by kernel_rfl) (by kernel_rfl) (by simp [paraC]) (by simp [paraC, List.set_append]) hv h hm hk
theorem rrdC_one {a0 a1 : Value}  (o0 : a0.oneCell' = true) (o1 : a1.oneCell' = true) : ∀ u ∈ rrdC a0 a1, u.oneCell' = true := by
  intro u hu
  simp only [rrdC, List.mem_cons, List.mem_append, List.not_mem_nil, or_false] at hu
  rcases hu with rfl | rfl
  · exact o0
  · exact o1
theorem rrd.l0 {a0 a1 : Value} {b : Base} {w : World} {L : List It} {g o : Nat} {k : Value → World → Prop} (h : Sep b w L) (hr : Rng L g o (rrdC a0 a1))  (hk : k a0 w) :
    o1 Tryz.prog (Instr.fieldAt T.isthmusref02_Reader (.pointer (some ⟨g, o, none⟩)) 0) w fun t w => o1 Tryz.prog (Instr.loadAt T.sl_uint8 t) w k :=
  sp_f1 (off := 0) (by kernel_rfl) (by kernel_rfl) (rrdC_d0 ) h hr hk
theorem rrd.k0 {a0 a1 : Value} {L : List It} {g o : Nat} {k : Value → Prop} {S : World → Prop} (hS : ∀ w, S w → Mayr L w) (hr : Rng L g o (rrdC a0 a1))  (hk : k a0) :
    tk Tryz.prog S (Instr.fieldAt T.isthmusref02_Reader (.pointer (some ⟨g, o, none⟩)) 0) fun t => tk Tryz.prog S (Instr.loadAt T.sl_uint8 t) k :=
  tk_f1 (off := 0) (by kernel_rfl) (by kernel_rfl) (rrdC_d0 ) hS hr hk
theorem rrd.a0 {w : World} {g o : Nat} {k : Value → World → Prop} (hk : k (.pointer (some ⟨g, o + 0, none⟩)) w) : o1 Tryz.prog (Instr.fieldAt T.isthmusref02_Reader (.pointer (some ⟨g, o, none⟩)) 0) w k := st_of (fieldAt_run (by kernel_rfl) g o w) hk
theorem rrd.c0 {g o : Nat} {k : Value → Prop} {S : World → Prop} (hk : k (.pointer (some ⟨g, o + 0, none⟩))) : tk Tryz.prog S (Instr.fieldAt T.isthmusref02_Reader (.pointer (some ⟨g, o, none⟩)) 0) k := tk_of _ (fun w _ => fieldAt_run (by kernel_rfl) g o w) hk
theorem rrd.r0 {a0 a1 : Value} {b : Base} {w : World} {L : List It} {g o : Nat} {k : Value → World → Prop} (h : Sep b w L) (hr : Rng L g o (rrdC a0 a1))  (hk : k a0 w) : o1 Tryz.prog (Instr.loadAt T.sl_uint8 (.pointer (some ⟨g, o + 0, none⟩))) w k := st_of (load_one (by kernel_rfl) (range_cell (h.rng hr) (get_of_drop (rrdC_d0 )))) hk
theorem rrd.e0 {a0 a1 : Value} {L : List It} {g o : Nat} {k : Value → Prop} {S : World → Prop} (hS : ∀ w, S w → Mayr L w) (hr : Rng L g o (rrdC a0 a1))  (hk : k a0) : tk Tryz.prog S (Instr.loadAt T.sl_uint8 (.pointer (some ⟨g, o + 0, none⟩))) k := tk_of _ (fun w hw => load_one (by kernel_rfl) (range_cell ((hS w hw).rng hr) (get_of_drop (rrdC_d0 )))) hk
theorem rrd.s0 {a0 a1 : Value} {x : Value} {b : Base} {w : World} {L R : List It} {g : Nat} {k : Value → World → Prop} {tt : TypeId} (h : Sep b w L) (hm : Has L (blkI g tt (rrdC a0 a1)) R)  (hv : x.cells = #[x] ∧ x.oneCell' = true) (hk : ∀ w', Sep b w' (blkI g tt (rrdC x a1) :: R) → k undef w') :
    o1 Tryz.prog (Instr.fieldAt T.isthmusref02_Reader (.pointer (some ⟨g, 0, none⟩)) 0) w fun a w => o0 Tryz.prog (Instr.storeAt T.sl_uint8 a x) w k :=
  sp_s1 (off := 0) (by kernel_rfl) (by kernel_rfl) (by simp [rrdC]) (by simp [rrdC, List.set_append]) hv h hm hk
theorem rrd.l1 {a0 a1 : Value} {b : Base} {w : World} {L : List It} {g o : Nat} {k : Value → World → Prop} (h : Sep b w L) (hr : Rng L g o (rrdC a0 a1))  (hk : k a1 w) :
    o1 Tryz.prog (Instr.fieldAt T.isthmusref02_Reader (.pointer (some ⟨g, o, none⟩)) 1) w fun t w => o1 Tryz.prog (Instr.loadAt T.int t) w k :=
  sp_f1 (off := 1) (by kernel_rfl) (by kernel_rfl) (rrdC_d1 ) h hr hk
theorem rrd.k1 {a0 a1 : Value} {L : List It} {g o : Nat} {k : Value → Prop} {S : World → Prop} (hS : ∀ w, S w → Mayr L w) (hr : Rng L g o (rrdC a0 a1))  (hk : k a1) :
    tk Tryz.prog S (Instr.fieldAt T.isthmusref02_Reader (.pointer (some ⟨g, o, none⟩)) 1) fun t => tk Tryz.prog S (Instr.loadAt T.int t) k :=
  tk_f1 (off := 1) (by kernel_rfl) (by kernel_rfl) (rrdC_d1 ) hS hr hk
theorem rrd.a1 {w : World} {g o : Nat} {k : Value → World → Prop} (hk : k (.pointer (some ⟨g, o + 1, none⟩)) w) : o1 Tryz.prog (Instr.fieldAt T.isthmusref02_Reader (.pointer (some ⟨g, o, none⟩)) 1) w k := st_of (fieldAt_run (by kernel_rfl) g o w) hk
theorem rrd.c1 {g o : Nat} {k : Value → Prop} {S : World → Prop} (hk : k (.pointer (some ⟨g, o + 1, none⟩))) : tk Tryz.prog S (Instr.fieldAt T.isthmusref02_Reader (.pointer (some ⟨g, o, none⟩)) 1) k := tk_of _ (fun w _ => fieldAt_run (by kernel_rfl) g o w) hk
theorem rrd.r1 {a0 a1 : Value} {b : Base} {w : World} {L : List It} {g o : Nat} {k : Value → World → Prop} (h : Sep b w L) (hr : Rng L g o (rrdC a0 a1))  (hk : k a1 w) : o1 Tryz.prog (Instr.loadAt T.int (.pointer (some ⟨g, o + 1, none⟩))) w k := st_of (load_one (by kernel_rfl) (range_cell (h.rng hr) (get_of_drop (rrdC_d1 )))) hk
theorem rrd.e1 {a0 a1 : Value} {L : List It} {g o : Nat} {k : Value → Prop} {S : World → Prop} (hS : ∀ w, S w → Mayr L w) (hr : Rng L g o (rrdC a0 a1))  (hk : k a1) : tk Tryz.prog S (Instr.loadAt T.int (.pointer (some ⟨g, o + 1, none⟩))) k := tk_of _ (fun w hw => load_one (by kernel_rfl) (range_cell ((hS w hw).rng hr) (get_of_drop (rrdC_d1 )))) hk
theorem rrd.s1 {a0 a1 : Value} {x : Value} {b : Base} {w : World} {L R : List It} {g : Nat} {k : Value → World → Prop} {tt : TypeId} (h : Sep b w L) (hm : Has L (blkI g tt (rrdC a0 a1)) R)  (hv : x.cells = #[x] ∧ x.oneCell' = true) (hk : ∀ w', Sep b w' (blkI g tt (rrdC a0 x) :: R) → k undef w') :
    o1 Tryz.prog (Instr.fieldAt T.isthmusref02_Reader (.pointer (some ⟨g, 0, none⟩)) 1) w fun a w => o0 Tryz.prog (Instr.storeAt T.int a x) w k :=
  sp_s1 (off := 1) (by kernel_rfl) (by kernel_rfl) (by simp [rrdC]) (by simp [rrdC, List.set_append]) hv h hm hk
theorem prdC_one {a0 a1 : Value}  (o0 : a0.oneCell' = true) (o1 : a1.oneCell' = true) : ∀ u ∈ prdC a0 a1, u.oneCell' = true := by
  intro u hu
  simp only [prdC, List.mem_cons, List.mem_append, List.not_mem_nil, or_false] at hu
  rcases hu with rfl | rfl
  · exact o0
  · exact o1
theorem prd.l0 {a0 a1 : Value} {b : Base} {w : World} {L : List It} {g o : Nat} {k : Value → World → Prop} (h : Sep b w L) (hr : Rng L g o (prdC a0 a1))  (hk : k a0 w) :
    o1 Tryz.prog (Instr.fieldAt T.pack_Reader (.pointer (some ⟨g, o, none⟩)) 0) w fun t w => o1 Tryz.prog (Instr.loadAt T.sl_uint8 t) w k :=
  sp_f1 (off := 0) (by kernel_rfl) (by kernel_rfl) (prdC_d0 ) h hr hk
theorem prd.k0 {a0 a1 : Value} {L : List It} {g o : Nat} {k : Value → Prop} {S : World → Prop} (hS : ∀ w, S w → Mayr L w) (hr : Rng L g o (prdC a0 a1))  (hk : k a0) :
    tk Tryz.prog S (Instr.fieldAt T.pack_Reader (.pointer (some ⟨g, o, none⟩)) 0) fun t => tk Tryz.prog S (Instr.loadAt T.sl_uint8 t) k :=
  tk_f1 (off := 0) (by kernel_rfl) (by kernel_rfl) (prdC_d0 ) hS hr hk
theorem prd.a0 {w : World} {g o : Nat} {k : Value → World → Prop} (hk : k (.pointer (some ⟨g, o + 0, none⟩)) w) : o1 Tryz.prog (Instr.fieldAt T.pack_Reader (.pointer (some ⟨g, o, none⟩)) 0) w k := st_of (fieldAt_run (by kernel_rfl) g o w) hk
theorem prd.c0 {g o : Nat} {k : Value → Prop} {S : World → Prop} (hk : k (.pointer (some ⟨g, o + 0, none⟩))) : tk Tryz.prog S (Instr.fieldAt T.pack_Reader (.pointer (some ⟨g, o, none⟩)) 0) k := tk_of _ (fun w _ => fieldAt_run (by kernel_rfl) g o w) hk
theorem prd.r0 {a0 a1 : Value} {b : Base} {w : World} {L : List It} {g o : Nat} {k : Value → World → Prop} (h : Sep b w L) (hr : Rng L g o (prdC a0 a1))  (hk : k a0 w) : o1 Tryz.prog (Instr.loadAt T.sl_uint8 (.pointer (some ⟨g, o + 0, none⟩))) w k := st_of (load_one (by kernel_rfl) (range_cell (h.rng hr) (get_of_drop (prdC_d0 )))) hk
theorem prd.e0 {a0 a1 : Value} {L : List It} {g o : Nat} {k : Value → Prop} {S : World → Prop} (hS : ∀ w, S w → Mayr L w) (hr : Rng L g o (prdC a0 a1))  (hk : k a0) : tk Tryz.prog S (Instr.loadAt T.sl_uint8 (.pointer (some ⟨g, o + 0, none⟩))) k := tk_of _ (fun w hw => load_one (by kernel_rfl) (range_cell ((hS w hw).rng hr) (get_of_drop (prdC_d0 )))) hk
theorem prd.s0 {a0 a1 : Value} {x : Value} {b : Base} {w : World} {L R : List It} {g : Nat} {k : Value → World → Prop} {tt : TypeId} (h : Sep b w L) (hm : Has L (blkI g tt (prdC a0 a1)) R)  (hv : x.cells = #[x] ∧ x.oneCell' = true) (hk : ∀ w', Sep b w' (blkI g tt (prdC x a1) :: R) → k undef w') :
    o1 Tryz.prog (Instr.fieldAt T.pack_Reader (.pointer (some ⟨g, 0, none⟩)) 0) w fun a w => o0 Tryz.prog (Instr.storeAt T.sl_uint8 a x) w k :=
  sp_s1 (off := 0) (by kernel_rfl) (by kernel_rfl) (by simp [prdC]) (by simp [prdC, List.set_append]) hv h hm hk
theorem prd.l1 {a0 a1 : Value} {b : Base} {w : World} {L : List It} {g o : Nat} {k : Value → World → Prop} (h : Sep b w L) (hr : Rng L g o (prdC a0 a1))  (hk : k a1 w) :
    o1 Tryz.prog (Instr.fieldAt T.pack_Reader (.pointer (some ⟨g, o, none⟩)) 1) w fun t w => o1 Tryz.prog (Instr.loadAt T.error t) w k :=
  sp_f1 (off := 1) (by kernel_rfl) (by kernel_rfl) (prdC_d1 ) h hr hk
theorem prd.k1 {a0 a1 : Value} {L : List It} {g o : Nat} {k : Value → Prop} {S : World → Prop} (hS : ∀ w, S w → Mayr L w) (hr : Rng L g o (prdC a0 a1))  (hk : k a1) :
    tk Tryz.prog S (Instr.fieldAt T.pack_Reader (.pointer (some ⟨g, o, none⟩)) 1) fun t => tk Tryz.prog S (Instr.loadAt T.error t) k :=
  tk_f1 (off := 1) (by kernel_rfl) (by kernel_rfl) (prdC_d1 ) hS hr hk
theorem prd.a1 {w : World} {g o : Nat} {k : Value → World → Prop} (hk : k (.pointer (some ⟨g, o + 1, none⟩)) w) : o1 Tryz.prog (Instr.fieldAt T.pack_Reader (.pointer (some ⟨g, o, none⟩)) 1) w k := st_of (fieldAt_run (by kernel_rfl) g o w) hk
theorem prd.c1 {g o : Nat} {k : Value → Prop} {S : World → Prop} (hk : k (.pointer (some ⟨g, o + 1, none⟩))) : tk Tryz.prog S (Instr.fieldAt T.pack_Reader (.pointer (some ⟨g, o, none⟩)) 1) k := tk_of _ (fun w _ => fieldAt_run (by kernel_rfl) g o w) hk
theorem prd.r1 {a0 a1 : Value} {b : Base} {w : World} {L : List It} {g o : Nat} {k : Value → World → Prop} (h : Sep b w L) (hr : Rng L g o (prdC a0 a1))  (hk : k a1 w) : o1 Tryz.prog (Instr.loadAt T.error (.pointer (some ⟨g, o + 1, none⟩))) w k := st_of (load_one (by kernel_rfl) (range_cell (h.rng hr) (get_of_drop (prdC_d1 )))) hk
theorem prd.e1 {a0 a1 : Value} {L : List It} {g o : Nat} {k : Value → Prop} {S : World → Prop} (hS : ∀ w, S w → Mayr L w) (hr : Rng L g o (prdC a0 a1))  (hk : k a1) : tk Tryz.prog S (Instr.loadAt T.error (.pointer (some ⟨g, o + 1, none⟩))) k := tk_of _ (fun w hw => load_one (by kernel_rfl) (range_cell ((hS w hw).rng hr) (get_of_drop (prdC_d1 )))) hk
theorem prd.s1 {a0 a1 : Value} {x : Value} {b : Base} {w : World} {L R : List It} {g : Nat} {k : Value → World → Prop} {tt : TypeId} (h : Sep b w L) (hm : Has L (blkI g tt (prdC a0 a1)) R)  (hv : x.cells = #[x] ∧ x.oneCell' = true) (hk : ∀ w', Sep b w' (blkI g tt (prdC a0 x) :: R) → k undef w') :
    o1 Tryz.prog (Instr.fieldAt T.pack_Reader (.pointer (some ⟨g, 0, none⟩)) 1) w fun a w => o0 Tryz.prog (Instr.storeAt T.error a x) w k :=
  sp_s1 (off := 1) (by kernel_rfl) (by kernel_rfl) (by simp [prdC]) (by simp [prdC, List.set_append]) hv h hm hk
theorem faultC_one {a0 a1 : Value}  (o0 : a0.oneCell' = true) (o1 : a1.oneCell' = true) : ∀ u ∈ faultC a0 a1, u.oneCell' = true := by
  intro u hu
  simp only [faultC, List.mem_cons, List.mem_append, List.not_mem_nil, or_false] at hu
  rcases hu with rfl | rfl
  · exact o0
  · exact o1
theorem fault.l0 {a0 a1 : Value} {b : Base} {w : World} {L : List It} {g o : Nat} {k : Value → World → Prop} (h : Sep b w L) (hr : Rng L g o (faultC a0 a1))  (hk : k a0 w) :
    o1 Tryz.prog (Instr.fieldAt T.api_Fault (.pointer (some ⟨g, o, none⟩)) 0) w fun t w => o1 Tryz.prog (Instr.loadAt T.string t) w k :=
  sp_f1 (off := 0) (by kernel_rfl) (by kernel_rfl) (faultC_d0 ) h hr hk
theorem fault.k0 {a0 a1 : Value} {L : List It} {g o : Nat} {k : Value → Prop} {S : World → Prop} (hS : ∀ w, S w → Mayr L w) (hr : Rng L g o (faultC a0 a1))  (hk : k a0) :
    tk Tryz.prog S (Instr.fieldAt T.api_Fault (.pointer (some ⟨g, o, none⟩)) 0) fun t => tk Tryz.prog S (Instr.loadAt T.string t) k :=
  tk_f1 (off := 0) (by kernel_rfl) (by kernel_rfl) (faultC_d0 ) hS hr hk
theorem fault.a0 {w : World} {g o : Nat} {k : Value → World → Prop} (hk : k (.pointer (some ⟨g, o + 0, none⟩)) w) : o1 Tryz.prog (Instr.fieldAt T.api_Fault (.pointer (some ⟨g, o, none⟩)) 0) w k := st_of (fieldAt_run (by kernel_rfl) g o w) hk
theorem fault.c0 {g o : Nat} {k : Value → Prop} {S : World → Prop} (hk : k (.pointer (some ⟨g, o + 0, none⟩))) : tk Tryz.prog S (Instr.fieldAt T.api_Fault (.pointer (some ⟨g, o, none⟩)) 0) k := tk_of _ (fun w _ => fieldAt_run (by kernel_rfl) g o w) hk
theorem fault.r0 {a0 a1 : Value} {b : Base} {w : World} {L : List It} {g o : Nat} {k : Value → World → Prop} (h : Sep b w L) (hr : Rng L g o (faultC a0 a1))  (hk : k a0 w) : o1 Tryz.prog (Instr.loadAt T.string (.pointer (some ⟨g, o + 0, none⟩))) w k := st_of (load_one (by kernel_rfl) (range_cell (h.rng hr) (get_of_drop (faultC_d0 )))) hk
theorem fault.e0 {a0 a1 : Value} {L : List It} {g o : Nat} {k : Value → Prop} {S : World → Prop} (hS : ∀ w, S w → Mayr L w) (hr : Rng L g o (faultC a0 a1))  (hk : k a0) : tk Tryz.prog S (Instr.loadAt T.string (.pointer (some ⟨g, o + 0, none⟩))) k := tk_of _ (fun w hw => load_one (by kernel_rfl) (range_cell ((hS w hw).rng hr) (get_of_drop (faultC_d0 )))) hk
theorem fault.s0 {a0 a1 : Value} {x : Value} {b : Base} {w : World} {L R : List It} {g : Nat} {k : Value → World → Prop} {tt : TypeId} (h : Sep b w L) (hm : Has L (blkI g tt (faultC a0 a1)) R)  (hv : x.cells = #[x] ∧ x.oneCell' = true) (hk : ∀ w', Sep b w' (blkI g tt (faultC x a1) :: R) → k undef w') :
    o1 Tryz.prog (Instr.fieldAt T.api_Fault (.pointer (some ⟨g, 0, none⟩)) 0) w fun a w => o0 Tryz.prog (Instr.storeAt T.string a x) w k :=
  sp_s1 (off := 0) (by kernel_rfl) (by kernel_rfl) (by simp [faultC]) (by simp [faultC, List.set_append]) hv h hm hk
theorem fault.l1 {a0 a1 : Value} {b : Base} {w : World} {L : List It} {g o : Nat} {k : Value → World → Prop} (h : Sep b w L) (hr : Rng L g o (faultC a0 a1))  (hk : k a1 w) :
    o1 Tryz.prog (Instr.fieldAt T.api_Fault (.pointer (some ⟨g, o, none⟩)) 1) w fun t w => o1 Tryz.prog (Instr.loadAt T.error t) w k :=
  sp_f1 (off := 1) (by kernel_rfl) (by kernel_rfl) (faultC_d1 ) h hr hk
theorem fault.k1 {a0 a1 : Value} {L : List It} {g o : Nat} {k : Value → Prop} {S : World → Prop} (hS : ∀ w, S w → Mayr L w) (hr : Rng L g o (faultC a0 a1))  (hk : k a1) :
    tk Tryz.prog S (Instr.fieldAt T.api_Fault (.pointer (some ⟨g, o, none⟩)) 1) fun t => tk Tryz.prog S (Instr.loadAt T.error t) k :=
  tk_f1 (off := 1) (by kernel_rfl) (by kernel_rfl) (faultC_d1 ) hS hr hk
theorem fault.a1 {w : World} {g o : Nat} {k : Value → World → Prop} (hk : k (.pointer (some ⟨g, o + 1, none⟩)) w) : o1 Tryz.prog (Instr.fieldAt T.api_Fault (.pointer (some ⟨g, o, none⟩)) 1) w k := st_of (fieldAt_run (by kernel_rfl) g o w) hk
theorem fault.c1 {g o : Nat} {k : Value → Prop} {S : World → Prop} (hk : k (.pointer (some ⟨g, o + 1, none⟩))) : tk Tryz.prog S (Instr.fieldAt T.api_Fault (.pointer (some ⟨g, o, none⟩)) 1) k := tk_of _ (fun w _ => fieldAt_run (by kernel_rfl) g o w) hk
theorem fault.r1 {a0 a1 : Value} {b : Base} {w : World} {L : List It} {g o : Nat} {k : Value → World → Prop} (h : Sep b w L) (hr : Rng L g o (faultC a0 a1))  (hk : k a1 w) : o1 Tryz.prog (Instr.loadAt T.error (.pointer (some ⟨g, o + 1, none⟩))) w k := st_of (load_one (by kernel_rfl) (range_cell (h.rng hr) (get_of_drop (faultC_d1 )))) hk
theorem fault.e1 {a0 a1 : Value} {L : List It} {g o : Nat} {k : Value → Prop} {S : World → Prop} (hS : ∀ w, S w → Mayr L w) (hr : Rng L g o (faultC a0 a1))  (hk : k a1) : tk Tryz.prog S (Instr.loadAt T.error (.pointer (some ⟨g, o + 1, none⟩))) k := tk_of _ (fun w hw => load_one (by kernel_rfl) (range_cell ((hS w hw).rng hr) (get_of_drop (faultC_d1 )))) hk
theorem fault.s1 {a0 a1 : Value} {x : Value} {b : Base} {w : World} {L R : List It} {g : Nat} {k : Value → World → Prop} {tt : TypeId} (h : Sep b w L) (hm : Has L (blkI g tt (faultC a0 a1)) R)  (hv : x.cells = #[x] ∧ x.oneCell' = true) (hk : ∀ w', Sep b w' (blkI g tt (faultC a0 x) :: R) → k undef w') :
    o1 Tryz.prog (Instr.fieldAt T.api_Fault (.pointer (some ⟨g, 0, none⟩)) 1) w fun a w => o0 Tryz.prog (Instr.storeAt T.error a x) w k :=
  sp_s1 (off := 1) (by kernel_rfl) (by kernel_rfl) (by simp [faultC]) (by simp [faultC, List.set_append]) hv h hm hk
theorem caseC_one {a0 a1 : Value} {a2 : List Value}  (o0 : a0.oneCell' = true) (o1 : a1.oneCell' = true) (o2 : ∀ u ∈ a2, u.oneCell' = true) : ∀ u ∈ caseC a0 a1 a2, u.oneCell' = true := by
  intro u hu
  simp only [caseC, List.mem_cons, List.mem_append, List.not_mem_nil, or_false] at hu
  rcases hu with rfl | rfl | hu
  · exact o0
  · exact o1
  · exact o2 u hu
theorem case.l0 {a0 a1 : Value} {a2 : List Value} {b : Base} {w : World} {L : List It} {g o : Nat} {k : Value → World → Prop} (h : Sep b w L) (hr : Rng L g o (caseC a0 a1 a2))  (hk : k a0 w) :
    o1 Tryz.prog (Instr.fieldAt T.isthmuslaw11_Case (.pointer (some ⟨g, o, none⟩)) 0) w fun t w => o1 Tryz.prog (Instr.loadAt T.string t) w k :=
  sp_f1 (off := 0) (by kernel_rfl) (by kernel_rfl) (caseC_d0 ) h hr hk
theorem case.k0 {a0 a1 : Value} {a2 : List Value} {L : List It} {g o : Nat} {k : Value → Prop} {S : World → Prop} (hS : ∀ w, S w → Mayr L w) (hr : Rng L g o (caseC a0 a1 a2))  (hk : k a0) :
    tk Tryz.prog S (Instr.fieldAt T.isthmuslaw11_Case (.pointer (some ⟨g, o, none⟩)) 0) fun t => tk Tryz.prog S (Instr.loadAt T.string t) k :=
  tk_f1 (off := 0) (by kernel_rfl) (by kernel_rfl) (caseC_d0 ) hS hr hk
theorem case.a0 {w : World} {g o : Nat} {k : Value → World → Prop} (hk : k (.pointer (some ⟨g, o + 0, none⟩)) w) : o1 Tryz.prog (Instr.fieldAt T.isthmuslaw11_Case (.pointer (some ⟨g, o, none⟩)) 0) w k := st_of (fieldAt_run (by kernel_rfl) g o w) hk
theorem case.c0 {g o : Nat} {k : Value → Prop} {S : World → Prop} (hk : k (.pointer (some ⟨g, o + 0, none⟩))) : tk Tryz.prog S (Instr.fieldAt T.isthmuslaw11_Case (.pointer (some ⟨g, o, none⟩)) 0) k := tk_of _ (fun w _ => fieldAt_run (by kernel_rfl) g o w) hk
theorem case.r0 {a0 a1 : Value} {a2 : List Value} {b : Base} {w : World} {L : List It} {g o : Nat} {k : Value → World → Prop} (h : Sep b w L) (hr : Rng L g o (caseC a0 a1 a2))  (hk : k a0 w) : o1 Tryz.prog (Instr.loadAt T.string (.pointer (some ⟨g, o + 0, none⟩))) w k := st_of (load_one (by kernel_rfl) (range_cell (h.rng hr) (get_of_drop (caseC_d0 )))) hk
theorem case.e0 {a0 a1 : Value} {a2 : List Value} {L : List It} {g o : Nat} {k : Value → Prop} {S : World → Prop} (hS : ∀ w, S w → Mayr L w) (hr : Rng L g o (caseC a0 a1 a2))  (hk : k a0) : tk Tryz.prog S (Instr.loadAt T.string (.pointer (some ⟨g, o + 0, none⟩))) k := tk_of _ (fun w hw => load_one (by kernel_rfl) (range_cell ((hS w hw).rng hr) (get_of_drop (caseC_d0 )))) hk
theorem case.s0 {a0 a1 : Value} {a2 : List Value} {x : Value} {b : Base} {w : World} {L R : List It} {g : Nat} {k : Value → World → Prop} {tt : TypeId} (h : Sep b w L) (hm : Has L (blkI g tt (caseC a0 a1 a2)) R) (h2 : a2.length = 2) (hv : x.cells = #[x] ∧ x.oneCell' = true) (hk : ∀ w', Sep b w' (blkI g tt (caseC x a1 a2) :: R) → k undef w') :
    o1 Tryz.prog (Instr.fieldAt T.isthmuslaw11_Case (.pointer (some ⟨g, 0, none⟩)) 0) w fun a w => o0 Tryz.prog (Instr.storeAt T.string a x) w k :=
  sp_s1 (off := 0) (by kernel_rfl) (by kernel_rfl) (by simp [caseC, h2]) (by simp [caseC, List.set_append, h2]) hv h hm hk
theorem case.l1 {a0 a1 : Value} {a2 : List Value} {b : Base} {w : World} {L : List It} {g o : Nat} {k : Value → World → Prop} (h : Sep b w L) (hr : Rng L g o (caseC a0 a1 a2))  (hk : k a1 w) :
    o1 Tryz.prog (Instr.fieldAt T.isthmuslaw11_Case (.pointer (some ⟨g, o, none⟩)) 1) w fun t w => o1 Tryz.prog (Instr.loadAt T.sl_api_Validator t) w k :=
  sp_f1 (off := 1) (by kernel_rfl) (by kernel_rfl) (caseC_d1 ) h hr hk
theorem case.k1 {a0 a1 : Value} {a2 : List Value} {L : List It} {g o : Nat} {k : Value → Prop} {S : World → Prop} (hS : ∀ w, S w → Mayr L w) (hr : Rng L g o (caseC a0 a1 a2))  (hk : k a1) :
    tk Tryz.prog S (Instr.fieldAt T.isthmuslaw11_Case (.pointer (some ⟨g, o, none⟩)) 1) fun t => tk Tryz.prog S (Instr.loadAt T.sl_api_Validator t) k :=
  tk_f1 (off := 1) (by kernel_rfl) (by kernel_rfl) (caseC_d1 ) hS hr hk
theorem case.a1 {w : World} {g o : Nat} {k : Value → World → Prop} (hk : k (.pointer (some ⟨g, o + 1, none⟩)) w) : o1 Tryz.prog (Instr.fieldAt T.isthmuslaw11_Case (.pointer (some ⟨g, o, none⟩)) 1) w k := st_of (fieldAt_run (by kernel_rfl) g o w) hk
theorem case.c1 {g o : Nat} {k : Value → Prop} {S : World → Prop} (hk : k (.pointer (some ⟨g, o + 1, none⟩))) : tk Tryz.prog S (Instr.fieldAt T.isthmuslaw11_Case (.pointer (some ⟨g, o, none⟩)) 1) k := tk_of _ (fun w _ => fieldAt_run (by kernel_rfl) g o w) hk
theorem case.r1 {a0 a1 : Value} {a2 : List Value} {b : Base} {w : World} {L : List It} {g o : Nat} {k : Value → World → Prop} (h : Sep b w L) (hr : Rng L g o (caseC a0 a1 a2))  (hk : k a1 w) : o1 Tryz.prog (Instr.loadAt T.sl_api_Validator (.pointer (some ⟨g, o + 1, none⟩))) w k := st_of (load_one (by kernel_rfl) (range_cell (h.rng hr) (get_of_drop (caseC_d1 )))) hk
theorem case.e1 {a0 a1 : Value} {a2 : List Value} {L : List It} {g o : Nat} {k : Value → Prop} {S : World → Prop} (hS : ∀ w, S w → Mayr L w) (hr : Rng L g o (caseC a0 a1 a2))  (hk : k a1) : tk Tryz.prog S (Instr.loadAt T.sl_api_Validator (.pointer (some ⟨g, o + 1, none⟩))) k := tk_of _ (fun w hw => load_one (by kernel_rfl) (range_cell ((hS w hw).rng hr) (get_of_drop (caseC_d1 )))) hk
theorem case.s1 {a0 a1 : Value} {a2 : List Value} {x : Value} {b : Base} {w : World} {L R : List It} {g : Nat} {k : Value → World → Prop} {tt : TypeId} (h : Sep b w L) (hm : Has L (blkI g tt (caseC a0 a1 a2)) R) (h2 : a2.length = 2) (hv : x.cells = #[x] ∧ x.oneCell' = true) (hk : ∀ w', Sep b w' (blkI g tt (caseC a0 x a2) :: R) → k undef w') :
    o1 Tryz.prog (Instr.fieldAt T.isthmuslaw11_Case (.pointer (some ⟨g, 0, none⟩)) 1) w fun a w => o0 Tryz.prog (Instr.storeAt T.sl_api_Validator a x) w k :=
  sp_s1 (off := 1) (by kernel_rfl) (by kernel_rfl) (by simp [caseC, h2]) (by simp [caseC, List.set_append, h2]) hv h hm hk
theorem case.l2 {a0 a1 : Value} {a2 : List Value} {b : Base} {w : World} {L : List It} {g o : Nat} {k : Value → World → Prop} (h : Sep b w L) (hr : Rng L g o (caseC a0 a1 a2))  (h2 : a2.length = 2) (hk : k (.agg a2.toArray) w) :
    o1 Tryz.prog (Instr.fieldAt T.isthmuslaw11_Case (.pointer (some ⟨g, o, none⟩)) 2) w fun t w => o1 Tryz.prog (Instr.loadAt T.api_Params t) w k :=
  sp_fn (off := 2) (by kernel_rfl) (by kernel_rfl) h2 (caseC_d2 ) h hr hk
theorem case.k2 {a0 a1 : Value} {a2 : List Value} {L : List It} {g o : Nat} {k : Value → Prop} {S : World → Prop} (hS : ∀ w, S w → Mayr L w) (hr : Rng L g o (caseC a0 a1 a2))  (h2 : a2.length = 2) (hk : k (.agg a2.toArray)) :
    tk Tryz.prog S (Instr.fieldAt T.isthmuslaw11_Case (.pointer (some ⟨g, o, none⟩)) 2) fun t => tk Tryz.prog S (Instr.loadAt T.api_Params t) k :=
  tk_fn (off := 2) (by kernel_rfl) (by kernel_rfl) h2 (caseC_d2 ) hS hr hk
theorem case.a2 {w : World} {g o : Nat} {k : Value → World → Prop} (hk : k (.pointer (some ⟨g, o + 2, none⟩)) w) : o1 Tryz.prog (Instr.fieldAt T.isthmuslaw11_Case (.pointer (some ⟨g, o, none⟩)) 2) w k := st_of (fieldAt_run (by kernel_rfl) g o w) hk
theorem case.c2 {g o : Nat} {k : Value → Prop} {S : World → Prop} (hk : k (.pointer (some ⟨g, o + 2, none⟩))) : tk Tryz.prog S (Instr.fieldAt T.isthmuslaw11_Case (.pointer (some ⟨g, o, none⟩)) 2) k := tk_of _ (fun w _ => fieldAt_run (by kernel_rfl) g o w) hk
theorem case.r2 {a0 a1 : Value} {a2 : List Value} {b : Base} {w : World} {L : List It} {g o : Nat} {k : Value → World → Prop} (h : Sep b w L) (hr : Rng L g o (caseC a0 a1 a2))  (h2 : a2.length = 2) (hk : k (.agg a2.toArray) w) : o1 Tryz.prog (Instr.loadAt T.api_Params (.pointer (some ⟨g, o + 2, none⟩))) w k := st_of (load_agg (by kernel_rfl) (range_sub (h.rng hr) 2 (sub_of_drop (caseC_d2 ))) (h2)) hk
theorem case.e2 {a0 a1 : Value} {a2 : List Value} {L : List It} {g o : Nat} {k : Value → Prop} {S : World → Prop} (hS : ∀ w, S w → Mayr L w) (hr : Rng L g o (caseC a0 a1 a2))  (h2 : a2.length = 2) (hk : k (.agg a2.toArray)) : tk Tryz.prog S (Instr.loadAt T.api_Params (.pointer (some ⟨g, o + 2, none⟩))) k := tk_of _ (fun w hw => load_agg (by kernel_rfl) (range_sub ((hS w hw).rng hr) 2 (sub_of_drop (caseC_d2 ))) (h2)) hk
theorem case.s2 {a0 a1 : Value} {a2 : List Value} {x : List Value} {b : Base} {w : World} {L R : List It} {g : Nat} {k : Value → World → Prop} {tt : TypeId} (h : Sep b w L) (hm : Has L (blkI g tt (caseC a0 a1 a2)) R) (h2 : a2.length = 2) (hx : x.length = 2) (hv : ∀ u ∈ x, u.oneCell' = true) (hk : ∀ w', Sep b w' (blkI g tt (caseC a0 a1 x) :: R) → k undef w') :
    o1 Tryz.prog (Instr.fieldAt T.isthmuslaw11_Case (.pointer (some ⟨g, 0, none⟩)) 2) w fun a w => o0 Tryz.prog (Instr.storeAt T.api_Params a (.agg x.toArray)) w k :=
  sp_sn (off := 2) (by kernel_rfl) (by kernel_rfl) hx (by simp [caseC, h2]) (by simp [caseC, List.take_append, List.drop_append, List.take_of_length_le, List.drop_of_length_le, h2, hx]) hv h hm hk
end Go.Proofs.YtlfelmikcdmkhaaGreatDoor
