/- pool: what Add needs. -/
import Derived.Test.YtgagekffmamldaaGreatDoorPA
import Derived.Test.YtgagekffmamldaaGreatDoorP7
import Derived.Test.YtgagekffmamldaaGreatDoorKF
set_option linter.unusedVariables false
set_option linter.unusedSimpArgs false
set_option linter.unusedSectionVars false
namespace Go.Isk
open Go Go.RowKit
section
variable {P : Program} {b : Base} {w : World} {L R : List It} {v sv X : Value} {E n sz g : Nat} {xs cs : List Value} {α : Type} {F : Fam α} {ls : List α} {S : World → Prop} {kt : Value → Prop}
theorem tk_o1 {s : Sem Value} (h : ∀ w, o1 P s w fun v w' => v = X ∧ w' = w) (hk : kt X) : tk P S s kt := tk_of X (fun w _ => by
  have h1 := (h w).out
  unfold thenR at h1
  split at h1
  · rename_i e; rw [e, h1.1, h1.2]
  all_goals exact h1.elim) hk
theorem allF_take {xss : List (List Value)} {S : Nat → Prop} (h : allF F xss ls S w) (i : Nat) : allF F (xss.take i) (ls.take i) S w :=
  ⟨by simp [h.1], fun j hj x hx => by
    have hj2 : j < ls.length := by rw [List.length_take] at hj; omega
    have hji : j < i := by rw [List.length_take] at hj; omega
    rw [List.getElem?_take, if_pos hji] at hx
    rw [List.getElem_take]
    exact h.2 j hj2 x hx⟩
theorem flat_take {xss : List (List Value)} (h : ∀ x ∈ xss, x.length = sz) (i : Nat) (hi : i ≤ xss.length) : (xss.take i).flatten = xss.flatten.take (i * sz) := by
  have hl : ((xss.take i).flatten).length = i * sz := by
    have : ∀ (yss : List (List Value)), (∀ x ∈ yss, x.length = sz) → yss.flatten.length = yss.length * sz := fun yss hy => by
      induction yss with
      | nil => simp
      | cons y yss ih => simp only [List.flatten_cons, List.length_append, List.length_cons, hy y (List.mem_cons_self ..), ih fun x hx => hy x (List.mem_cons_of_mem _ hx), Nat.succ_mul]; omega
    rw [this _ fun x hx => h x (List.mem_of_mem_take hx), List.length_take, Nat.min_eq_left hi]
  conv => rhs; rw [← List.take_append_drop i xss, List.flatten_append]
  rw [List.take_left' hl]
/-- a growing row, cut -/
theorem sp_gcut {T by_ : Nat} {q : IntKind} {j : Int} {k : Value → World → Prop} (h : Sep b w L) (hm : Has L (growI F E sz v ls) R) (hT : slT P T E sz by_ = true) (i : Nat) (hj : j = i) (hi : i ≤ ls.length)
    (hk : ∀ v', Sep b w (growI F E sz v' (ls.take i) :: R) → k v' w) : o1 P (Instr.sliceAt T v none (some (.int q j)) none) w k := by
  subst hj
  obtain ⟨xss, q1, q2, q3⟩ := h.get hm.ins
  obtain ⟨A, c, rfl, hn⟩ := own_cap q3
  refine st_of (slt_run hT hi hn w) (hk _ ?_)
  have hob : (Value.slice A i c).ownBlock = (Value.slice A ls.length c).ownBlock := by cases A <;> rfl
  have ho := own_cut q3 hi
  refine h.turn hm (D := fun _ => False) Upd.refl (fun _ _ hf => hf.elim) (fun k hk => ⟨own_ids ho k hk, .inl ?_⟩) ⟨xss.take i, (allF_take q1 i).mono fun k hk _ => ⟨hk.1, fun hmm => hk.2 ((mine_perm hm.perm k).2 ?_)⟩, fun x hx => q2 x (List.mem_of_mem_take hx), ?_⟩
  · simpa [growI, hob] using hk
  · rcases mine_app.1 (show Mine ([growI F E sz (.slice A i c) (ls.take i)] ++ R) k from hmm) with h5 | h5
    · have h6 : Mine [growI F E sz (.slice A ls.length c) ls] k := mine_one.2 (by simpa [growI, hob] using mine_one.1 h5)
      exact (mine_app.2 (Or.inl h6) : Mine ([growI F E sz (.slice A ls.length c) ls] ++ R) k)
    · exact (mine_app.2 (Or.inr h5) : Mine ([growI F E sz (.slice A ls.length c) ls] ++ R) k)
  · rw [flat_take q2 i (by rw [q1.1]; exact hi), List.length_take, Nat.min_eq_left hi]
    exact ho
end
end Go.Isk
namespace Go.Proofs.YtgagekffmamldaaGreatDoor
open Go Go.Isk Go.RowKit
set_option maxRecDepth 20000
/-! ### plain: where one is laid in -/
theorem insP_perm (x : ItemD) : ∀ l, (insP x l).Perm (l ++ [x])
  | [] => .refl _
  | y :: l => by
    unfold insP
    split
    · exact (insP_perm x l).cons y
    · exact (List.perm_append_comm (l₁ := [x]) (l₂ := y :: l))
theorem insP_mem {x y : ItemD} {l : List ItemD} (h : y ∈ insP x l) : y = x ∨ y ∈ l := by
  have := (insP_perm x l).mem_iff.1 h
  rcases List.mem_append.1 this with h | h
  · exact .inr h
  · exact .inl (by simpa using h)
theorem insP_sorted {x : ItemD} : ∀ {l : List ItemD}, l.Pairwise ltI → (∀ y ∈ l, y.came < x.came) → (insP x l).Pairwise ltI
  | [], _, _ => List.pairwise_singleton _ _
  | y :: l, h, hc => by
    rw [List.pairwise_cons] at h
    have hy := hc y (List.mem_cons_self ..)
    unfold insP
    split
    · rename_i hf
      rw [List.pairwise_cons]
      refine ⟨fun z hz => ?_, insP_sorted h.2 fun z hz => hc z (List.mem_cons_of_mem _ hz)⟩
      rcases insP_mem hz with rfl | hz
      · unfold ltI; omega
      · exact h.1 z hz
    · rename_i hf
      rw [List.pairwise_cons, List.pairwise_cons]
      refine ⟨fun z hz => ?_, h.1, h.2⟩
      rcases List.mem_cons.1 hz with rfl | hz
      · unfold ltI; omega
      · have := h.1 z hz
        unfold ltI at *; omega
theorem ltI_eq : ∀ {l : List ItemD}, l.Pairwise ltI → ∀ a ∈ l, ∀ c ∈ l, ¬ ltI a c → ¬ ltI c a → a = c
  | [], _, a, ha, _, _, _, _ => by cases ha
  | y :: l, h, a, ha, c, hc, h1, h2 => by
    rw [List.pairwise_cons] at h
    rcases List.mem_cons.1 ha with ea | ha
    · rcases List.mem_cons.1 hc with ec | hc
      · rw [ea, ec]
      · exact absurd (ea ▸ h.1 c hc) h1
    · rcases List.mem_cons.1 hc with ec | hc
      · exact absurd (ec ▸ h.1 a ha) h2
      · exact ltI_eq h.2 a ha c hc h1 h2
theorem sorted_unique {l m : List ItemD} (hl : l.Pairwise ltI) (hm : m.Pairwise fun x y => ¬ ltI y x) (hp : m.Perm l) : m = l :=
  hp.eq_of_pairwise (le := fun x y => ¬ ltI y x) (fun a c ha hc h1 h2 => ltI_eq hl a (hp.mem_iff.1 ha) c hc h2 h1) hm (hl.imp fun {a c} h => by unfold ltI at *; omega)
section
variable {b : Base} {w : World} {L R : List It} {g g3 : Nat} {v sv lv kv bv : Value} {cs : List Value} {p : PoolD} {x : ItemD} {l h bts : Bytes} {ls : List ItemD} {S : World → Prop} {kt : Value → Prop}
theorem itemF_ok : FamOk itemF 35 := ⟨fun {cs x S w} (h : ItemS S w cs x) => by
  obtain ⟨bv, rfl, h⟩ := h
  obtain ⟨A, c, rfl, _⟩ := h.1
  exact ⟨by simp [pitemC, u8s_length, hB_len], pitemC_one rfl (u8s_one _) rfl rfl⟩⟩
theorem slices_Clone_it (hs : Isk.Sep b w L) (hm : Lst itemF 35 L lv ls) (hn : ls.length ≤ 1000000000) : C Tryz.prog N.slices_Clone_pool_item_pool_item #[lv] w fun r w' => Isk.Sep b w' (growI itemF T.pool_item 35 r ls :: L) :=
  C.slices_Clone_pool_item_pool_item (by
    show CloneBody Tryz.prog T.sl_pool_item _ _ _
    exact clone_grow itT hs hm itemF_ok (by omega) (by omega) fun v' w' hs => hs)
theorem byT8 : slT Tryz.prog T.sl_uint8 T.uint8 1 1 = true := by kernel_rfl
theorem slices_Clone_8R (hs : Isk.Sep b w L) (hr : Rds L bv bts.length 1 (u8s bts)) (hn : bts.length ≤ 1000000000) : C Tryz.prog N.slices_Clone_bytes #[bv] w fun r w' => Isk.Sep b w' (rowI r T.uint8 1 bts.length (u8s bts) :: L) :=
  C.slices_Clone_bytes (by
    show CloneBody Tryz.prog T.sl_uint8 _ _ _
    exact clone_row byT8 hs hr (u8s_one _) (by omega) (by omega) fun v' w' hs => hs)
theorem slices_Clone_8 (hs : Isk.Sep b w L) (hm : Ins L (byF bv bts).it) (hn : bts.length ≤ 1000000000) : C Tryz.prog N.slices_Clone_bytes #[bv] w fun r w' => Isk.Sep b w' (rowI r T.uint8 1 bts.length (u8s bts) :: L) :=
  slices_Clone_8R hs (by_rds8 hm) hn
theorem tk_item {A : Option Addr} {n c : Nat} {fee came : Int} (hh : h.length = 32) (hk : kt (.agg (pitemC (.slice A n c) (u8s h) (.int .i64 fee) (.int .i64 came)).toArray)) :
    tk Tryz.prog S (Instr.build T.pool_item #[(0, .slice A n c), (1, .agg (u8s h).toArray), (2, .int .i64 fee), (3, .int .i64 came)]) kt :=
  tk_o1 (fun w => st_lit (ss := [1, 32, 1, 1]) (n := 35) [.slice A n c, .agg (u8s h).toArray, .int .i64 fee, .int .i64 came] rfl (by simp [Value.cells, u8s_length, hh]) (by kernel_rfl) fun zs hz _ => by
    refine ⟨?_, rfl⟩
    rw [List.drop_of_length_le (by simp [hz])]
    simp [Value.cells, pitemC]) hk
theorem pool_fault {x : ByteArray} {e : Int} (hx : x.size ≤ 4611686018427387904) (he : e ≠ 0) (h1 : -9223372036854775808 ≤ e) (h2 : e ≤ 9223372036854775807) (hs : Isk.Sep b w L) : C Tryz.prog N.pool_fault #[.string x, .int .i64 e] w fun r w' => Isk.Sep b w' ((errF r e).it :: L) := by
  refine C.pool_fault ?_
  unfold F.pool_fault
  repeat with_reducible refine mv.mk ?_
  refine st1 fun k' hk => ?_; simp [go_sem, thenR_ok, bin]; refine hk _ _ ?_; clear hk k'
  refine st_build (cells := #[.string x, .iface EN (.int .i64 e)]) (by kernel_rfl) ?_
  refine sp_box (cs := [.string x, .iface EN (.int .i64 e)]) hs rfl fun g w hs => ?_
  refine st1 fun k' hk => ?_; simp [go_sem, thenR_ok, bin]; refine hk _ _ ?_; clear hk k'
  repeat with_reducible refine mv.mk ?_
  exact hs.freeze .hd fun S hB => ⟨1, g, x.data.toList, _, rfl, he, ⟨by
    have hr : w.rangeAt g 0 [.string x, .iface EN (.int .i64 e)] := Blk.range hB fun j v hv => by rwa [Nat.zero_add]
    simpa [str] using hr, fun _ => .inr (by simp [blkI])⟩, .inr ⟨rfl, he, h1, h2⟩⟩
end
end Go.Proofs.YtgagekffmamldaaGreatDoor
set_option linter.unusedVariables false
set_option linter.unusedSimpArgs false
set_option linter.unusedSectionVars false
namespace Go.Proofs.YtgagekffmamldaaGreatDoor
open Go Go.Isk Go.RowKit
set_option maxRecDepth 20000
theorem room_stop {p : PoolD} {n : Nat} {fee : Int} {l : List ItemD} {gone : List Bytes} (h : ¬ (p.txs < (l.length : Int) + 1 ∨ p.bytes < (sizeP l : Int) + n)) : roomP p n fee (l.length + 1) l gone = some (l, gone) := by
  rw [roomP, if_neg h]
theorem room_full {p : PoolD} {n : Nat} {fee : Int} {l : List ItemD} {gone : List Bytes} (h : p.txs < (l.length : Int) + 1 ∨ p.bytes < (sizeP l : Int) + n) (hl : 0 < l.length) (hf : fee ≤ (l[l.length - 1]'(by omega)).fee) : roomP p n fee (l.length + 1) l gone = none := by
  rw [roomP, if_pos h, List.getLast?_eq_getElem?, List.getElem?_eq_getElem (by omega)]
  simp only
  rw [if_pos hf]
theorem room_step {p : PoolD} {n : Nat} {fee : Int} {l : List ItemD} {gone : List Bytes} (h : p.txs < (l.length : Int) + 1 ∨ p.bytes < (sizeP l : Int) + n) (hl : 0 < l.length) (hf : ¬ fee ≤ (l[l.length - 1]'(by omega)).fee) :
    roomP p n fee (l.length + 1) l gone = roomP p n fee ((l.take (l.length - 1)).length + 1) (l.take (l.length - 1)) (gone ++ [hB (l[l.length - 1]'(by omega)).b]) := by
  rw [roomP, if_pos h, List.getLast?_eq_getElem?, List.getElem?_eq_getElem (by omega)]
  simp only
  rw [if_neg hf, List.dropLast_eq_take]
  congr 1
  rw [List.length_take]
  omega
theorem sizeP_nil : sizeP [] = 0 := rfl
section
variable {b : Base} {w : World} {L R : List It} {g g3 g8 : Nat} {v sv lv kv bv cv : Value} {cs : List Value} {p : PoolD} {x : ItemD} {l h bts : Bytes} {ls : List ItemD} {fee : Int} {nn : Nat}
theorem addP_0 (h1 : bts = [] ∨ fee < 0) : addP p bts fee = (p, [], 1) := by rw [addP, if_pos h1]
theorem addP_9 (h1 : ¬ (bts = [] ∨ fee < 0)) (h2 : knowsP p (hB bts) = true) : addP p bts fee = (p, [], 9) := by rw [addP, if_neg h1, if_pos h2]
theorem addP_2 (h1 : ¬ (bts = [] ∨ fee < 0)) (h2 : ¬ knowsP p (hB bts) = true) (h3 : p.bytes < bts.length) : addP p bts fee = (p, [], 2) := by rw [addP, if_neg h1, if_neg h2, if_pos h3]
theorem addP_r (h1 : ¬ (bts = [] ∨ fee < 0)) (h2 : ¬ knowsP p (hB bts) = true) (h3 : ¬ p.bytes < bts.length) : addP p bts fee = addRes p bts fee (roomP p bts.length fee (p.l.length + 1) p.l []) := by rw [addP, if_neg h1, if_neg h2, if_neg h3]
def F.pool_Pool_Add_r (k : Value → World → Prop) (a0 a1 a2 t6 t7 t8 t35 : Value) (w : World) : Prop :=
  o1 Tryz.prog (Instr.fieldAt 72 t8 1) w fun t36 w =>
  o1 Tryz.prog (Instr.loadAt 43 t36) w fun t37 w =>
  C Tryz.prog N.pool_Pool_Knows #[t35, t37] w fun t38 w =>
  mv t38 fun t34 =>
  br t34 (fun _ =>
  C Tryz.prog N.pool_fault #[.string ⟨#[116, 114, 97, 110, 115, 97, 99, 116, 105, 111, 110]⟩, .int .i64 9] w fun t39 w =>
  mv (.slice none 0 0) fun t6_2 =>
  mv t39 fun t7_2 =>
  k (.tuple #[t6_2, t7_2]) w) (fun _ =>
  mv a1 fun t41 =>
  o1 Tryz.prog (Builtin.len_ #[38] 3 #[t41]) w fun t42 w =>
  mv a0 fun t43 =>
  nilOk t43 = true ∧ mv t43 fun t44 =>
  o1 Tryz.prog (Instr.fieldAt 69 t44 1) w fun t45 w =>
  o1 Tryz.prog (Instr.loadAt 3 t45) w fun t46 w =>
  o1 Tryz.prog (bin .gtr 3 (.tmp 42) (.tmp 46) t42 t46) w fun t47 w =>
  mv t47 fun t40 =>
  br t40 (fun _ =>
  C Tryz.prog N.pool_fault #[.string ⟨#[116, 114, 97, 110, 115, 97, 99, 116, 105, 111, 110]⟩, .int .i64 2] w fun t48 w =>
  mv (.slice none 0 0) fun t6_3 =>
  mv t48 fun t7_3 =>
  k (.tuple #[t6_3, t7_3]) w) (fun _ =>
  mv a0 fun t49 =>
  nilOk t49 = true ∧ mv t49 fun t50 =>
  o1 Tryz.prog (Instr.fieldAt 69 t50 3) w fun t51 w =>
  o1 Tryz.prog (Instr.loadAt 67 t51) w fun t52 w =>
  C Tryz.prog N.slices_Clone_pool_item_pool_item #[t52] w fun t53 w =>
  mv t53 fun t9 =>
  mv (.slice none 0 0) fun t10 =>
  lp [t6, t7, t9, t10] w fun I1 μ1 => ∀ (x1 : Env) (w1 : World), I1 [x1 6, x1 7, x1 9, x1 10] w1 →
  dr w1.drew fun S2 =>
  mv (x1 9) fun t54 =>
  tk Tryz.prog S2 (Builtin.len_ #[67] 3 #[t54]) fun t55 =>
  tk Tryz.prog S2 (bin .add 3 (.tmp 55) (.const (.int .i64 1)) t55 (.int .i64 1)) fun t56 =>
  mv a0 fun t57 =>
  nilOk t57 = true ∧ mv t57 fun t58 =>
  tk Tryz.prog S2 (Instr.fieldAt 69 t58 0) fun t59 =>
  tk Tryz.prog S2 (Instr.loadAt 3 t59) fun t60 =>
  tk Tryz.prog S2 (bin .gtr 3 (.tmp 56) (.tmp 60) t56 t60) fun t61 =>
  mv t61 fun t62 =>
  gdT t62 false (fun k6 => mv (x1 9) k6) fun t63 =>
  gdT t62 false (fun k7 => mv a1 k7) fun t65 =>
  gdT t62 false (fun k8 => tk Tryz.prog S2 (Builtin.len_ #[38] 3 #[t65]) k8) fun t66 =>
  gdT t62 false (fun k9 => mv a0 k9) fun t68 =>
  gdT t62 false (fun k10 => nilOk t68 = true ∧ mv t68 k10) fun t69 =>
  gdT t62 false (fun k11 => tk Tryz.prog S2 (Instr.fieldAt 69 t69 1) k11) fun t70 =>
  gdT t62 false (fun k12 => tk Tryz.prog S2 (Instr.loadAt 3 t70) k12) fun t71 =>
  gd t62 false (fun k13 => C Tryz.prog N.pool_size #[t63] w1.drew k13) w1.drew fun t64 w =>
  S2 w ∧
  gdT t62 false (fun k14 => tk Tryz.prog S2 (bin .add 3 (.tmp 64) (.tmp 66) t64 t66) k14) fun t67 =>
  gdT t62 false (fun k15 => tk Tryz.prog S2 (bin .gtr 3 (.tmp 67) (.tmp 71) t67 t71) k15) fun t72 =>
  pk t62 (.bool true) t72 fun t73 =>
  br t73 (fun _ =>
  mv (x1 9) fun t74 =>
  mv (x1 9) fun t75 =>
  o1 Tryz.prog (Builtin.len_ #[67] 3 #[t75]) w fun t76 w =>
  o1 Tryz.prog (bin .sub 3 (.tmp 76) (.const (.int .i64 1)) t76 (.int .i64 1)) w fun t77 w =>
  o1 Tryz.prog (Instr.indexAt 67 t74 t77) w fun t78 w =>
  o1 Tryz.prog (Instr.loadAt 72 t78) w fun t79 w =>
  o1 Tryz.prog (Instr.alloc 72 true (.tuple #[])) w fun t11 w =>
  o0 Tryz.prog (Instr.storeAt 72 t11 t79) w fun _ w =>
  o1 Tryz.prog (Instr.fieldAt 72 t11 2) w fun t80 w =>
  o1 Tryz.prog (Instr.loadAt 3 t80) w fun t81 w =>
  mv a2 fun t82 =>
  o1 Tryz.prog (bin .geq 3 (.tmp 81) (.tmp 82) t81 t82) w fun t83 w =>
  br t83 (fun _ =>
  C Tryz.prog N.pool_fault #[.string ⟨#[112, 111, 111, 108]⟩, .int .i64 10] w fun t84 w =>
  mv (.slice none 0 0) fun t6_4 =>
  mv t84 fun t7_4 =>
  k (.tuple #[t6_4, t7_4]) w) (fun _ =>
  mv (x1 10) fun t85 =>
  o1 Tryz.prog (Instr.fieldAt 72 t11 1) w fun t86 w =>
  o1 Tryz.prog (Instr.loadAt 43 t86) w fun t87 w =>
  o1 Tryz.prog (Instr.buildSlice 31 1 #[(0, t87)]) w fun t88 w =>
  ob Tryz.prog (fun _ => Builtin.append_ #[31, 31] 31 #[t85, t88]) w fun t89 w =>
  mv t89 fun t10_1 =>
  mv (x1 9) fun t90 =>
  mv (x1 9) fun t91 =>
  o1 Tryz.prog (Builtin.len_ #[67] 3 #[t91]) w fun t92 w =>
  o1 Tryz.prog (bin .sub 3 (.tmp 92) (.const (.int .i64 1)) t92 (.int .i64 1)) w fun t93 w =>
  o1 Tryz.prog (Instr.sliceAt 67 t90 none (some t93) none) w fun t94 w =>
  mv t94 fun t9_1 =>
  I1 [(x1 6), (x1 7), t9_1, t10_1] w ∧ μ1 [(x1 6), (x1 7), t9_1, t10_1] w < μ1 [x1 6, x1 7, x1 9, x1 10] w1)) (fun _ =>
  mv a0 fun t95 =>
  nilOk t95 = true ∧ mv t95 fun t96 =>
  o1 Tryz.prog (Instr.fieldAt 69 t96 5) w fun t97 w =>
  o1 Tryz.prog (Instr.loadAt 3 t97) w fun t98 w =>
  o1 Tryz.prog (bin .add 3 (.tmp 98) (.const (.int .i64 1)) t98 (.int .i64 1)) w fun t99 w =>
  nilOk t95 = true ∧ mv t95 fun t100 =>
  o1 Tryz.prog (Instr.fieldAt 69 t100 5) w fun t101 w =>
  o0 Tryz.prog (Instr.storeAt 3 t101 t99) w fun _ w =>
  mv a0 fun t102 =>
  mv (x1 9) fun t103 =>
  o1 Tryz.prog (Instr.loadAt 72 t8) w fun t104 w =>
  o1 Tryz.prog (Instr.buildSlice 67 1 #[(0, t104)]) w fun t105 w =>
  ob Tryz.prog (fun _ => Builtin.append_ #[67, 67] 67 #[t103, t105]) w fun t106 w =>
  nilOk t102 = true ∧ mv t102 fun t107 =>
  o1 Tryz.prog (Instr.fieldAt 69 t107 3) w fun t108 w =>
  o0 Tryz.prog (Instr.storeAt 67 t108 t106) w fun _ w =>
  mv a0 fun t109 =>
  nilOk t109 = true ∧ mv t109 fun t110 =>
  o1 Tryz.prog (Instr.fieldAt 69 t110 3) w fun t111 w =>
  o1 Tryz.prog (Instr.loadAt 67 t111) w fun t112 w =>
  C Tryz.prog N.slices_SortFunc_pool_item_pool_item #[t112, .func (.func 33) #[] #[]] w fun t113 w =>
  mv a0 fun t114 =>
  o1 Tryz.prog (Instr.fieldAt 72 t8 1) w fun t115 w =>
  o1 Tryz.prog (Instr.loadAt 43 t115) w fun t116 w =>
  C Tryz.prog N.pool_Pool_remember #[t114, t116] w fun t117 w =>
  mv (x1 10) fun t118 =>
  mv t118 fun t6_5 =>
  mv .nilIface fun t7_5 =>
  k (.tuple #[t6_5, t7_5]) w)))
/-- an error, and all is as it was -/
theorem add_err {e : Value} {E : Int} (hq : addP p bts fee = (p, [], E)) (hs : Isk.Sep b w ((errF e E).it :: blkI g T.pool_Pool (poolV p lv kv) :: growI itemF T.pool_item 35 lv p.l :: (listF hashF 32 kv p.known).it :: L)) : ∃ gv e' lv' kv', (Value.tuple #[.slice none 0 0, e]) = .tuple #[gv, e'] ∧ Isk.Sep b w ((listF hashF 32 gv (addP p bts fee).2.1).it :: (errF e' (addP p bts fee).2.2).it :: blkI g T.pool_Pool (poolV (addP p bts fee).1 lv' kv') :: growI itemF T.pool_item 35 lv' (addP p bts fee).1.l :: (listF hashF 32 kv' (addP p bts fee).1.known).it :: L) := by
  rw [hq]
  exact ⟨_, e, lv, kv, rfl, hs.nilF hashF 32⟩
theorem add_r {A c} (ok : OkP p nn) (hN : nn ≤ 1000000) (hb1 : ¬ (bts = [] ∨ fee < 0)) (hbl : bts.length ≤ 1000000000) {Lx : List It} (hL : Sbl L Lx) (hR : Ins Lx rndF.it) (hc : Ins Lx (byF cv bts).it) (hs : Isk.Sep b w (blkI g8 T.pool_item (itemV ⟨bts, fee, p.came⟩ cv) :: blkI g T.pool_Pool (poolV p lv kv) :: growI itemF T.pool_item 35 lv p.l :: (listF hashF 32 kv p.known).it :: Lx)) :
    F.pool_Pool_Add_r (fun r w' => ∃ gv e lv' kv', r = .tuple #[gv, e] ∧ Isk.Sep b w' ((listF hashF 32 gv (addP p bts fee).2.1).it :: (errF e (addP p bts fee).2.2).it :: blkI g T.pool_Pool (poolV (addP p bts fee).1 lv' kv') :: growI itemF T.pool_item 35 lv' (addP p bts fee).1.l :: (listF hashF 32 kv' (addP p bts fee).1.known).it :: L)) (.pointer (some ⟨g, 0, none⟩)) (.slice A bts.length c) (.int .i64 fee) (.slice none 0 0) .nilIface (.pointer (some ⟨g8, 0, none⟩)) (.pointer (some ⟨g, 0, none⟩)) w := by
  unfold F.pool_Pool_Add_r
  have hH := hB_len bts
  have hl1 := ok.len
  have ht2 := ok.t2
  have hb2 := ok.b2
  have hsz := ok.size
  have hkn := ok.kn
  have hc2 := ok.c2
  repeat (first
   | (with_reducible refine pitem.a0 ?_)
   | ((with_reducible apply pitem.r0 hs); (· (with_reducible (repeat (first | exact .blk | exact .rng | apply Rng.tl)))))
   | (with_reducible refine pitem.c0 ?_)
   | ((with_reducible apply pitem.e0); (· first | exact hS | exact hid); (· (with_reducible (repeat (first | exact .blk | exact .rng | apply Rng.tl)))))
   | (with_reducible refine pitem.a1 ?_)
   | ((with_reducible apply pitem.r1 hs); (· (with_reducible (repeat (first | exact .blk | exact .rng | apply Rng.tl)))); (· (with_reducible (first | assumption | exact z32 | exact u8s_len (by assumption)))))
   | (with_reducible refine pitem.c1 ?_)
   | ((with_reducible apply pitem.e1); (· first | exact hS | exact hid); (· (with_reducible (repeat (first | exact .blk | exact .rng | apply Rng.tl)))); (· (with_reducible (first | assumption | exact z32 | exact u8s_len (by assumption)))))
   | (with_reducible refine pitem.a2 ?_)
   | ((with_reducible apply pitem.r2 hs); (· (with_reducible (repeat (first | exact .blk | exact .rng | apply Rng.tl)))); (· (with_reducible (first | assumption | exact z32 | exact u8s_len (by assumption)))))
   | (with_reducible refine pitem.c2 ?_)
   | ((with_reducible apply pitem.e2); (· first | exact hS | exact hid); (· (with_reducible (repeat (first | exact .blk | exact .rng | apply Rng.tl)))); (· (with_reducible (first | assumption | exact z32 | exact u8s_len (by assumption)))))
   | (with_reducible refine pitem.a3 ?_)
   | ((with_reducible apply pitem.r3 hs); (· (with_reducible (repeat (first | exact .blk | exact .rng | apply Rng.tl)))); (· (with_reducible (first | assumption | exact z32 | exact u8s_len (by assumption)))))
   | (with_reducible refine pitem.c3 ?_)
   | ((with_reducible apply pitem.e3); (· first | exact hS | exact hid); (· (with_reducible (repeat (first | exact .blk | exact .rng | apply Rng.tl)))); (· (with_reducible (first | assumption | exact z32 | exact u8s_len (by assumption)))))
   | (with_reducible (first | refine st_lens ?_ | refine mv.mk ?_ | refine nk_p ?_ | refine gdT_i ?_ | refine gdT_ft ?_ | refine gdT_tf ?_ | refine gdT_u ?_ | refine gd_u ?_ | refine gd_ft ?_ | refine gd_tf ?_ | refine gd_i ?_ | refine pk_t ?_ | refine pk_f ?_ | refine br_t ?_ | refine br_f ?_))
   | (with_reducible ((first | apply st_bin | apply st_len); intro k' hk; simp [go_sem, thenR_ok, bin]; refine hk _ _ ?_; clear hk k'))
   | ((with_reducible (first | apply tk_bin | apply tk_len)); (· intro w; simp [go_sem, bin]; rfl))
   | ((with_reducible apply sp_newr hs); (· kernel_rfl); intro g w hs))
  replace hs := hs.sbl (L' := blkI g T.pool_Pool (poolV p lv kv) :: growI itemF T.pool_item 35 lv p.l :: (listF hashF 32 kv p.known).it :: blkI g8 T.pool_item (itemV ⟨bts, fee, p.came⟩ cv) :: Lx) (.cons (.tl .hd) (.cons (.tl .hd) (.cons (.tl .hd) .all)))
  refine cl (pool_Knows (by omega) (by omega) hH hs .hd) ?_
  rintro _ w ⟨rfl, hs⟩
  repeat with_reducible refine mv.mk ?_
  by_cases hkw : knowsP p (hB bts) = true
  · rw [hkw]
    repeat (first
     | (with_reducible (first | refine st_lens ?_ | refine mv.mk ?_ | refine nk_p ?_ | refine gdT_i ?_ | refine gdT_ft ?_ | refine gdT_tf ?_ | refine gdT_u ?_ | refine gd_u ?_ | refine gd_ft ?_ | refine gd_tf ?_ | refine gd_i ?_ | refine pk_t ?_ | refine pk_f ?_ | refine br_t ?_ | refine br_f ?_))
     | (with_reducible ((first | apply st_bin | apply st_len); intro k' hk; simp [go_sem, thenR_ok, bin]; refine hk _ _ ?_; clear hk k'))
     | ((with_reducible (first | apply tk_bin | apply tk_len)); (· intro w; simp [go_sem, bin]; rfl))
     | ((with_reducible apply sp_newr hs); (· kernel_rfl); intro g w hs))
    refine cl (pool_fault (e := 9) (by decide) (by decide) (by decide) (by decide) hs) ?_
    rintro e w hs
    repeat with_reducible refine mv.mk ?_
    exact add_err (addP_9 hb1 hkw) (hs.sbl (.cons .hd (.cons .hd (.cons .hd (.cons .hd (.drop hL))))))
  rw [show knowsP p (hB bts) = false by simpa using hkw]
  repeat (first
   | (with_reducible refine pool.a0 ?_)
   | ((with_reducible apply pool.r0 hs); (· (with_reducible (repeat (first | exact .blk | exact .rng | apply Rng.tl)))))
   | (with_reducible refine pool.c0 ?_)
   | ((with_reducible apply pool.e0); (· first | exact hS | exact hid); (· (with_reducible (repeat (first | exact .blk | exact .rng | apply Rng.tl)))))
   | (with_reducible refine pool.a1 ?_)
   | ((with_reducible apply pool.r1 hs); (· (with_reducible (repeat (first | exact .blk | exact .rng | apply Rng.tl)))))
   | (with_reducible refine pool.c1 ?_)
   | ((with_reducible apply pool.e1); (· first | exact hS | exact hid); (· (with_reducible (repeat (first | exact .blk | exact .rng | apply Rng.tl)))))
   | (with_reducible refine pool.a2 ?_)
   | ((with_reducible apply pool.r2 hs); (· (with_reducible (repeat (first | exact .blk | exact .rng | apply Rng.tl)))))
   | (with_reducible refine pool.c2 ?_)
   | ((with_reducible apply pool.e2); (· first | exact hS | exact hid); (· (with_reducible (repeat (first | exact .blk | exact .rng | apply Rng.tl)))))
   | (with_reducible refine pool.a3 ?_)
   | ((with_reducible apply pool.r3 hs); (· (with_reducible (repeat (first | exact .blk | exact .rng | apply Rng.tl)))))
   | (with_reducible refine pool.c3 ?_)
   | ((with_reducible apply pool.e3); (· first | exact hS | exact hid); (· (with_reducible (repeat (first | exact .blk | exact .rng | apply Rng.tl)))))
   | (with_reducible refine pool.a5 ?_)
   | ((with_reducible apply pool.r5 hs); (· (with_reducible (repeat (first | exact .blk | exact .rng | apply Rng.tl)))))
   | (with_reducible refine pool.c5 ?_)
   | ((with_reducible apply pool.e5); (· first | exact hS | exact hid); (· (with_reducible (repeat (first | exact .blk | exact .rng | apply Rng.tl)))))
   | (with_reducible (first | refine st_lens ?_ | refine mv.mk ?_ | refine nk_p ?_ | refine gdT_i ?_ | refine gdT_ft ?_ | refine gdT_tf ?_ | refine gdT_u ?_ | refine gd_u ?_ | refine gd_ft ?_ | refine gd_tf ?_ | refine gd_i ?_ | refine pk_t ?_ | refine pk_f ?_ | refine br_t ?_ | refine br_f ?_))
   | (with_reducible ((first | apply st_bin | apply st_len); intro k' hk; simp [go_sem, thenR_ok, bin]; refine hk _ _ ?_; clear hk k'))
   | ((with_reducible (first | apply tk_bin | apply tk_len)); (· intro w; simp [go_sem, bin]; rfl))
   | ((with_reducible apply sp_newr hs); (· kernel_rfl); intro g w hs))
  by_cases hlg : p.bytes < (bts.length : Int)
  · rw [decide_eq_true hlg]
    repeat (first
     | (with_reducible (first | refine st_lens ?_ | refine mv.mk ?_ | refine nk_p ?_ | refine gdT_i ?_ | refine gdT_ft ?_ | refine gdT_tf ?_ | refine gdT_u ?_ | refine gd_u ?_ | refine gd_ft ?_ | refine gd_tf ?_ | refine gd_i ?_ | refine pk_t ?_ | refine pk_f ?_ | refine br_t ?_ | refine br_f ?_))
     | (with_reducible ((first | apply st_bin | apply st_len); intro k' hk; simp [go_sem, thenR_ok, bin]; refine hk _ _ ?_; clear hk k'))
     | ((with_reducible (first | apply tk_bin | apply tk_len)); (· intro w; simp [go_sem, bin]; rfl))
     | ((with_reducible apply sp_newr hs); (· kernel_rfl); intro g w hs))
    refine cl (pool_fault (e := 2) (by decide) (by decide) (by decide) (by decide) hs) ?_
    rintro e w hs
    repeat with_reducible refine mv.mk ?_
    exact add_err (addP_2 hb1 hkw hlg) (hs.sbl (.cons .hd (.cons .hd (.cons .hd (.cons .hd (.drop hL))))))
  rw [decide_eq_false hlg]
  repeat (first
   | (with_reducible refine pool.a0 ?_)
   | ((with_reducible apply pool.r0 hs); (· (with_reducible (repeat (first | exact .blk | exact .rng | apply Rng.tl)))))
   | (with_reducible refine pool.c0 ?_)
   | ((with_reducible apply pool.e0); (· first | exact hS | exact hid); (· (with_reducible (repeat (first | exact .blk | exact .rng | apply Rng.tl)))))
   | (with_reducible refine pool.a1 ?_)
   | ((with_reducible apply pool.r1 hs); (· (with_reducible (repeat (first | exact .blk | exact .rng | apply Rng.tl)))))
   | (with_reducible refine pool.c1 ?_)
   | ((with_reducible apply pool.e1); (· first | exact hS | exact hid); (· (with_reducible (repeat (first | exact .blk | exact .rng | apply Rng.tl)))))
   | (with_reducible refine pool.a2 ?_)
   | ((with_reducible apply pool.r2 hs); (· (with_reducible (repeat (first | exact .blk | exact .rng | apply Rng.tl)))))
   | (with_reducible refine pool.c2 ?_)
   | ((with_reducible apply pool.e2); (· first | exact hS | exact hid); (· (with_reducible (repeat (first | exact .blk | exact .rng | apply Rng.tl)))))
   | (with_reducible refine pool.a3 ?_)
   | ((with_reducible apply pool.r3 hs); (· (with_reducible (repeat (first | exact .blk | exact .rng | apply Rng.tl)))))
   | (with_reducible refine pool.c3 ?_)
   | ((with_reducible apply pool.e3); (· first | exact hS | exact hid); (· (with_reducible (repeat (first | exact .blk | exact .rng | apply Rng.tl)))))
   | (with_reducible refine pool.a5 ?_)
   | ((with_reducible apply pool.r5 hs); (· (with_reducible (repeat (first | exact .blk | exact .rng | apply Rng.tl)))))
   | (with_reducible refine pool.c5 ?_)
   | ((with_reducible apply pool.e5); (· first | exact hS | exact hid); (· (with_reducible (repeat (first | exact .blk | exact .rng | apply Rng.tl)))))
   | (with_reducible (first | refine st_lens ?_ | refine mv.mk ?_ | refine nk_p ?_ | refine gdT_i ?_ | refine gdT_ft ?_ | refine gdT_tf ?_ | refine gdT_u ?_ | refine gd_u ?_ | refine gd_ft ?_ | refine gd_tf ?_ | refine gd_i ?_ | refine pk_t ?_ | refine pk_f ?_ | refine br_t ?_ | refine br_f ?_))
   | (with_reducible ((first | apply st_bin | apply st_len); intro k' hk; simp [go_sem, thenR_ok, bin]; refine hk _ _ ?_; clear hk k'))
   | ((with_reducible (first | apply tk_bin | apply tk_len)); (· intro w; simp [go_sem, bin]; rfl))
   | ((with_reducible apply sp_newr hs); (· kernel_rfl); intro g w hs))
  refine cl (slices_Clone_it hs (.tl .gr) (by omega)) ?_
  rintro v w hs
  replace hs := hs.grow0 hashF T.api_Hash 32
  repeat with_reducible refine mv.mk ?_
  have hadd := addP_r (fee := fee) hb1 hkw hlg
  refine lp_by (fun us w' => ∃ (l : List ItemD) (gone : List Bytes) (v gv : Value), us = [.slice none 0 0, .nilIface, v, gv] ∧ (∃ m, l = p.l.take m) ∧ gone.length + l.length ≤ p.l.length ∧ roomP p bts.length fee (p.l.length + 1) p.l [] = roomP p bts.length fee (l.length + 1) l gone ∧
      Isk.Sep b w' (growI hashF T.api_Hash 32 gv gone :: growI itemF T.pool_item 35 v l :: blkI g T.pool_Pool (poolV p lv kv) :: growI itemF T.pool_item 35 lv p.l :: (listF hashF 32 kv p.known).it :: blkI g8 T.pool_item (itemV ⟨bts, fee, p.came⟩ cv) :: Lx))
    (fun us _ => match us with | [_, _, .slice _ m _, _] => m | _ => 0) ⟨p.l, [], v, _, rfl, ⟨p.l.length, by rw [List.take_length]⟩, by simp, rfl, hs⟩ ?_
  clear hs
  rintro x1 w ⟨l, gone, v, gv, hx1, ⟨m, hm⟩, hgl, hroom, hs⟩
  simp only [List.cons.injEq, and_true] at hx1
  simp only [hx1.1, hx1.2.1, hx1.2.2.1, hx1.2.2.2]
  obtain ⟨A1, c1, rfl⟩ := hs.lst_len (.tl .gr)
  have hll : l.length ≤ p.l.length := by rw [hm, List.length_take]; omega
  have hls : sizeP l ≤ sizeP p.l := by rw [hm]; exact sizeP_le
  replace hs := hs.drew
  refine dr_can (R := [blkI g T.pool_Pool (poolV p lv kv)]) hs (.drop (.drop (.cons .hd .nil))) ?_
  have hS : ∀ w, Mayr [blkI g T.pool_Pool (poolV p lv kv)] w → Mayr [blkI g T.pool_Pool (poolV p lv kv)] w := fun _ h => h
  repeat (first
   | (with_reducible refine pool.a0 ?_)
   | ((with_reducible apply pool.r0 hs); (· (with_reducible (repeat (first | exact .blk | exact .rng | apply Rng.tl)))))
   | (with_reducible refine pool.c0 ?_)
   | ((with_reducible apply pool.e0); (· first | exact hS | exact hid); (· (with_reducible (repeat (first | exact .blk | exact .rng | apply Rng.tl)))))
   | (with_reducible refine pool.a1 ?_)
   | ((with_reducible apply pool.r1 hs); (· (with_reducible (repeat (first | exact .blk | exact .rng | apply Rng.tl)))))
   | (with_reducible refine pool.c1 ?_)
   | ((with_reducible apply pool.e1); (· first | exact hS | exact hid); (· (with_reducible (repeat (first | exact .blk | exact .rng | apply Rng.tl)))))
   | (with_reducible refine pool.a2 ?_)
   | ((with_reducible apply pool.r2 hs); (· (with_reducible (repeat (first | exact .blk | exact .rng | apply Rng.tl)))))
   | (with_reducible refine pool.c2 ?_)
   | ((with_reducible apply pool.e2); (· first | exact hS | exact hid); (· (with_reducible (repeat (first | exact .blk | exact .rng | apply Rng.tl)))))
   | (with_reducible refine pool.a3 ?_)
   | ((with_reducible apply pool.r3 hs); (· (with_reducible (repeat (first | exact .blk | exact .rng | apply Rng.tl)))))
   | (with_reducible refine pool.c3 ?_)
   | ((with_reducible apply pool.e3); (· first | exact hS | exact hid); (· (with_reducible (repeat (first | exact .blk | exact .rng | apply Rng.tl)))))
   | (with_reducible refine pool.a5 ?_)
   | ((with_reducible apply pool.r5 hs); (· (with_reducible (repeat (first | exact .blk | exact .rng | apply Rng.tl)))))
   | (with_reducible refine pool.c5 ?_)
   | ((with_reducible apply pool.e5); (· first | exact hS | exact hid); (· (with_reducible (repeat (first | exact .blk | exact .rng | apply Rng.tl)))))
   | ((with_reducible apply tn_add); (· omega))
   | ((with_reducible apply tn_sub); (· omega))
   | ((with_reducible apply tn_mul); (· omega))
   | ((with_reducible apply sn_add); (· omega))
   | ((with_reducible apply sn_sub); (· omega))
   | ((with_reducible apply sn_mul); (· omega))
   | (with_reducible (first | refine st_lens ?_ | refine mv.mk ?_ | refine nk_p ?_ | refine gdT_i ?_ | refine gdT_ft ?_ | refine gdT_tf ?_ | refine gdT_u ?_ | refine gd_u ?_ | refine gd_ft ?_ | refine gd_tf ?_ | refine gd_i ?_ | refine pk_t ?_ | refine pk_f ?_ | refine br_t ?_ | refine br_f ?_))
   | (with_reducible ((first | apply st_bin | apply st_len); intro k' hk; simp [go_sem, thenR_ok, bin]; refine hk _ _ ?_; clear hk k'))
   | ((with_reducible (first | apply tk_bin | apply tk_len)); (· intro w; simp [go_sem, bin]; rfl))
   | ((with_reducible apply sp_newr hs); (· kernel_rfl); intro g w hs))
  have hszl : sizeP l ≤ 1048576 := by omega
  by_cases h1 : p.txs < (l.length : Int) + 1
  · have hcond : p.txs < (l.length : Int) + 1 ∨ p.bytes < (sizeP l : Int) + bts.length := .inl h1
    rw [decide_eq_true h1]
    repeat (first
     | (with_reducible (first | refine st_lens ?_ | refine mv.mk ?_ | refine nk_p ?_ | refine gdT_i ?_ | refine gdT_ft ?_ | refine gdT_tf ?_ | refine gdT_u ?_ | refine gd_u ?_ | refine gd_ft ?_ | refine gd_tf ?_ | refine gd_i ?_ | refine pk_t ?_ | refine pk_f ?_ | refine br_t ?_ | refine br_f ?_))
     | (with_reducible ((first | apply st_bin | apply st_len); intro k' hk; simp [go_sem, thenR_ok, bin]; refine hk _ _ ?_; clear hk k'))
     | ((with_reducible (first | apply tk_bin | apply tk_len)); (· intro w; simp [go_sem, bin]; rfl))
     | ((with_reducible apply sp_newr hs); (· kernel_rfl); intro g w hs))
    refine ⟨hs.mayr (.drop (.drop (.cons .hd .nil))), ?_⟩
    repeat (first
     | (with_reducible (first | refine st_lens ?_ | refine mv.mk ?_ | refine nk_p ?_ | refine gdT_i ?_ | refine gdT_ft ?_ | refine gdT_tf ?_ | refine gdT_u ?_ | refine gd_u ?_ | refine gd_ft ?_ | refine gd_tf ?_ | refine gd_i ?_ | refine pk_t ?_ | refine pk_f ?_ | refine br_t ?_ | refine br_f ?_))
     | (with_reducible ((first | apply st_bin | apply st_len); intro k' hk; simp [go_sem, thenR_ok, bin]; refine hk _ _ ?_; clear hk k'))
     | ((with_reducible (first | apply tk_bin | apply tk_len)); (· intro w; simp [go_sem, bin]; rfl))
     | ((with_reducible apply sp_newr hs); (· kernel_rfl); intro g w hs))

    have hlp : 0 < l.length := by
      rcases Nat.eq_zero_or_pos l.length with h0 | h0
      · have hnil : l = [] := List.length_eq_zero_iff.1 h0
        have := ok.t1
        rcases hcond with hc1 | hc1
        · omega
        · rw [hnil, sizeP_nil] at hc1
          omega
      · exact h0
    repeat with_reducible refine mv.mk ?_
    repeat (first
     | (with_reducible (first | refine st_lens ?_ | refine mv.mk ?_ | refine nk_p ?_ | refine gdT_i ?_ | refine gdT_ft ?_ | refine gdT_tf ?_ | refine gdT_u ?_ | refine gd_u ?_ | refine gd_ft ?_ | refine gd_tf ?_ | refine gd_i ?_ | refine pk_t ?_ | refine pk_f ?_ | refine br_t ?_ | refine br_f ?_))
     | (with_reducible ((first | apply st_bin | apply st_len); intro k' hk; simp [go_sem, thenR_ok, bin]; refine hk _ _ ?_; clear hk k'))
     | ((with_reducible (first | apply tk_bin | apply tk_len)); (· intro w; simp [go_sem, bin]; rfl))
     | ((with_reducible apply sp_newr hs); (· kernel_rfl); intro g w hs))
    rw [show IntKind.i64.wrap ((l.length : Int) - 1) = ((l.length - 1 : Nat) : Int) by simp [IntKind.wrap, IntKind.signed, IntKind.bits]; omega]
    refine sp_eln hs (.tl .gr) itT (by kernel_rfl) (l.length - 1) rfl (by omega) fun cs hcl hs => ?_
    obtain ⟨bw, rfl, hs⟩ := item_open hs .hd
    obtain ⟨A2, c2, rfl⟩ := by_slice8 hs .hd
    refine sp_newr hs (by kernel_rfl) fun g5 w hs => ?_
    refine sp_setr (ds := itemV l[l.length - 1] (.slice A2 l[l.length - 1].b.length c2)) hs .hd (by kernel_rfl) hcl (pitemC_one rfl (u8s_one _) rfl rfl) fun w hs => ?_
    have hHy := hB_len l[l.length - 1].b
    repeat (first
     | (with_reducible refine pitem.a0 ?_)
     | ((with_reducible apply pitem.r0 hs); (· (with_reducible (repeat (first | exact .blk | exact .rng | apply Rng.tl)))))
     | (with_reducible refine pitem.c0 ?_)
     | ((with_reducible apply pitem.e0); (· first | exact hS | exact hid); (· (with_reducible (repeat (first | exact .blk | exact .rng | apply Rng.tl)))))
     | (with_reducible refine pitem.a1 ?_)
     | ((with_reducible apply pitem.r1 hs); (· (with_reducible (repeat (first | exact .blk | exact .rng | apply Rng.tl)))); (· (with_reducible (first | assumption | exact z32 | exact u8s_len (by assumption)))))
     | (with_reducible refine pitem.c1 ?_)
     | ((with_reducible apply pitem.e1); (· first | exact hS | exact hid); (· (with_reducible (repeat (first | exact .blk | exact .rng | apply Rng.tl)))); (· (with_reducible (first | assumption | exact z32 | exact u8s_len (by assumption)))))
     | (with_reducible refine pitem.a2 ?_)
     | ((with_reducible apply pitem.r2 hs); (· (with_reducible (repeat (first | exact .blk | exact .rng | apply Rng.tl)))); (· (with_reducible (first | assumption | exact z32 | exact u8s_len (by assumption)))))
     | (with_reducible refine pitem.c2 ?_)
     | ((with_reducible apply pitem.e2); (· first | exact hS | exact hid); (· (with_reducible (repeat (first | exact .blk | exact .rng | apply Rng.tl)))); (· (with_reducible (first | assumption | exact z32 | exact u8s_len (by assumption)))))
     | (with_reducible refine pitem.a3 ?_)
     | ((with_reducible apply pitem.r3 hs); (· (with_reducible (repeat (first | exact .blk | exact .rng | apply Rng.tl)))); (· (with_reducible (first | assumption | exact z32 | exact u8s_len (by assumption)))))
     | (with_reducible refine pitem.c3 ?_)
     | ((with_reducible apply pitem.e3); (· first | exact hS | exact hid); (· (with_reducible (repeat (first | exact .blk | exact .rng | apply Rng.tl)))); (· (with_reducible (first | assumption | exact z32 | exact u8s_len (by assumption)))))
     | (with_reducible (first | refine st_lens ?_ | refine mv.mk ?_ | refine nk_p ?_ | refine gdT_i ?_ | refine gdT_ft ?_ | refine gdT_tf ?_ | refine gdT_u ?_ | refine gd_u ?_ | refine gd_ft ?_ | refine gd_tf ?_ | refine gd_i ?_ | refine pk_t ?_ | refine pk_f ?_ | refine br_t ?_ | refine br_f ?_))
     | (with_reducible ((first | apply st_bin | apply st_len); intro k' hk; simp [go_sem, thenR_ok, bin]; refine hk _ _ ?_; clear hk k'))
     | ((with_reducible (first | apply tk_bin | apply tk_len)); (· intro w; simp [go_sem, bin]; rfl))
     | ((with_reducible apply sp_newr hs); (· kernel_rfl); intro g w hs))
    by_cases hf : fee ≤ l[l.length - 1].fee
    · rw [decide_eq_true hf]
      repeat (first
       | (with_reducible (first | refine st_lens ?_ | refine mv.mk ?_ | refine nk_p ?_ | refine gdT_i ?_ | refine gdT_ft ?_ | refine gdT_tf ?_ | refine gdT_u ?_ | refine gd_u ?_ | refine gd_ft ?_ | refine gd_tf ?_ | refine gd_i ?_ | refine pk_t ?_ | refine pk_f ?_ | refine br_t ?_ | refine br_f ?_))
       | (with_reducible ((first | apply st_bin | apply st_len); intro k' hk; simp [go_sem, thenR_ok, bin]; refine hk _ _ ?_; clear hk k'))
       | ((with_reducible (first | apply tk_bin | apply tk_len)); (· intro w; simp [go_sem, bin]; rfl))
       | ((with_reducible apply sp_newr hs); (· kernel_rfl); intro g w hs))
      refine cl (pool_fault (e := 10) (by decide) (by decide) (by decide) (by decide) hs) ?_
      rintro e w hs
      repeat with_reducible refine mv.mk ?_
      exact add_err (by rw [hadd, hroom, room_full hcond hlp hf]; rfl) (hs.sbl (.cons .hd (.drop (.drop (.drop (.drop (.drop (.cons .hd (.cons .hd (.cons .hd (.drop hL)))))))))))
    rw [decide_eq_false hf]
    repeat (first
     | (with_reducible refine pitem.a0 ?_)
     | ((with_reducible apply pitem.r0 hs); (· (with_reducible (repeat (first | exact .blk | exact .rng | apply Rng.tl)))))
     | (with_reducible refine pitem.c0 ?_)
     | ((with_reducible apply pitem.e0); (· first | exact hS | exact hid); (· (with_reducible (repeat (first | exact .blk | exact .rng | apply Rng.tl)))))
     | (with_reducible refine pitem.a1 ?_)
     | ((with_reducible apply pitem.r1 hs); (· (with_reducible (repeat (first | exact .blk | exact .rng | apply Rng.tl)))); (· (with_reducible (first | assumption | exact z32 | exact u8s_len (by assumption)))))
     | (with_reducible refine pitem.c1 ?_)
     | ((with_reducible apply pitem.e1); (· first | exact hS | exact hid); (· (with_reducible (repeat (first | exact .blk | exact .rng | apply Rng.tl)))); (· (with_reducible (first | assumption | exact z32 | exact u8s_len (by assumption)))))
     | (with_reducible refine pitem.a2 ?_)
     | ((with_reducible apply pitem.r2 hs); (· (with_reducible (repeat (first | exact .blk | exact .rng | apply Rng.tl)))); (· (with_reducible (first | assumption | exact z32 | exact u8s_len (by assumption)))))
     | (with_reducible refine pitem.c2 ?_)
     | ((with_reducible apply pitem.e2); (· first | exact hS | exact hid); (· (with_reducible (repeat (first | exact .blk | exact .rng | apply Rng.tl)))); (· (with_reducible (first | assumption | exact z32 | exact u8s_len (by assumption)))))
     | (with_reducible refine pitem.a3 ?_)
     | ((with_reducible apply pitem.r3 hs); (· (with_reducible (repeat (first | exact .blk | exact .rng | apply Rng.tl)))); (· (with_reducible (first | assumption | exact z32 | exact u8s_len (by assumption)))))
     | (with_reducible refine pitem.c3 ?_)
     | ((with_reducible apply pitem.e3); (· first | exact hS | exact hid); (· (with_reducible (repeat (first | exact .blk | exact .rng | apply Rng.tl)))); (· (with_reducible (first | assumption | exact z32 | exact u8s_len (by assumption)))))
     | (with_reducible (first | refine st_lens ?_ | refine mv.mk ?_ | refine nk_p ?_ | refine gdT_i ?_ | refine gdT_ft ?_ | refine gdT_tf ?_ | refine gdT_u ?_ | refine gd_u ?_ | refine gd_ft ?_ | refine gd_tf ?_ | refine gd_i ?_ | refine pk_t ?_ | refine pk_f ?_ | refine br_t ?_ | refine br_f ?_))
     | (with_reducible ((first | apply st_bin | apply st_len); intro k' hk; simp [go_sem, thenR_ok, bin]; refine hk _ _ ?_; clear hk k'))
     | ((with_reducible (first | apply tk_bin | apply tk_len)); (· intro w; simp [go_sem, bin]; rfl))
     | ((with_reducible apply sp_newr hs); (· kernel_rfl); intro g w hs))
    replace hs := hs.fact (f := hashF (u8s (hB l[l.length - 1].b)) (hB l[l.length - 1].b)) ⟨rfl, hHy⟩
    refine sp_lita hs hsT (by rw [u8s_length, hHy]) (by decide) fun v5 w hs => ?_
    refine sp_push (a := hB l[l.length - 1].b) hs (.tl (.tl (.tl (.tl (.tl .hd))))) hsT .sl (.tl .hd) (u8s_one _) (by omega) (by omega) fun v6 w hs => ?_
    repeat with_reducible refine mv.mk ?_
    repeat (first
     | (with_reducible (first | refine st_lens ?_ | refine mv.mk ?_ | refine nk_p ?_ | refine gdT_i ?_ | refine gdT_ft ?_ | refine gdT_tf ?_ | refine gdT_u ?_ | refine gd_u ?_ | refine gd_ft ?_ | refine gd_tf ?_ | refine gd_i ?_ | refine pk_t ?_ | refine pk_f ?_ | refine br_t ?_ | refine br_f ?_))
     | (with_reducible ((first | apply st_bin | apply st_len); intro k' hk; simp [go_sem, thenR_ok, bin]; refine hk _ _ ?_; clear hk k'))
     | ((with_reducible (first | apply tk_bin | apply tk_len)); (· intro w; simp [go_sem, bin]; rfl))
     | ((with_reducible apply sp_newr hs); (· kernel_rfl); intro g w hs))
    rw [show IntKind.i64.wrap ((l.length : Int) - 1) = ((l.length - 1 : Nat) : Int) by simp [IntKind.wrap, IntKind.signed, IntKind.bits]; omega]
    refine sp_gcut hs (.tl (.tl (.tl (.tl (.tl (.tl .hd)))))) itT (l.length - 1) rfl (by omega) fun v7 hs => ?_
    obtain ⟨A3, c3, rfl⟩ := hs.lst_len .gr
    have htl : (l.take (l.length - 1)).length = l.length - 1 := by rw [List.length_take]; omega
    repeat with_reducible refine mv.mk ?_
    refine ⟨⟨l.take (l.length - 1), gone ++ [hB l[l.length - 1].b], _, v6, rfl, ⟨min (l.length - 1) m, ?_⟩, by rw [htl, List.length_append]; simp; omega, by rw [hroom]; exact room_step hcond hlp hf, hs.sbl (.cons (.tl .hd) (.cons .hd (.drop (.drop (.drop (.drop (.drop .all)))))))⟩, by simp only [htl]; omega⟩
    rw [hm, List.take_take]
  rw [decide_eq_false h1]
  repeat (first
   | (with_reducible refine pool.a0 ?_)
   | ((with_reducible apply pool.r0 hs); (· (with_reducible (repeat (first | exact .blk | exact .rng | apply Rng.tl)))))
   | (with_reducible refine pool.c0 ?_)
   | ((with_reducible apply pool.e0); (· first | exact hS | exact hid); (· (with_reducible (repeat (first | exact .blk | exact .rng | apply Rng.tl)))))
   | (with_reducible refine pool.a1 ?_)
   | ((with_reducible apply pool.r1 hs); (· (with_reducible (repeat (first | exact .blk | exact .rng | apply Rng.tl)))))
   | (with_reducible refine pool.c1 ?_)
   | ((with_reducible apply pool.e1); (· first | exact hS | exact hid); (· (with_reducible (repeat (first | exact .blk | exact .rng | apply Rng.tl)))))
   | (with_reducible refine pool.a2 ?_)
   | ((with_reducible apply pool.r2 hs); (· (with_reducible (repeat (first | exact .blk | exact .rng | apply Rng.tl)))))
   | (with_reducible refine pool.c2 ?_)
   | ((with_reducible apply pool.e2); (· first | exact hS | exact hid); (· (with_reducible (repeat (first | exact .blk | exact .rng | apply Rng.tl)))))
   | (with_reducible refine pool.a3 ?_)
   | ((with_reducible apply pool.r3 hs); (· (with_reducible (repeat (first | exact .blk | exact .rng | apply Rng.tl)))))
   | (with_reducible refine pool.c3 ?_)
   | ((with_reducible apply pool.e3); (· first | exact hS | exact hid); (· (with_reducible (repeat (first | exact .blk | exact .rng | apply Rng.tl)))))
   | (with_reducible refine pool.a5 ?_)
   | ((with_reducible apply pool.r5 hs); (· (with_reducible (repeat (first | exact .blk | exact .rng | apply Rng.tl)))))
   | (with_reducible refine pool.c5 ?_)
   | ((with_reducible apply pool.e5); (· first | exact hS | exact hid); (· (with_reducible (repeat (first | exact .blk | exact .rng | apply Rng.tl)))))
   | ((with_reducible apply tn_add); (· omega))
   | ((with_reducible apply tn_sub); (· omega))
   | ((with_reducible apply tn_mul); (· omega))
   | ((with_reducible apply sn_add); (· omega))
   | ((with_reducible apply sn_sub); (· omega))
   | ((with_reducible apply sn_mul); (· omega))
   | (with_reducible (first | refine st_lens ?_ | refine mv.mk ?_ | refine nk_p ?_ | refine gdT_i ?_ | refine gdT_ft ?_ | refine gdT_tf ?_ | refine gdT_u ?_ | refine gd_u ?_ | refine gd_ft ?_ | refine gd_tf ?_ | refine gd_i ?_ | refine pk_t ?_ | refine pk_f ?_ | refine br_t ?_ | refine br_f ?_))
   | (with_reducible ((first | apply st_bin | apply st_len); intro k' hk; simp [go_sem, thenR_ok, bin]; refine hk _ _ ?_; clear hk k'))
   | ((with_reducible (first | apply tk_bin | apply tk_len)); (· intro w; simp [go_sem, bin]; rfl))
   | ((with_reducible apply sp_newr hs); (· kernel_rfl); intro g w hs))
  refine cl (pool_size hs (.tl .gr) (by omega) (by omega)) ?_
  rintro _ w ⟨rfl, hs⟩
  refine ⟨hs.mayr (.drop (.drop (.cons .hd .nil))), ?_⟩
  repeat (first
   | ((with_reducible apply tn_add); (· omega))
   | ((with_reducible apply tn_sub); (· omega))
   | ((with_reducible apply tn_mul); (· omega))
   | ((with_reducible apply sn_add); (· omega))
   | ((with_reducible apply sn_sub); (· omega))
   | ((with_reducible apply sn_mul); (· omega))
   | (with_reducible (first | refine st_lens ?_ | refine mv.mk ?_ | refine nk_p ?_ | refine gdT_i ?_ | refine gdT_ft ?_ | refine gdT_tf ?_ | refine gdT_u ?_ | refine gd_u ?_ | refine gd_ft ?_ | refine gd_tf ?_ | refine gd_i ?_ | refine pk_t ?_ | refine pk_f ?_ | refine br_t ?_ | refine br_f ?_))
   | (with_reducible ((first | apply st_bin | apply st_len); intro k' hk; simp [go_sem, thenR_ok, bin]; refine hk _ _ ?_; clear hk k'))
   | ((with_reducible (first | apply tk_bin | apply tk_len)); (· intro w; simp [go_sem, bin]; rfl))
   | ((with_reducible apply sp_newr hs); (· kernel_rfl); intro g w hs))
  by_cases h2 : p.bytes < (sizeP l : Int) + bts.length
  · have hcond : p.txs < (l.length : Int) + 1 ∨ p.bytes < (sizeP l : Int) + bts.length := .inr h2
    rw [decide_eq_true h2]
    repeat (first
     | (with_reducible (first | refine st_lens ?_ | refine mv.mk ?_ | refine nk_p ?_ | refine gdT_i ?_ | refine gdT_ft ?_ | refine gdT_tf ?_ | refine gdT_u ?_ | refine gd_u ?_ | refine gd_ft ?_ | refine gd_tf ?_ | refine gd_i ?_ | refine pk_t ?_ | refine pk_f ?_ | refine br_t ?_ | refine br_f ?_))
     | (with_reducible ((first | apply st_bin | apply st_len); intro k' hk; simp [go_sem, thenR_ok, bin]; refine hk _ _ ?_; clear hk k'))
     | ((with_reducible (first | apply tk_bin | apply tk_len)); (· intro w; simp [go_sem, bin]; rfl))
     | ((with_reducible apply sp_newr hs); (· kernel_rfl); intro g w hs))

    have hlp : 0 < l.length := by
      rcases Nat.eq_zero_or_pos l.length with h0 | h0
      · have hnil : l = [] := List.length_eq_zero_iff.1 h0
        have := ok.t1
        rcases hcond with hc1 | hc1
        · omega
        · rw [hnil, sizeP_nil] at hc1
          omega
      · exact h0
    repeat with_reducible refine mv.mk ?_
    repeat (first
     | (with_reducible (first | refine st_lens ?_ | refine mv.mk ?_ | refine nk_p ?_ | refine gdT_i ?_ | refine gdT_ft ?_ | refine gdT_tf ?_ | refine gdT_u ?_ | refine gd_u ?_ | refine gd_ft ?_ | refine gd_tf ?_ | refine gd_i ?_ | refine pk_t ?_ | refine pk_f ?_ | refine br_t ?_ | refine br_f ?_))
     | (with_reducible ((first | apply st_bin | apply st_len); intro k' hk; simp [go_sem, thenR_ok, bin]; refine hk _ _ ?_; clear hk k'))
     | ((with_reducible (first | apply tk_bin | apply tk_len)); (· intro w; simp [go_sem, bin]; rfl))
     | ((with_reducible apply sp_newr hs); (· kernel_rfl); intro g w hs))
    rw [show IntKind.i64.wrap ((l.length : Int) - 1) = ((l.length - 1 : Nat) : Int) by simp [IntKind.wrap, IntKind.signed, IntKind.bits]; omega]
    refine sp_eln hs (.tl .gr) itT (by kernel_rfl) (l.length - 1) rfl (by omega) fun cs hcl hs => ?_
    obtain ⟨bw, rfl, hs⟩ := item_open hs .hd
    obtain ⟨A2, c2, rfl⟩ := by_slice8 hs .hd
    refine sp_newr hs (by kernel_rfl) fun g5 w hs => ?_
    refine sp_setr (ds := itemV l[l.length - 1] (.slice A2 l[l.length - 1].b.length c2)) hs .hd (by kernel_rfl) hcl (pitemC_one rfl (u8s_one _) rfl rfl) fun w hs => ?_
    have hHy := hB_len l[l.length - 1].b
    repeat (first
     | (with_reducible refine pitem.a0 ?_)
     | ((with_reducible apply pitem.r0 hs); (· (with_reducible (repeat (first | exact .blk | exact .rng | apply Rng.tl)))))
     | (with_reducible refine pitem.c0 ?_)
     | ((with_reducible apply pitem.e0); (· first | exact hS | exact hid); (· (with_reducible (repeat (first | exact .blk | exact .rng | apply Rng.tl)))))
     | (with_reducible refine pitem.a1 ?_)
     | ((with_reducible apply pitem.r1 hs); (· (with_reducible (repeat (first | exact .blk | exact .rng | apply Rng.tl)))); (· (with_reducible (first | assumption | exact z32 | exact u8s_len (by assumption)))))
     | (with_reducible refine pitem.c1 ?_)
     | ((with_reducible apply pitem.e1); (· first | exact hS | exact hid); (· (with_reducible (repeat (first | exact .blk | exact .rng | apply Rng.tl)))); (· (with_reducible (first | assumption | exact z32 | exact u8s_len (by assumption)))))
     | (with_reducible refine pitem.a2 ?_)
     | ((with_reducible apply pitem.r2 hs); (· (with_reducible (repeat (first | exact .blk | exact .rng | apply Rng.tl)))); (· (with_reducible (first | assumption | exact z32 | exact u8s_len (by assumption)))))
     | (with_reducible refine pitem.c2 ?_)
     | ((with_reducible apply pitem.e2); (· first | exact hS | exact hid); (· (with_reducible (repeat (first | exact .blk | exact .rng | apply Rng.tl)))); (· (with_reducible (first | assumption | exact z32 | exact u8s_len (by assumption)))))
     | (with_reducible refine pitem.a3 ?_)
     | ((with_reducible apply pitem.r3 hs); (· (with_reducible (repeat (first | exact .blk | exact .rng | apply Rng.tl)))); (· (with_reducible (first | assumption | exact z32 | exact u8s_len (by assumption)))))
     | (with_reducible refine pitem.c3 ?_)
     | ((with_reducible apply pitem.e3); (· first | exact hS | exact hid); (· (with_reducible (repeat (first | exact .blk | exact .rng | apply Rng.tl)))); (· (with_reducible (first | assumption | exact z32 | exact u8s_len (by assumption)))))
     | (with_reducible (first | refine st_lens ?_ | refine mv.mk ?_ | refine nk_p ?_ | refine gdT_i ?_ | refine gdT_ft ?_ | refine gdT_tf ?_ | refine gdT_u ?_ | refine gd_u ?_ | refine gd_ft ?_ | refine gd_tf ?_ | refine gd_i ?_ | refine pk_t ?_ | refine pk_f ?_ | refine br_t ?_ | refine br_f ?_))
     | (with_reducible ((first | apply st_bin | apply st_len); intro k' hk; simp [go_sem, thenR_ok, bin]; refine hk _ _ ?_; clear hk k'))
     | ((with_reducible (first | apply tk_bin | apply tk_len)); (· intro w; simp [go_sem, bin]; rfl))
     | ((with_reducible apply sp_newr hs); (· kernel_rfl); intro g w hs))
    by_cases hf : fee ≤ l[l.length - 1].fee
    · rw [decide_eq_true hf]
      repeat (first
       | (with_reducible (first | refine st_lens ?_ | refine mv.mk ?_ | refine nk_p ?_ | refine gdT_i ?_ | refine gdT_ft ?_ | refine gdT_tf ?_ | refine gdT_u ?_ | refine gd_u ?_ | refine gd_ft ?_ | refine gd_tf ?_ | refine gd_i ?_ | refine pk_t ?_ | refine pk_f ?_ | refine br_t ?_ | refine br_f ?_))
       | (with_reducible ((first | apply st_bin | apply st_len); intro k' hk; simp [go_sem, thenR_ok, bin]; refine hk _ _ ?_; clear hk k'))
       | ((with_reducible (first | apply tk_bin | apply tk_len)); (· intro w; simp [go_sem, bin]; rfl))
       | ((with_reducible apply sp_newr hs); (· kernel_rfl); intro g w hs))
      refine cl (pool_fault (e := 10) (by decide) (by decide) (by decide) (by decide) hs) ?_
      rintro e w hs
      repeat with_reducible refine mv.mk ?_
      exact add_err (by rw [hadd, hroom, room_full hcond hlp hf]; rfl) (hs.sbl (.cons .hd (.drop (.drop (.drop (.drop (.drop (.cons .hd (.cons .hd (.cons .hd (.drop hL)))))))))))
    rw [decide_eq_false hf]
    repeat (first
     | (with_reducible refine pitem.a0 ?_)
     | ((with_reducible apply pitem.r0 hs); (· (with_reducible (repeat (first | exact .blk | exact .rng | apply Rng.tl)))))
     | (with_reducible refine pitem.c0 ?_)
     | ((with_reducible apply pitem.e0); (· first | exact hS | exact hid); (· (with_reducible (repeat (first | exact .blk | exact .rng | apply Rng.tl)))))
     | (with_reducible refine pitem.a1 ?_)
     | ((with_reducible apply pitem.r1 hs); (· (with_reducible (repeat (first | exact .blk | exact .rng | apply Rng.tl)))); (· (with_reducible (first | assumption | exact z32 | exact u8s_len (by assumption)))))
     | (with_reducible refine pitem.c1 ?_)
     | ((with_reducible apply pitem.e1); (· first | exact hS | exact hid); (· (with_reducible (repeat (first | exact .blk | exact .rng | apply Rng.tl)))); (· (with_reducible (first | assumption | exact z32 | exact u8s_len (by assumption)))))
     | (with_reducible refine pitem.a2 ?_)
     | ((with_reducible apply pitem.r2 hs); (· (with_reducible (repeat (first | exact .blk | exact .rng | apply Rng.tl)))); (· (with_reducible (first | assumption | exact z32 | exact u8s_len (by assumption)))))
     | (with_reducible refine pitem.c2 ?_)
     | ((with_reducible apply pitem.e2); (· first | exact hS | exact hid); (· (with_reducible (repeat (first | exact .blk | exact .rng | apply Rng.tl)))); (· (with_reducible (first | assumption | exact z32 | exact u8s_len (by assumption)))))
     | (with_reducible refine pitem.a3 ?_)
     | ((with_reducible apply pitem.r3 hs); (· (with_reducible (repeat (first | exact .blk | exact .rng | apply Rng.tl)))); (· (with_reducible (first | assumption | exact z32 | exact u8s_len (by assumption)))))
     | (with_reducible refine pitem.c3 ?_)
     | ((with_reducible apply pitem.e3); (· first | exact hS | exact hid); (· (with_reducible (repeat (first | exact .blk | exact .rng | apply Rng.tl)))); (· (with_reducible (first | assumption | exact z32 | exact u8s_len (by assumption)))))
     | (with_reducible (first | refine st_lens ?_ | refine mv.mk ?_ | refine nk_p ?_ | refine gdT_i ?_ | refine gdT_ft ?_ | refine gdT_tf ?_ | refine gdT_u ?_ | refine gd_u ?_ | refine gd_ft ?_ | refine gd_tf ?_ | refine gd_i ?_ | refine pk_t ?_ | refine pk_f ?_ | refine br_t ?_ | refine br_f ?_))
     | (with_reducible ((first | apply st_bin | apply st_len); intro k' hk; simp [go_sem, thenR_ok, bin]; refine hk _ _ ?_; clear hk k'))
     | ((with_reducible (first | apply tk_bin | apply tk_len)); (· intro w; simp [go_sem, bin]; rfl))
     | ((with_reducible apply sp_newr hs); (· kernel_rfl); intro g w hs))
    replace hs := hs.fact (f := hashF (u8s (hB l[l.length - 1].b)) (hB l[l.length - 1].b)) ⟨rfl, hHy⟩
    refine sp_lita hs hsT (by rw [u8s_length, hHy]) (by decide) fun v5 w hs => ?_
    refine sp_push (a := hB l[l.length - 1].b) hs (.tl (.tl (.tl (.tl (.tl .hd))))) hsT .sl (.tl .hd) (u8s_one _) (by omega) (by omega) fun v6 w hs => ?_
    repeat with_reducible refine mv.mk ?_
    repeat (first
     | (with_reducible (first | refine st_lens ?_ | refine mv.mk ?_ | refine nk_p ?_ | refine gdT_i ?_ | refine gdT_ft ?_ | refine gdT_tf ?_ | refine gdT_u ?_ | refine gd_u ?_ | refine gd_ft ?_ | refine gd_tf ?_ | refine gd_i ?_ | refine pk_t ?_ | refine pk_f ?_ | refine br_t ?_ | refine br_f ?_))
     | (with_reducible ((first | apply st_bin | apply st_len); intro k' hk; simp [go_sem, thenR_ok, bin]; refine hk _ _ ?_; clear hk k'))
     | ((with_reducible (first | apply tk_bin | apply tk_len)); (· intro w; simp [go_sem, bin]; rfl))
     | ((with_reducible apply sp_newr hs); (· kernel_rfl); intro g w hs))
    rw [show IntKind.i64.wrap ((l.length : Int) - 1) = ((l.length - 1 : Nat) : Int) by simp [IntKind.wrap, IntKind.signed, IntKind.bits]; omega]
    refine sp_gcut hs (.tl (.tl (.tl (.tl (.tl (.tl .hd)))))) itT (l.length - 1) rfl (by omega) fun v7 hs => ?_
    obtain ⟨A3, c3, rfl⟩ := hs.lst_len .gr
    have htl : (l.take (l.length - 1)).length = l.length - 1 := by rw [List.length_take]; omega
    repeat with_reducible refine mv.mk ?_
    refine ⟨⟨l.take (l.length - 1), gone ++ [hB l[l.length - 1].b], _, v6, rfl, ⟨min (l.length - 1) m, ?_⟩, by rw [htl, List.length_append]; simp; omega, by rw [hroom]; exact room_step hcond hlp hf, hs.sbl (.cons (.tl .hd) (.cons .hd (.drop (.drop (.drop (.drop (.drop .all)))))))⟩, by simp only [htl]; omega⟩
    rw [hm, List.take_take]
  rw [decide_eq_false h2]
  repeat (first
   | (with_reducible (first | refine st_lens ?_ | refine mv.mk ?_ | refine nk_p ?_ | refine gdT_i ?_ | refine gdT_ft ?_ | refine gdT_tf ?_ | refine gdT_u ?_ | refine gd_u ?_ | refine gd_ft ?_ | refine gd_tf ?_ | refine gd_i ?_ | refine pk_t ?_ | refine pk_f ?_ | refine br_t ?_ | refine br_f ?_))
   | (with_reducible ((first | apply st_bin | apply st_len); intro k' hk; simp [go_sem, thenR_ok, bin]; refine hk _ _ ?_; clear hk k'))
   | ((with_reducible (first | apply tk_bin | apply tk_len)); (· intro w; simp [go_sem, bin]; rfl))
   | ((with_reducible apply sp_newr hs); (· kernel_rfl); intro g w hs))
  · have hcond : ¬ (p.txs < (l.length : Int) + 1 ∨ p.bytes < (sizeP l : Int) + bts.length) := by omega
    have hq : addP p bts fee = ({ p with l := insP ⟨bts, fee, p.came⟩ l, known := rememberK p.cache (hB bts) p.known, came := p.came + 1 }, gone, 0) := by rw [hadd, hroom, room_stop hcond]; rfl
    rw [hq]
    have hcm := ok.came
    have hcm0 := ok.came0
    repeat (first
     | (with_reducible refine pool.a0 ?_)
     | ((with_reducible apply pool.r0 hs); (· (with_reducible (repeat (first | exact .blk | exact .rng | apply Rng.tl)))))
     | (with_reducible refine pool.c0 ?_)
     | ((with_reducible apply pool.e0); (· first | exact hS | exact hid); (· (with_reducible (repeat (first | exact .blk | exact .rng | apply Rng.tl)))))
     | (with_reducible refine pool.a1 ?_)
     | ((with_reducible apply pool.r1 hs); (· (with_reducible (repeat (first | exact .blk | exact .rng | apply Rng.tl)))))
     | (with_reducible refine pool.c1 ?_)
     | ((with_reducible apply pool.e1); (· first | exact hS | exact hid); (· (with_reducible (repeat (first | exact .blk | exact .rng | apply Rng.tl)))))
     | (with_reducible refine pool.a2 ?_)
     | ((with_reducible apply pool.r2 hs); (· (with_reducible (repeat (first | exact .blk | exact .rng | apply Rng.tl)))))
     | (with_reducible refine pool.c2 ?_)
     | ((with_reducible apply pool.e2); (· first | exact hS | exact hid); (· (with_reducible (repeat (first | exact .blk | exact .rng | apply Rng.tl)))))
     | (with_reducible refine pool.a3 ?_)
     | ((with_reducible apply pool.r3 hs); (· (with_reducible (repeat (first | exact .blk | exact .rng | apply Rng.tl)))))
     | (with_reducible refine pool.c3 ?_)
     | ((with_reducible apply pool.e3); (· first | exact hS | exact hid); (· (with_reducible (repeat (first | exact .blk | exact .rng | apply Rng.tl)))))
     | (with_reducible refine pool.a5 ?_)
     | ((with_reducible apply pool.r5 hs); (· (with_reducible (repeat (first | exact .blk | exact .rng | apply Rng.tl)))))
     | (with_reducible refine pool.c5 ?_)
     | ((with_reducible apply pool.e5); (· first | exact hS | exact hid); (· (with_reducible (repeat (first | exact .blk | exact .rng | apply Rng.tl)))))
     | ((with_reducible apply tn_add); (· omega))
     | ((with_reducible apply tn_sub); (· omega))
     | ((with_reducible apply tn_mul); (· omega))
     | ((with_reducible apply sn_add); (· omega))
     | ((with_reducible apply sn_sub); (· omega))
     | ((with_reducible apply sn_mul); (· omega))
     | (with_reducible (first | refine st_lens ?_ | refine mv.mk ?_ | refine nk_p ?_ | refine gdT_i ?_ | refine gdT_ft ?_ | refine gdT_tf ?_ | refine gdT_u ?_ | refine gd_u ?_ | refine gd_ft ?_ | refine gd_tf ?_ | refine gd_i ?_ | refine pk_t ?_ | refine pk_f ?_ | refine br_t ?_ | refine br_f ?_))
     | (with_reducible ((first | apply st_bin | apply st_len); intro k' hk; simp [go_sem, thenR_ok, bin]; refine hk _ _ ?_; clear hk k'))
     | ((with_reducible (first | apply tk_bin | apply tk_len)); (· intro w; simp [go_sem, bin]; rfl))
     | ((with_reducible apply sp_newr hs); (· kernel_rfl); intro g w hs))
    refine sx_st (p := 5) hs (.tl (.tl .hd)) (by kernel_rfl) ⟨rfl, rfl⟩ (by simp [poolC]) fun w hs => ?_
    replace hs : Isk.Sep b w (blkI g T.pool_Pool (poolC (.int .i64 p.txs) (.int .i64 p.bytes) (.int .i64 p.cache) lv kv (.int .i64 (p.came + 1))) :: _) := hs
    repeat (first
     | (with_reducible (first | refine st_lens ?_ | refine mv.mk ?_ | refine nk_p ?_ | refine gdT_i ?_ | refine gdT_ft ?_ | refine gdT_tf ?_ | refine gdT_u ?_ | refine gd_u ?_ | refine gd_ft ?_ | refine gd_tf ?_ | refine gd_i ?_ | refine pk_t ?_ | refine pk_f ?_ | refine br_t ?_ | refine br_f ?_))
     | (with_reducible ((first | apply st_bin | apply st_len); intro k' hk; simp [go_sem, thenR_ok, bin]; refine hk _ _ ?_; clear hk k'))
     | ((with_reducible (first | apply tk_bin | apply tk_len)); (· intro w; simp [go_sem, bin]; rfl))
     | ((with_reducible apply sp_newr hs); (· kernel_rfl); intro g w hs))
    have h35 : (itemV ⟨bts, fee, p.came⟩ cv).length = 35 := by simp [pitemC, u8s_length, hB_len]
    obtain ⟨Ac, cc, rfl⟩ := by_slice8 hs (.tl (.tl (.tl (.tl (.tl (.tl hc))))))
    have hone : ∀ u ∈ itemV ⟨bts, fee, p.came⟩ (.slice Ac bts.length cc), u.oneCell' = true := pitemC_one rfl (u8s_one _) rfl rfl
    refine sp_loadall hs (.tl (.tl (.tl (.tl (.tl .hd))))) (by kernel_rfl) h35 ?_
    replace hs := hs.fact (f := itemF (itemV ⟨bts, fee, p.came⟩ (.slice Ac bts.length cc)) ⟨bts, fee, p.came⟩) ⟨_, rfl, hs.get (.tl (.tl (.tl (.tl (.tl (.tl hc))))))⟩
    refine sp_lita hs itT h35 (by decide) fun v5 w hs => ?_
    refine sp_push (ys := itemV ⟨bts, fee, p.came⟩ (.slice Ac bts.length cc)) (a := (⟨bts, fee, p.came⟩ : ItemD)) hs (.tl (.tl (.tl (.tl .hd)))) itT (by exact .sl) (by exact (.tl .hd)) (by exact hone) (by omega) (by omega) fun v6 w hs => ?_
    have hv6 := hs.gcells .hd
    repeat (first
     | (with_reducible refine pool.a0 ?_)
     | ((with_reducible apply pool.r0 hs); (· (with_reducible (repeat (first | exact .blk | exact .rng | apply Rng.tl)))))
     | (with_reducible refine pool.c0 ?_)
     | ((with_reducible apply pool.e0); (· first | exact hS | exact hid); (· (with_reducible (repeat (first | exact .blk | exact .rng | apply Rng.tl)))))
     | (with_reducible refine pool.a1 ?_)
     | ((with_reducible apply pool.r1 hs); (· (with_reducible (repeat (first | exact .blk | exact .rng | apply Rng.tl)))))
     | (with_reducible refine pool.c1 ?_)
     | ((with_reducible apply pool.e1); (· first | exact hS | exact hid); (· (with_reducible (repeat (first | exact .blk | exact .rng | apply Rng.tl)))))
     | (with_reducible refine pool.a2 ?_)
     | ((with_reducible apply pool.r2 hs); (· (with_reducible (repeat (first | exact .blk | exact .rng | apply Rng.tl)))))
     | (with_reducible refine pool.c2 ?_)
     | ((with_reducible apply pool.e2); (· first | exact hS | exact hid); (· (with_reducible (repeat (first | exact .blk | exact .rng | apply Rng.tl)))))
     | (with_reducible refine pool.a3 ?_)
     | ((with_reducible apply pool.r3 hs); (· (with_reducible (repeat (first | exact .blk | exact .rng | apply Rng.tl)))))
     | (with_reducible refine pool.c3 ?_)
     | ((with_reducible apply pool.e3); (· first | exact hS | exact hid); (· (with_reducible (repeat (first | exact .blk | exact .rng | apply Rng.tl)))))
     | (with_reducible refine pool.a5 ?_)
     | ((with_reducible apply pool.r5 hs); (· (with_reducible (repeat (first | exact .blk | exact .rng | apply Rng.tl)))))
     | (with_reducible refine pool.c5 ?_)
     | ((with_reducible apply pool.e5); (· first | exact hS | exact hid); (· (with_reducible (repeat (first | exact .blk | exact .rng | apply Rng.tl)))))
     | (with_reducible (first | refine st_lens ?_ | refine mv.mk ?_ | refine nk_p ?_ | refine gdT_i ?_ | refine gdT_ft ?_ | refine gdT_tf ?_ | refine gdT_u ?_ | refine gd_u ?_ | refine gd_ft ?_ | refine gd_tf ?_ | refine gd_i ?_ | refine pk_t ?_ | refine pk_f ?_ | refine br_t ?_ | refine br_f ?_))
     | (with_reducible ((first | apply st_bin | apply st_len); intro k' hk; simp [go_sem, thenR_ok, bin]; refine hk _ _ ?_; clear hk k'))
     | ((with_reducible (first | apply tk_bin | apply tk_len)); (· intro w; simp [go_sem, bin]; rfl))
     | ((with_reducible apply sp_newr hs); (· kernel_rfl); intro g w hs))
    refine sx_st (p := 3) hs (.tl (.tl (.tl .hd))) (by kernel_rfl) hv6 (by simp [poolC]) fun w hs => ?_
    replace hs : Isk.Sep b w (blkI g T.pool_Pool (poolC (.int .i64 p.txs) (.int .i64 p.bytes) (.int .i64 p.cache) v6 kv (.int .i64 (p.came + 1))) :: _) := hs
    repeat (first
     | (with_reducible refine pool.a0 ?_)
     | ((with_reducible apply pool.r0 hs); (· (with_reducible (repeat (first | exact .blk | exact .rng | apply Rng.tl)))))
     | (with_reducible refine pool.c0 ?_)
     | ((with_reducible apply pool.e0); (· first | exact hS | exact hid); (· (with_reducible (repeat (first | exact .blk | exact .rng | apply Rng.tl)))))
     | (with_reducible refine pool.a1 ?_)
     | ((with_reducible apply pool.r1 hs); (· (with_reducible (repeat (first | exact .blk | exact .rng | apply Rng.tl)))))
     | (with_reducible refine pool.c1 ?_)
     | ((with_reducible apply pool.e1); (· first | exact hS | exact hid); (· (with_reducible (repeat (first | exact .blk | exact .rng | apply Rng.tl)))))
     | (with_reducible refine pool.a2 ?_)
     | ((with_reducible apply pool.r2 hs); (· (with_reducible (repeat (first | exact .blk | exact .rng | apply Rng.tl)))))
     | (with_reducible refine pool.c2 ?_)
     | ((with_reducible apply pool.e2); (· first | exact hS | exact hid); (· (with_reducible (repeat (first | exact .blk | exact .rng | apply Rng.tl)))))
     | (with_reducible refine pool.a3 ?_)
     | ((with_reducible apply pool.r3 hs); (· (with_reducible (repeat (first | exact .blk | exact .rng | apply Rng.tl)))))
     | (with_reducible refine pool.c3 ?_)
     | ((with_reducible apply pool.e3); (· first | exact hS | exact hid); (· (with_reducible (repeat (first | exact .blk | exact .rng | apply Rng.tl)))))
     | (with_reducible refine pool.a5 ?_)
     | ((with_reducible apply pool.r5 hs); (· (with_reducible (repeat (first | exact .blk | exact .rng | apply Rng.tl)))))
     | (with_reducible refine pool.c5 ?_)
     | ((with_reducible apply pool.e5); (· first | exact hS | exact hid); (· (with_reducible (repeat (first | exact .blk | exact .rng | apply Rng.tl)))))
     | (with_reducible (first | refine st_lens ?_ | refine mv.mk ?_ | refine nk_p ?_ | refine gdT_i ?_ | refine gdT_ft ?_ | refine gdT_tf ?_ | refine gdT_u ?_ | refine gd_u ?_ | refine gd_ft ?_ | refine gd_tf ?_ | refine gd_i ?_ | refine pk_t ?_ | refine pk_f ?_ | refine br_t ?_ | refine br_f ?_))
     | (with_reducible ((first | apply st_bin | apply st_len); intro k' hk; simp [go_sem, thenR_ok, bin]; refine hk _ _ ?_; clear hk k'))
     | ((with_reducible (first | apply tk_bin | apply tk_len)); (· intro w; simp [go_sem, bin]; rfl))
     | ((with_reducible apply sp_newr hs); (· kernel_rfl); intro g w hs))
    refine cl (sortItems hs (.tl .hd) (by simp) (by simp; omega)) ?_
    rintro _ w ⟨rfl, ls', hperm, hsrt, hs⟩
    have hsub : l.Sublist p.l := by rw [hm]; exact List.take_sublist ..
    have hins : (insP ⟨bts, fee, p.came⟩ l).Pairwise ltI := insP_sorted (List.Pairwise.sublist hsub ok.srt) fun y hy => (ok.lt y (hsub.subset hy)).1
    have hls : ls' = insP ⟨bts, fee, p.came⟩ l := sorted_unique hins hsrt (hperm.trans (insP_perm _ _).symm)
    rw [hls] at hs
    repeat (first
     | (with_reducible refine pitem.a0 ?_)
     | ((with_reducible apply pitem.r0 hs); (· (with_reducible (repeat (first | exact .blk | exact .rng | apply Rng.tl)))))
     | (with_reducible refine pitem.c0 ?_)
     | ((with_reducible apply pitem.e0); (· first | exact hS | exact hid); (· (with_reducible (repeat (first | exact .blk | exact .rng | apply Rng.tl)))))
     | (with_reducible refine pitem.a1 ?_)
     | ((with_reducible apply pitem.r1 hs); (· (with_reducible (repeat (first | exact .blk | exact .rng | apply Rng.tl)))); (· (with_reducible (first | assumption | exact z32 | exact u8s_len (by assumption)))))
     | (with_reducible refine pitem.c1 ?_)
     | ((with_reducible apply pitem.e1); (· first | exact hS | exact hid); (· (with_reducible (repeat (first | exact .blk | exact .rng | apply Rng.tl)))); (· (with_reducible (first | assumption | exact z32 | exact u8s_len (by assumption)))))
     | (with_reducible refine pitem.a2 ?_)
     | ((with_reducible apply pitem.r2 hs); (· (with_reducible (repeat (first | exact .blk | exact .rng | apply Rng.tl)))); (· (with_reducible (first | assumption | exact z32 | exact u8s_len (by assumption)))))
     | (with_reducible refine pitem.c2 ?_)
     | ((with_reducible apply pitem.e2); (· first | exact hS | exact hid); (· (with_reducible (repeat (first | exact .blk | exact .rng | apply Rng.tl)))); (· (with_reducible (first | assumption | exact z32 | exact u8s_len (by assumption)))))
     | (with_reducible refine pitem.a3 ?_)
     | ((with_reducible apply pitem.r3 hs); (· (with_reducible (repeat (first | exact .blk | exact .rng | apply Rng.tl)))); (· (with_reducible (first | assumption | exact z32 | exact u8s_len (by assumption)))))
     | (with_reducible refine pitem.c3 ?_)
     | ((with_reducible apply pitem.e3); (· first | exact hS | exact hid); (· (with_reducible (repeat (first | exact .blk | exact .rng | apply Rng.tl)))); (· (with_reducible (first | assumption | exact z32 | exact u8s_len (by assumption)))))
     | (with_reducible (first | refine st_lens ?_ | refine mv.mk ?_ | refine nk_p ?_ | refine gdT_i ?_ | refine gdT_ft ?_ | refine gdT_tf ?_ | refine gdT_u ?_ | refine gd_u ?_ | refine gd_ft ?_ | refine gd_tf ?_ | refine gd_i ?_ | refine pk_t ?_ | refine pk_f ?_ | refine br_t ?_ | refine br_f ?_))
     | (with_reducible ((first | apply st_bin | apply st_len); intro k' hk; simp [go_sem, thenR_ok, bin]; refine hk _ _ ?_; clear hk k'))
     | ((with_reducible (first | apply tk_bin | apply tk_len)); (· intro w; simp [go_sem, bin]; rfl))
     | ((with_reducible apply sp_newr hs); (· kernel_rfl); intro g w hs))
    replace hs := hs.sbl (L' := blkI g T.pool_Pool (poolV { p with l := insP ⟨bts, fee, p.came⟩ l, came := p.came + 1 } v6 kv) :: growI itemF T.pool_item 35 v6 (insP ⟨bts, fee, p.came⟩ l) :: growI hashF T.api_Hash 32 gv gone :: (listF hashF 32 kv p.known).it :: L) (.cons (.tl .hd) (.cons .hd (.drop (.drop (.cons .hd (.drop (.cons .hd (.drop hL))))))))
    refine cl (pool_remember (p := { p with l := insP ⟨bts, fee, p.came⟩ l, came := p.came + 1 }) (by show p.known.length ≤ _; omega) ok.c1 (by show p.cache ≤ _; omega) hH hs (.tl (.tl .hd))) ?_
    rintro _ w ⟨rfl, kv2, hs⟩
    repeat with_reducible refine mv.mk ?_
    replace hs := errF_nil (hs.growF (.tl (.tl (.tl .hd))))
    exact ⟨gv, .nilIface, v6, kv2, rfl, hs.sbl (.cons (.tl .hd) (.cons .hd (.cons (.tl .hd) (.cons (.tl .hd) (.cons .hd (.drop .all))))))⟩
end
end Go.Proofs.YtgagekffmamldaaGreatDoor
