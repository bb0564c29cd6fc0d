/- Rows of one's own: an element of many cells set; cut, with the rest cleared. -/
import Derived.Test.YtgagekffmamldaaGreatDoorKX
import Derived.Lib.SliceRun
set_option linter.unusedVariables false
set_option linter.unusedSimpArgs false
set_option linter.unusedSectionVars false
namespace Go.Isk
open Go Go.RowKit
section
variable {P : Program} {b : Base} {w : World} {L R : List It} {v : Value} {E n sz g : Nat} {xs cs : List Value} {k : Value → World → Prop}
theorem ixn_run {T E by_ g o n cap j : Nat} {q : IntKind} {i : Int} (hT : slT P T E sz by_ = true) (hj : i = j) (hl : j < n) (w : World) : (Instr.indexAt T (.slice (some ⟨g, o, none⟩) n cap) (.int q i)).run P w = .ok (.pointer (some ⟨g, o + j * sz, none⟩)) w := by
  obtain ⟨h1, hsz, i', z, hi', hz, hs1, hs2, hs3⟩ := slT.spec hT
  subst hj
  simp [Instr.indexAt, asIntOf, run_underlying h1, sizeOf, typeInfo, hi', hs1, Addr.add_mid, hl]
/-- an element of many cells of a row of one's own is set -/
theorem sp_setn {T by_ : Nat} {q : IntKind} {i : Int} (h : Sep b w L) (hm : Has L (rowI v E sz n xs) R) (hT : slT P T E sz by_ = true) (hi : (P.info? E).map (·.size) = some sz) (j : Nat) (hj : i = j) (hl : j < n) (hc : cs.length = sz) (h1 : ∀ u ∈ cs, u.oneCell' = true)
    (hk : ∀ w', Sep b w' (rowI v E sz n (xs.take (j * sz) ++ cs ++ xs.drop (j * sz + sz)) :: R) → k undef w') : o1 P (Instr.indexAt T v (.int q i)) w fun a w => o0 P (Instr.storeAt E a (.agg cs.toArray)) w k := by
  have ho := h.get hm.ins
  obtain ⟨hx, ⟨rfl, rfl⟩ | ⟨g, cap, cur, rfl, hB, hb, hcc, hmx, hsz, htk⟩⟩ := ho
  · omega
  · have hblk : Blk w g E cur.toList := by
      unfold Blk
      rw [hb]
    have hjn : j * sz + sz ≤ n * sz := by
      have := Nat.mul_le_mul_right sz (show j + 1 ≤ n by omega)
      rwa [Nat.succ_mul] at this
    have hnc : n * sz ≤ cap * sz := Nat.mul_le_mul_right sz hcc
    have hcl : cur.toList.length = cap * sz := by rw [Array.length_toList, hsz]
    have hcv : (Value.agg cs.toArray).cells = cs.toArray := rfl
    refine st_of (ixn_run hT hj hl w) ?_
    rw [Nat.zero_add]
    refine st_store (by rw [hi, hcv]; simp [hc]) hblk (by rw [hcv, List.size_toArray]; omega) (by rw [hcv]; simpa using h1) fun w' hb' hu' => hk w' ?_
    rw [hcv, List.size_toArray, hc] at hb'
    refine h.rerow hm (hu'.mono fun k _ e => by simp [Value.ownBlock, e]) (.inl rfl) ⟨by simp only [List.length_append, List.length_take, List.length_drop, hx, hc]; omega, .inr ⟨g, cap, _, rfl, Nat.zero_le _, hb', hcc, hmx, ?_, ?_⟩⟩
    · rw [← hsz]
      simp [hc, List.length_take, List.length_drop]
      rw [Array.length_toList] at hcl
      omega
    · rw [← htk]
      show (cur.toList.take (j * sz) ++ cs ++ cur.toList.drop (j * sz + sz)).take (n * sz) = _
      rw [List.take_take, Nat.min_eq_left (by omega), List.drop_take, List.append_assoc, List.append_assoc, List.take_append, List.take_append]
      rw [List.take_of_length_le (l := cur.toList.take (j * sz)) (by rw [List.length_take]; omega)]
      have e1 : (cur.toList.take (j * sz)).length = j * sz := by rw [List.length_take]; omega
      rw [e1, List.take_of_length_le (l := cs) (by omega), hc]
      congr 3
      omega
def zoneT (P : Program) (t sz : Nat) : Bool := match P.info? t with
  | some i => match i.zero with
    | some z => Nat.beq z.cells.size sz && z.cells.all fun u => u.oneCell'
    | none => false
  | none => false
theorem clr_run {T t0 by_ m o c : Nat} {cur : List Value} (hT : slT P T E sz by_ = true) (hz : zoneT P E sz = true) (hb : Blk w g E cur) (hm : 0 < m) (hl : o + m * sz ≤ cur.length) :
    ∃ zs : List Value, zs.length = m * sz ∧ (Builtin.clear_ #[T] t0 #[.slice (some ⟨g, o, none⟩) m c]).run P w = .ok (.tuple #[]) (w.setRow g (cur.take o ++ zs ++ cur.drop (o + m * sz)).toArray) := by
  obtain ⟨h1, hsz, j, z, hj, hz', hs1, hs2, hs3⟩ := slT.spec hT
  unfold zoneT at hz
  rw [hj] at hz
  simp only [hz', Bool.and_eq_true] at hz
  have hzs : z.cells.size = sz := Nat.eq_of_beq_eq_true hz.1
  have hall : ∀ u ∈ z.cells.toList, u.oneCell' = true := fun u hu => by
    have := Array.all_eq_true'.1 hz.2 u (by simpa using hu)
    exact this
  have hlen : (Builtin.zeroCells z.cells m).toList.length = m * sz := by simp [Builtin.zeroCells, hzs]
  refine ⟨(Builtin.zeroCells z.cells m).toList, hlen, ?_⟩
  have hone : ∀ u ∈ (Builtin.zeroCells z.cells m).toList, u.oneCell' = true := fun u hu => by
    simp only [Builtin.zeroCells, Array.toList_map, List.mem_map] at hu
    obtain ⟨i, _, rfl⟩ := hu
    have hi : i % z.cells.size < z.cells.size := Nat.mod_lt _ (by omega)
    rw [getElem!_pos z.cells _ hi]
    exact hall _ (by simp)
  have hst := run_storeCells_at (P := P) g o E (Builtin.zeroCells z.cells m).toList 0 cur.toArray w (by unfold Blk at hb; exact hb) (by rw [hlen]; simpa using hl) hone
  simp only [Nat.add_zero, hlen] at hst
  have hzv : (zeroValue E).run P w = .ok z w := by simp [zeroValue, typeInfo, hj, hz']
  obtain ⟨m', rfl⟩ : ∃ m', m = m' + 1 := ⟨m - 1, by omega⟩
  simp only [Builtin.clear_]
  simp [run_underlying h1, Sem.run_bind, hzv, hst]
theorem ob_of {s : Unit → Sem Value} {w' : World} {u : Value} (h : (s ()).run P w = .ok u w') (hk : k u w') : ob P s w k := ⟨by rw [h]; exact hk⟩
theorem slf_run {T by_ c i : Nat} {A : Option Addr} {q : IntKind} (hT : slT P T E sz by_ = true) (hi : i ≤ n) (hn : n ≤ c) (w : World) : (Instr.sliceAt T (.slice A n c) (some (.int q i)) none none).run P w = .ok (sliced A i n c sz) w := by
  obtain ⟨h1, hsz, j, z, hj, hz, hs1, hs2, hs3⟩ := slT.spec hT
  have he : P.elem T = E := by simp [Program.elem, h1]
  rw [run_sliceAt_slice w T _ _ _ _ (by rw [h1, he]), run_slice_l w T A n c (by rw [h1, he]) q i (by omega) (by omega)]
  simp [sizeOf, typeInfo, he, hj, hs1]
theorem slt_run {T by_ c i : Nat} {A : Option Addr} {q : IntKind} (hT : slT P T E sz by_ = true) (hi : i ≤ n) (hn : n ≤ c) (w : World) : (Instr.sliceAt T (.slice A n c) none (some (.int q i)) none).run P w = .ok (.slice A i c) w := by
  obtain ⟨h1, hsz, j, z, hj, hz, hs1, hs2, hs3⟩ := slT.spec hT
  have he : P.elem T = E := by simp [Program.elem, h1]
  rw [run_sliceAt_slice w T _ _ _ _ (by rw [h1, he]), run_slice_h w T A n c (by rw [h1, he]) q i (by omega) (by omega)]
  have hz0 : sliced A 0 i c sz = .slice A i c := by
    cases A with
    | none => simp [sliced]
    | some a =>
      have : a.add 0 = a := by unfold Addr.add; split <;> simp_all
      simp [sliced, this]
  simp [sizeOf, typeInfo, he, hj, hs1, hz0]
theorem own_cap (h : w.ownsRow 0 E sz v n xs) : ∃ A c, v = .slice A n c ∧ n ≤ c := by
  obtain ⟨_, ⟨rfl, rfl⟩ | ⟨g, cap, cur, rfl, _, _, hc, _⟩⟩ := h
  · exact ⟨none, 0, rfl, Nat.le_refl _⟩
  · exact ⟨_, _, rfl, hc⟩
/-- a row of one's own, cut -/
theorem own_cut {i c : Nat} {A : Option Addr} (h : w.ownsRow 0 E sz (.slice A n c) n xs) (hi : i ≤ n) : w.ownsRow 0 E sz (.slice A i c) i (xs.take (i * sz)) := by
  obtain ⟨hx, ⟨hv, h0⟩ | ⟨g, cap, cur, hv, hB, hb, hcc, hmx, hsz, htk⟩⟩ := h
  · cases hv
    obtain rfl : i = 0 := by omega
    exact ⟨by simp, .inl ⟨rfl, rfl⟩⟩
  · cases hv
    have hle : i * sz ≤ n * sz := Nat.mul_le_mul_right sz hi
    refine ⟨by rw [List.length_take, hx]; omega, .inr ⟨g, c, cur, rfl, hB, hb, by omega, hmx, hsz, ?_⟩⟩
    rw [← htk, List.take_take, Nat.min_eq_left hle]
/-- .. and what is cut off is cleared -/
theorem sp_cutclear {T t0 by_ i : Nat} {q q2 : IntKind} (h : Sep b w L) (hm : Has L (rowI v E sz n xs) R) (hT : slT P T E sz by_ = true) (hz : zoneT P E sz = true) (hi : i ≤ n)
    (hk : ∀ v' w', Sep b w' (rowI v' E sz i (xs.take (i * sz)) :: R) → k v' w') :
    o1 P (Instr.sliceAt T v (some (.int q i)) none none) w fun t38 w => ob P (fun _ => Builtin.clear_ #[T] t0 #[t38]) w fun _ w => mv v fun t39 => mv (.int q2 i) fun t40 => o1 P (Instr.sliceAt T t39 none (some t40) none) w k := by
  have ho := h.get hm.ins
  obtain ⟨A, c, rfl, hn⟩ := own_cap ho
  refine st_of (slf_run hT hi hn w) ?_
  rcases Nat.lt_or_ge i n with hlt | hge
  · obtain ⟨hx, ⟨hv, h0⟩ | ⟨g, cap, cur, hv, hB, hb, hcc, hmx, hsz, htk⟩⟩ := ho
    · omega
    cases hv
    have hblk : Blk w g E cur.toList := by unfold Blk; rw [hb]
    have hcl : cur.toList.length = c * sz := by rw [Array.length_toList, hsz]
    have hni : i * sz + (n - i) * sz = n * sz := by rw [← Nat.add_mul]; congr 1; omega
    have hnc : n * sz ≤ c * sz := Nat.mul_le_mul_right sz hcc
    obtain ⟨zs, hzl, hrun⟩ := clr_run (w := w) (t0 := t0) (o := i * sz) (m := n - i) (c := c - i) hT hz hblk (by omega) (by omega)
    have hs1 : sliced (some ⟨g, 0, none⟩) i n c sz = .slice (some ⟨g, i * sz, none⟩) (n - i) (c - i) := by
      have hne : ¬ c = i := by omega
      simp [sliced, hne, Addr.add_mid]
    rw [hs1]
    refine ob_of hrun ?_
    refine mv.mk (mv.mk ?_)
    refine st_of (slt_run hT hi hn _) (hk _ _ ?_)
    refine h.rerow hm ((setRow_upd w g _).mono fun k _ e => by simp [Value.ownBlock, e]) (.inl rfl) ⟨?_, .inr ⟨g, c, _, rfl, Nat.zero_le _, hblk.setRow _, by omega, hmx, ?_, ?_⟩⟩
    · rw [List.length_take, hx]
      have := Nat.mul_le_mul_right sz hi
      omega
    · rw [List.size_toArray]
      simp only [List.length_append, List.length_take, List.length_drop, hzl]
      omega
    · show (cur.toList.take (i * sz) ++ zs ++ cur.toList.drop (i * sz + (n - i) * sz)).take (i * sz) = _
      rw [List.append_assoc, List.take_append, List.take_take, Nat.min_self, List.length_take, Nat.min_eq_left (by omega), Nat.sub_self, List.take_zero, List.append_nil, ← htk, List.take_take, Nat.min_eq_left (by omega)]
  · obtain rfl : i = n := by omega
    have hrun : (Builtin.clear_ #[T] t0 #[sliced A i i c sz]).run P w = .ok (.tuple #[]) w := by
      obtain ⟨h1, _⟩ := slT.spec hT
      have : ∃ B m, sliced A i i c sz = .slice B 0 m := by
        unfold sliced
        rw [Nat.sub_self]
        exact ⟨_, _, rfl⟩
      obtain ⟨B, m, hB⟩ := this
      rw [hB]
      simp only [Builtin.clear_]
      cases B <;> simp [run_underlying h1, Sem.run_bind]
    refine ob_of hrun ?_
    refine mv.mk (mv.mk ?_)
    refine st_of (slt_run hT hi hn _) (hk _ _ ?_)
    exact h.rerow hm Upd.refl (.inl (by cases A <;> rfl)) (own_cut (h.get hm.ins) hi)
end
end Go.Isk
set_option linter.unusedVariables false
set_option linter.unusedSimpArgs false
set_option linter.unusedSectionVars false
namespace Go.Isk
open Go Go.RowKit
section
variable {P : Program} {b : Base} {w : World} {L R : List It} {v sv : Value} {E n sz g : Nat} {xs cs : List Value} {k : Value → World → Prop} {α : Type} {F : Fam α} {ls : List α}
def CloneBody (P : Program) (TS : Nat) (k : Value → World → Prop) (a0 : Value) (w : World) : Prop :=
  mv (.slice none 0 0) fun t2 =>
  mv a0 fun t3 =>
  o1 P (bin .eql TS (.tmp 3) (.const (.slice none 0 0)) t3 (.slice none 0 0)) w fun t4 w =>
  br t4 (fun _ =>
  mv (.slice none 0 0) fun t2_1 =>
  k t2_1 w) (fun _ =>
  o1 P (Instr.buildSlice TS 0 #[]) w fun t5 w =>
  mv a0 fun t6 =>
  ob P (fun _ => Builtin.append_ #[TS, TS] TS #[t5, t6]) w fun t7 w =>
  mv t7 fun t2_2 =>
  k t2_2 w)
theorem nilT_run {T by_ n c : Nat} {A : Option Addr} (hT : slT P T E sz by_ = true) (o1 o2 : Operand) (w : World) : (bin .eql T o1 o2 (.slice A n c) (.slice none 0 0)).run P w = .ok (.bool A.isNone) w := by
  obtain ⟨e1, _⟩ := slT.spec hT
  have h1 : (eqGuard .eql T o1 o2 (.slice A n c) (.slice none 0 0)).run P w = .ok () w := by simp [go_sem]
  rw [bin_run h1]
  exact Lib.run_eql_slice_nil w _ _ A n c 0 0 e1
theorem mk0_run {T by_ : Nat} (hT : slT P T E sz by_ = true) (w : World) : (Instr.buildSlice T 0 #[]).run P w = .ok (.slice (some ⟨w.heap.size, 0, none⟩) 0 0) (w.alloc (.cells #[] E)) := by
  obtain ⟨e1, hsz, j, z, hj, hz, hs1, hs2, hs3⟩ := slT.spec hT
  simp [Instr.buildSlice, run_underlying e1, sizeOf, typeInfo, hj, Instr.fill, newRow, newObj, Sem.run, Result.andThen, ← World.alloc_eq]
  refine congrArg (fun c => w.heap.push (Obj.cells c E)) ?_
  apply Array.ext'
  simp
theorem clone_core {T by_ : Nat} (hT : slT P T E sz by_ = true) (hx : Sl w sv n sz xs) (h1 : ∀ u ∈ xs, u.oneCell' = true) (hl : n * by_ ≤ 140737488355328) (hn : n ≤ 140737488355328)
    (hk : ∀ v' w', Ext w w' → w'.ownsRow 0 E sz v' n xs → (∀ k, v'.ownBlock = some k → w.heap.size ≤ k ∧ k < w'.heap.size) → k v' w') : CloneBody P T k sv w := by
  have hx0 := hx
  obtain ⟨A, c, rfl, hc, hxl, hr⟩ := hx
  unfold CloneBody
  refine mv.mk (mv.mk ?_)
  refine st_of (nilT_run hT _ _ w) ?_
  obtain ⟨_, hsz, _⟩ := slT.spec hT
  cases A with
  | none =>
    refine br_t ?_
    refine mv.mk ?_
    have hn0 : n = 0 := Nat.eq_zero_of_not_pos fun h => by
      obtain ⟨g, o, h5, _⟩ := hr (Nat.mul_pos h hsz)
      cases h5
    subst hn0
    have hx0 : xs = [] := List.length_eq_zero_iff.1 (by rw [hxl, Nat.zero_mul])
    subst hx0
    exact hk _ _ Upd.refl ⟨by simp, .inl ⟨rfl, rfl⟩⟩ (fun k hk => by simp [Value.ownBlock] at hk)
  | some a =>
    refine br_f ?_
    refine st_of (mk0_run hT w) ?_
    refine mv.mk ?_
    have hu0 : Ext w (w.alloc (.cells #[] E)) := upd_alloc _
    have hown : (w.alloc (.cells #[] E)).ownsRow 0 E sz (.slice (some ⟨w.heap.size, 0, none⟩) 0 0) 0 [] := ⟨by simp, .inr ⟨w.heap.size, 0, #[], rfl, Nat.zero_le _, heap_alloc_new w _, Nat.le_refl _, Nat.zero_le _, by simp, by simp⟩⟩
    have hsx : Sl (w.alloc (.cells #[] E)) (.slice (some a) n c) n sz xs := hx0.keep' hu0 fun _ _ _ hf => hf
    refine st_app hT hown hsx h1 (by rw [Nat.zero_add]; exact hl) (by omega) (Nat.zero_le _) fun v' w' ho hu hv => ?_
    refine mv.mk ?_
    rw [Nat.zero_add, List.nil_append] at ho
    have hext : Ext w w' := hu0.trans hu fun k hk e => by
      simp only [Value.ownBlock, Option.some.injEq] at e
      omega
    refine hk _ _ hext ho fun k hk => ⟨?_, own_lt ho hk⟩
    rcases hv with e | ⟨k', e, hk'⟩
    · rw [e] at hk
      simp only [Value.ownBlock, Option.some.injEq] at hk
      omega
    · rw [e] at hk; cases hk
      have := hu0.size
      omega
theorem clone_row {T by_ : Nat} (hT : slT P T E sz by_ = true) (hs : Sep b w L) (hx : Rds L sv n sz xs) (h1 : ∀ u ∈ xs, u.oneCell' = true) (hl : n * by_ ≤ 140737488355328) (hn : n ≤ 140737488355328)
    (hk : ∀ v' w', Sep b w' (rowI v' E sz n xs :: L) → k v' w') : CloneBody P T k sv w :=
  clone_core hT (hs.reads hx) h1 hl hn fun v' w' hu ho hb => hk v' w' (hs.add (I := rowI v' E sz n xs) hu (fun k hk => by
    have hk : v'.ownBlock = some k := by simpa [rowI] using hk
    exact ⟨(hb k hk).2, (hb k hk).1⟩) ho)
theorem clone_grow {T by_ : Nat} (hT : slT P T E sz by_ = true) (hs : Sep b w L) (hm : Lst F sz L sv ls) (hF : FamOk F sz) (hl : ls.length * by_ ≤ 140737488355328) (hn : ls.length ≤ 140737488355328)
    (hk : ∀ v' w', Sep b w' (growI F E sz v' ls :: L) → k v' w') : CloneBody P T k sv w := by
  obtain ⟨xss, q1, q2, q3⟩ := hs.lst hm
  refine clone_core hT q3 (fun u hu => ?_) hl hn fun v' w' hu ho hb => hk v' w' (hs.add (I := growI F E sz v' ls) hu (fun k hk => ?_) ⟨xss, (q1.keep hu fun _ _ hf => hf).mono fun k hk _ => ⟨Nat.lt_of_lt_of_le hk.1 hu.size, fun hmm => ?_⟩, q2, ho⟩)
  · obtain ⟨cs, hcs, hu⟩ := List.mem_flatten.1 hu
    obtain ⟨i, hi, rfl⟩ := List.mem_iff_getElem.1 hcs
    exact (hF.ok (q1.2 i (by rw [← q1.1]; exact hi) _ (List.getElem?_eq_getElem hi))).2 u hu
  · have hk : v'.ownBlock = some k := by simpa [growI] using hk
    exact ⟨(hb k hk).2, (hb k hk).1⟩
  · rcases mine_app.1 (show Mine ([growI F E sz v' ls] ++ L) k from hmm) with h5 | h5
    · have h5 : v'.ownBlock = some k := by simpa [growI] using mine_one.1 h5
      have := (hb k h5).1
      have := hk.1
      omega
    · exact hk.2 h5
end
end Go.Isk
