/- More laws of single operations. -/
import Derived.Test.YtbbmgkbinnomgaaGreatDoorM5
import Derived.Lib.AppendStr
import Derived.Great.BuildSlice
set_option linter.unusedVariables false
set_option linter.unusedSimpArgs false
set_option linter.unusedSectionVars false
namespace Go.Isk
open Go Go.RowKit Go.Lib
section
variable {P : Program} {w w' : World} {k : Value → World → Prop} {v x : Value} {n m sz : Nat} {xs ys : List Value}
def byT (P : Program) (E : Nat) : Bool := match P.info? E with
  | some i => (match i.zero with | some (.int .u8 z) => z == 0 | _ => false) && Nat.beq i.size 1 && Nat.beq i.bytes 1
  | none => false
theorem byT.spec {E : Nat} (h : byT P E = true) : ∃ i, P.info? E = some i ∧ i.zero = some (.int .u8 0) ∧ i.size = 1 ∧ i.bytes = 1 := by
  unfold byT at h
  split at h
  · rename_i i hi
    simp only [Bool.and_eq_true] at h
    obtain ⟨⟨h1, h2⟩, h3⟩ := h
    split at h1
    · rename_i z hz
      have : z = 0 := by simpa using h1
      subst this
      exact ⟨i, hi, hz, Nat.eq_of_beq_eq_true h2, Nat.eq_of_beq_eq_true h3⟩
    · cases h1
  · cases h
/-! ### structs whole -/
theorem st_new {t n : Nat} (hz : zlenT P t n = true) (h : ∀ g w' zs, zs.length = n → Blk w' g t zs → Ext w w' → w.heap.size ≤ g → k (.pointer (some ⟨g, 0, none⟩)) w') : o1 P (Instr.alloc t true (.tuple #[])) w k := by
  obtain ⟨zs, hzs, hl, hi⟩ := zlenT.spec hz
  exact st_alloc hzs fun g w' hb hu hg => h g w' zs hl hb hu hg
theorem st_all {t n g : Nat} {cs ds : List Value} (hz : zlenT P t n = true) (hb : Blk w g t cs) (hl : cs.length = n) (hd : ds.length = n) (h1 : ∀ u ∈ ds, u.oneCell' = true)
    (h : ∀ w', Blk w' g t ds → Upd (fun k => k = g) w w' → k undef w') : o0 P (Instr.storeAt t (.pointer (some ⟨g, 0, none⟩)) (.agg ds.toArray)) w k := by
  obtain ⟨zs, hzs, hl2, hi⟩ := zlenT.spec hz
  have hc : (Value.agg ds.toArray).cells = ds.toArray := rfl
  refine st_store (by rw [hi, hc]; simp [hd]) hb (by rw [hc]; simp; omega) (by rw [hc]; simpa using h1) fun w2 hb2 hu2 => ?_
  rw [hc] at hb2
  simp only [List.take_zero, List.nil_append, Nat.zero_add, List.size_toArray, hd, ← hl, List.drop_length, List.append_nil] at hb2
  exact h w2 hb2 hu2
theorem rc_blk {t n g : Nat} {cs : List Value} {K : Value → Prop} (ht : aggT P t n = true) (hb : Blk w g t cs) (hn : cs.length = n) (hk : K (.agg cs.toArray)) : rc P t (.pointer (some ⟨g, 0, none⟩)) w K := by
  refine rc_of _ ?_ hk
  have := load_agg ht (hb.range (o := 0) fun j v hv => by rwa [Nat.zero_add]) hn
  simpa [Instr.loadAt, Instr.sureAddr, asAddr] using this
theorem st_build {t : Nat} {parts : Array (Nat × Value)} {cells : Array Value} (h : P.built t parts.toList = some cells) (hk : k (.agg cells) w) : o1 P (Instr.build t parts) w k :=
  st_of (run_build w t parts cells h) hk
/-- one field set -/
theorem st_field {T F i off g : Nat} {cs : List Value} {t : TypeId} (hf : fieldO P T i = some off) (hi : (P.info? F).map (·.size) = some 1) (hv : v.cells = #[v] ∧ v.oneCell' = true) (hb : Blk w g t cs) (hl : off < cs.length)
    (h : ∀ w', Blk w' g t (cs.set off v) → Upd (fun k => k = g) w w' → k undef w') :
    o1 P (Instr.fieldAt T (.pointer (some ⟨g, 0, none⟩)) i) w fun a w => o0 P (Instr.storeAt F a v) w k :=
  st_of (fieldAt_run hf g 0 w) (by rw [Nat.zero_add]; exact st_store1 hi hv hb hl h)
/-! ### guards -/
theorem gd_i {b : Bool} {A : (Value → World → Prop) → Prop} (h : A k) : gd (.bool b) b A w k := ⟨by simp [h]⟩
theorem gd_o {A : (Value → World → Prop) → Prop} {b : Bool} (h : k undef w) : gd (.bool b) (!b) A w k := ⟨by cases b <;> exact h⟩
theorem gd_ft {A : (Value → World → Prop) → Prop} (h : k undef w) : gd (.bool false) true A w k := ⟨h⟩
theorem gd_tf {A : (Value → World → Prop) → Prop} (h : k undef w) : gd (.bool true) false A w k := ⟨h⟩
theorem gd_u {b : Bool} {A : (Value → World → Prop) → Prop} (h : k undef w) : gd undef b A w k := ⟨h⟩
/-! ### slices cut -/
theorem sl_from {T E by_ : Nat} (hT : slT P T E sz by_ = true) (h : Sl w v n sz xs) (i : Nat) (hi : i ≤ n) (q : IntKind) :
    ∃ v', (∀ w', (Instr.sliceAt T v (some (.int q i)) none none).run P w' = .ok v' w') ∧ Sl w v' (n - i) sz (xs.drop (i * sz)) ∧ v'.ownBlock = v.ownBlock := by
  obtain ⟨h1, hsz, j, z, hj, hz, hs1, hs2, hs3⟩ := slT.spec hT
  obtain ⟨A, c, rfl, hc, hl, hr⟩ := h
  have he : P.elem T = E := by simp [Program.elem, h1]
  refine ⟨sliced A i n c sz, fun w' => ?_, ?_, ?_⟩
  · rw [run_sliceAt_slice w' T _ _ _ _ (by rw [h1, he]), run_slice_l w' T A n c (by rw [h1, he]) q i (by omega) (by omega)]
    simp [sizeOf, typeInfo, he, hj, hs1]
  · refine ⟨_, _, rfl, by omega, ?_, fun hn => ?_⟩
    · rw [List.length_drop, hl, Nat.sub_mul]
    · have hin : i < n := by
        rcases Nat.lt_or_ge i n with h | h
        · exact h
        · rw [Nat.sub_eq_zero_of_le h, Nat.zero_mul] at hn; omega
      obtain ⟨g, o, rfl, hr'⟩ := hr (Nat.mul_pos (by omega) hsz)
      have hne : ¬ c = i := by omega
      refine ⟨g, o + i * sz, by simp [hne, Addr.add_mid], fun a u hu => ?_⟩
      rw [List.getElem?_drop] at hu
      have := hr' _ _ hu
      rw [Nat.add_assoc]; exact this
  · cases A with
    | none => simp [sliced, Value.ownBlock]
    | some a =>
      have : (a.add (i * sz)).block = a.block := by unfold Addr.add; split <;> rfl
      by_cases hci : c = i
      · subst hci; simp [sliced, Value.ownBlock]
      · simp [sliced, hci, Value.ownBlock, this]
theorem sl_to {T E by_ : Nat} (hT : slT P T E sz by_ = true) (h : Sl w v n sz xs) (i : Nat) (hi : i ≤ n) (q : IntKind) :
    ∃ v', (∀ w', (Instr.sliceAt T v none (some (.int q i)) none).run P w' = .ok v' w') ∧ Sl w v' i sz (xs.take (i * sz)) ∧ v'.ownBlock = v.ownBlock := by
  obtain ⟨h1, hsz, j, z, hj, hz, hs1, hs2, hs3⟩ := slT.spec hT
  obtain ⟨A, c, rfl, hc, hl, hr⟩ := h
  have he : P.elem T = E := by simp [Program.elem, h1]
  refine ⟨.slice A i c, fun w' => ?_, ?_, by cases A <;> rfl⟩
  · rw [run_sliceAt_slice w' T _ _ _ _ (by rw [h1, he]), run_slice_h w' T A n c (by rw [h1, he]) q i (by omega) (by omega)]
    have hz0 : sliced A 0 i c sz = .slice A i c := by
      cases A with
      | none => simp [sliced]
      | some a =>
        have : a.add 0 = a := by unfold Addr.add; split <;> simp_all
        simp [sliced, this]
    simp [sizeOf, typeInfo, he, hj, hs1, hz0]
  · refine ⟨_, _, rfl, by omega, ?_, fun hn => ?_⟩
    · rw [List.length_take, hl, Nat.min_eq_left (Nat.mul_le_mul_right _ hi)]
    · obtain ⟨g, o, rfl, hr'⟩ := hr (by
        have : 0 < i := Nat.pos_of_ne_zero fun e => by rw [e, Nat.zero_mul] at hn; omega
        exact Nat.mul_pos (by omega) hsz)
      refine ⟨g, o, rfl, fun a u hu => ?_⟩
      rw [List.getElem?_take] at hu
      split at hu
      · exact hr' _ _ hu
      · cases hu
/-- copy into a block of one's own -/
theorem st_copy {T E by_ g o dn dc m : Nat} {U T' : TypeId} {t : TypeId} {cs : List Value} (hT : slT P T E 1 by_ = true) (hb : Blk w g t cs) (hx : Sl w x m 1 ys) (h1 : ∀ u ∈ ys, u.oneCell' = true) (hd : o + dn ≤ cs.length)
    (h : ∀ w', Blk w' g t (cs.take o ++ ys.take dn ++ cs.drop (o + min m dn)) → Upd (fun k => k = g) w w' → k (.int .i64 (min m dn : Nat)) w') :
    ob P (fun _ => Builtin.copy_ #[T, U] T' #[.slice (some ⟨g, o, none⟩) dn dc, x]) w k := by
  obtain ⟨hu, hsz, i, z, hi, hz, hs1, hs2, hs3⟩ := slT.spec hT
  obtain ⟨A, c, rfl, hc, hl, hr⟩ := hx
  have hs : (P.info? E).map (·.size) = some 1 := by simp [hi, hs1]
  by_cases h0 : min m dn = 0
  · refine stb (run_copy_none w T U T' E (some ⟨g, o, none⟩) A dn dc m c hu hs (by simpa using h0)) ?_
    have hy : ys.take dn = [] := by
      apply List.eq_nil_of_length_eq_zero
      rw [List.length_take, hl]; omega
    have := h w (by rw [hy, h0]; simpa using hb) Upd.refl
    rw [h0] at this
    exact this
  · obtain ⟨g', o', rfl, hr'⟩ := hr (by omega)
    have hlen : (ys.take dn).length = min m dn := by rw [List.length_take, hl, Nat.mul_one, Nat.min_comm]
    have hrun := run_copy_row (P := P) w T U T' E g o dn dc ⟨g', o', none⟩ m c cs.toArray t (ys.take dn) hu hs hb (by rw [hlen])
      (fun j v hv => by
        rw [Addr.add_mid]
        refine hr' j v ?_
        rw [List.getElem?_take] at hv
        split at hv
        · exact hv
        · cases hv) (by rw [hlen]; simp only [List.size_toArray]; omega) (fun u hu => h1 u (List.mem_of_mem_take hu))
    rw [hlen] at hrun
    exact stb hrun (h _ (hb.setRow _) (setRow_upd _ _ _))
theorem zeroT_of {t : Nat} {cs : List Value} (h : ((P.info? t).bind fun i => i.zero.map fun z => z.cells) = some cs.toArray) : zeroT P t cs := by
  cases hi : P.info? t with
  | none => simp [hi] at h
  | some i =>
    cases hz : i.zero with
    | none => simp [hi, hz] at h
    | some z =>
      rw [hi] at h
      simp only [Option.bind_some, hz, Option.map_some, Option.some.injEq] at h
      exact ⟨i, z, hi, hz, h⟩
theorem i64_succ {i : Nat} (h : i < 4611686018427387904) : IntKind.i64.wrap ((i : Int) + 1) = ((i + 1 : Nat) : Int) := by rw [i64_wrap (by omega) (by omega)]; rfl
theorem beq_t {a b : Int} (h : (a == b) = true) : a = b := by simpa using h
theorem beq_f {a b : Int} (h : (a == b) = false) : a ≠ b := by simpa using h
theorem andNot128 (c : UInt8) : bits .andNot .u8 (c.toNat : Int) 128 = ((c.toNat % 128 : Nat) : Int) := by
  have key : ∀ x : Fin 256, bits .andNot .u8 ((x.val : Nat) : Int) 128 = ((x.val % 128 : Nat) : Int) := by decide +kernel
  exact key ⟨c.toNat, c.toNat_lt⟩
/-! ### struct literals -/
theorem fold_set : ∀ (ds : List Value) (off i : Nat) (cs : List Value), off + i + ds.length ≤ cs.length →
    (ds.zipIdx i).foldl (fun (a : Array Value) (p : Value × Nat) => a.setIfInBounds (off + p.2) p.1) cs.toArray = (cs.take (off + i) ++ ds ++ cs.drop (off + i + ds.length)).toArray
  | [], off, i, cs, _ => by simp
  | d :: ds, off, i, cs, h => by
    simp only [List.length_cons] at h
    have e : cs.toArray.setIfInBounds (off + i) d = (cs.set (off + i) d).toArray := by simp
    simp only [List.zipIdx_cons, List.foldl_cons, e]
    rw [fold_set ds off (i + 1) (cs.set (off + i) d) (by simp; omega)]
    congr 1
    obtain ⟨A, x, Z, rfl, hA⟩ : ∃ (A : List Value) (x : Value) (Z : List Value), cs = A ++ x :: Z ∧ A.length = off + i :=
      ⟨cs.take (off + i), cs[off + i]'(by omega), cs.drop (off + i + 1), by rw [← List.drop_eq_getElem_cons (by omega), List.take_append_drop], by rw [List.length_take]; omega⟩
    rw [← Nat.add_assoc off i 1, ← hA]
    have e1 : (A ++ x :: Z).set A.length d = A ++ d :: Z := by simp
    have e2 : ∀ y : Value, (A ++ y :: Z).take (A.length + 1) = A ++ [y] := fun y => by rw [List.take_append, List.take_of_length_le (by omega)]; simp
    have e3 : ∀ (y : Value) (m : Nat), (A ++ y :: Z).drop (A.length + 1 + m) = Z.drop m := fun y m => by
      rw [List.drop_append, List.drop_of_length_le (by omega), List.nil_append, show A.length + 1 + m - A.length = m + 1 by omega]; rfl
    rw [e1, e2, e3, List.length_cons, show A.length + (ds.length + 1) = A.length + 1 + ds.length by omega, e3, List.take_left]
    simp
def contB (place : Nat → Option (Nat × Nat)) : Nat → Nat → List Nat → Bool
  | _, _, [] => true
  | k, off, s :: r => (match place k with | some (o, z) => Nat.beq o off && Nat.beq z s | none => false) && contB place (k + 1) (off + s) r
theorem fill_run (place : Nat → Option (Nat × Nat)) : ∀ (vs : List Value) (k off : Nat) (done tail : List Value), done.length = off → contB place k off (vs.map (·.cells.size)) = true → (vs.map (·.cells.size)).sum ≤ tail.length →
    Instr.fill place (done ++ tail).toArray ((vs.zipIdx k).map fun p => (p.2, p.1)) = some (done ++ (vs.map (·.cells.toList)).flatten ++ tail.drop (vs.map (·.cells.size)).sum).toArray
  | [], k, off, done, tail, _, _, _ => by simp [Instr.fill]
  | v :: vs, k, off, done, tail, hd, hc, hl => by
    simp only [List.map_cons, contB, Bool.and_eq_true] at hc
    obtain ⟨h1, h2⟩ := hc
    simp only [List.map_cons, List.sum_cons] at hl
    split at h1
    · rename_i o z hp
      simp only [Bool.and_eq_true] at h1
      have ho := Nat.eq_of_beq_eq_true h1.1
      have hz := Nat.eq_of_beq_eq_true h1.2
      subst hd
      subst ho
      subst hz
      simp only [List.zipIdx_cons, List.map_cons, Instr.fill, hp]
      rw [if_neg (by simp; omega)]
      have hf := fold_set v.cells.toList done.length 0 (done ++ tail) (by simp; omega)
      have e : v.cells.zipIdx.foldl (fun (cs : Array Value) (c, j) => cs.setIfInBounds (done.length + j) c) (done ++ tail).toArray = (done ++ v.cells.toList ++ tail.drop v.cells.size).toArray := by
        rw [← Array.foldl_toList, Array.toList_zipIdx]
        refine Eq.trans hf ?_
        congr 1
        rw [Nat.add_zero, List.take_left, List.drop_append, List.drop_of_length_le (by omega)]
        simp
      have e2 := fill_run place vs (k + 1) (done.length + v.cells.size) (done ++ v.cells.toList) (tail.drop v.cells.size) (by simp) h2 (by simp; omega)
      simp only [e]
      rw [e2]
      simp [List.append_assoc, List.drop_drop]
    · cases h1
def litT (P : Program) (t : Nat) (ss : List Nat) (n : Nat) : Bool :=
  match P.info? t, P.underlying t with
  | some it, some (.struct fields) => match it.zero, fields.toList.mapM (fun f => (P.info? f.type).map fun i => (f.offset, i.size)) with
    | some z, some places => Nat.beq z.cells.size n && contB (places.toArray[·]?) 0 0 ss && Nat.ble ss.sum n
    | _, _ => false
  | _, _ => false
theorem st_lit {t n : Nat} {parts : Array (Nat × Value)} {ss : List Nat} (vs : List Value) (hp : parts.toList = (vs.zipIdx 0).map fun p => (p.2, p.1)) (hs : vs.map (·.cells.size) = ss) (h : litT P t ss n = true)
    (hk : ∀ zs, zs.length = n → zeroT P t zs → k (.agg ((vs.map (·.cells.toList)).flatten ++ zs.drop ss.sum).toArray) w) : o1 P (Instr.build t parts) w k := by
  unfold litT at h
  split at h
  · rename_i it fields hi hu
    split at h
    · rename_i z places hz hpl
      simp only [Bool.and_eq_true] at h
      obtain ⟨⟨h1, h2⟩, h3⟩ := h
      refine st_build ?_ (hk z.cells.toList (by simpa using Nat.eq_of_beq_eq_true h1) ⟨it, z, hi, hz, by simp⟩)
      subst hs
      have := fill_run (places.toArray[·]?) vs 0 0 [] z.cells.toList rfl h2 (by have q1 := Nat.le_of_ble_eq_true h3; have q2 := Nat.eq_of_beq_eq_true h1; rw [Array.length_toList, q2]; exact q1)
      unfold Program.built
      rw [hi, hu]
      simp only [hz, hpl, hp]
      simpa using this
    · cases h
  · cases h
theorem zeroT_eq {t : Nat} {a b : List Value} (ha : zeroT P t a) (hb : zeroT P t b) : a = b := by
  obtain ⟨i, z, h1, h2, h3⟩ := ha
  obtain ⟨j, y, q1, q2, q3⟩ := hb
  rw [h1] at q1; cases q1
  rw [h2] at q2; cases q2
  rw [h3] at q3
  simpa using q3
theorem cont_row (sz : Nat) : ∀ (vs : List Value) (k : Nat), (∀ v ∈ vs, v.cells.size = sz) → contB (fun i => some (i * sz, sz)) k (k * sz) (vs.map (·.cells.size)) = true
  | [], _, _ => rfl
  | v :: vs, k, h => by
    have hv := h v (by simp)
    have := cont_row sz vs (k + 1) fun u hu => h u (by simp [hu])
    simp only [List.map_cons, contB, hv, Bool.and_eq_true]
    refine ⟨⟨Nat.beq_refl _, Nat.beq_refl _⟩, ?_⟩
    rw [← Nat.succ_mul]; exact this
theorem sum_row (sz : Nat) : ∀ (vs : List Value), (∀ v ∈ vs, v.cells.size = sz) → (vs.map (·.cells.size)).sum = vs.length * sz
  | [], _ => by simp
  | v :: vs, h => by
    have hv := h v (by simp)
    have := sum_row sz vs fun u hu => h u (by simp [hu])
    simp only [List.map_cons, List.sum_cons, hv, this, List.length_cons, Nat.succ_mul]; omega
/-- a slice literal -/
theorem st_bslice {T E by_ n : Nat} {parts : Array (Nat × Value)} (hT : slT P T E sz by_ = true) (vs : List Value) (hp : parts.toList = (vs.zipIdx 0).map fun p => (p.2, p.1)) (hs : ∀ v ∈ vs, v.cells.size = sz) (hn : vs.length = n) (hpos : 0 < n) (hsm : n * sz ≤ 16777216)
    (hk : ∀ g w', Blk w' g E (vs.map (·.cells.toList)).flatten → Ext w w' → w.heap.size ≤ g → k (.slice (some ⟨g, 0, none⟩) n n) w') : o1 P (Instr.buildSlice T n parts) w k := by
  obtain ⟨h1, hsz, j, z, hj, hz, hs1, hs2, hs3⟩ := slT.spec hT
  have hc := cont_row sz vs 0 hs
  rw [Nat.zero_mul] at hc
  have hsum := sum_row sz vs hs
  have hf := fill_run (fun i => some (i * sz, sz)) vs 0 0 [] ((Array.range (n * sz)).map (z.cells[· % z.cells.size]!)).toList rfl hc (by rw [hsum, hn]; simp)
  rw [hsum, hn, List.drop_of_length_le (by simp), List.append_nil, List.nil_append, List.nil_append, Array.toArray_toList] at hf
  refine st_of (run_buildSlice w T E n parts _ j z h1 hj hz (by rw [hs1]; omega) (by rw [hs1]; exact Nat.ne_of_gt (Nat.mul_pos hpos hsz)) (by rw [hs1, hp]; exact hf)) ?_
  exact hk _ _ Blk.new (upd_alloc _) (Nat.le_refl _)
end
end Go.Isk
