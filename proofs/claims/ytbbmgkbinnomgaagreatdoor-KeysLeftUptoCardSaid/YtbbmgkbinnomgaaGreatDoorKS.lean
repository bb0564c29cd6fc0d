/- Items: what some blocks hold, and what stays; 'Sep': a world holds a list of items, each apart from the others. -/
import Derived.Test.YtbbmgkbinnomgaaGreatDoorK8
set_option linter.unusedVariables false
set_option linter.unusedSimpArgs false
set_option linter.unusedSectionVars false
namespace Go.Isk
open Go Go.RowKit
/-- an item: ids: the blocks that are its own; S: the blocks that surely stay -/
structure It where
  ids : List Nat
  holds : (Nat → Prop) → World → Prop
  keep : ∀ {S D : Nat → Prop} {w w' : World}, holds S w → Upd D w w' → (∀ k, k ∈ ids ∨ S k → ¬ D k) → holds S w'
  mono : ∀ {S S' : Nat → Prop} {w : World}, holds S w → (∀ k, S k → k < w.heap.size → S' k) → holds S' w
/-- what lies in blocks that stay -/
structure Fact where
  holds : (Nat → Prop) → World → Prop
  keep : ∀ {S D : Nat → Prop} {w w' : World}, holds S w → Upd D w w' → (∀ k, S k → ¬ D k) → holds S w'
  mono : ∀ {S S' : Nat → Prop} {w : World}, holds S w → (∀ k, S k → k < w.heap.size → S' k) → holds S' w
def Fact.it (f : Fact) : It := ⟨[], f.holds, fun h hu hd => f.keep h hu fun k hk => hd k (.inr hk), f.mono⟩
structure Base where
  w0 : World
  D : Nat → Prop
def Mine (L : List It) (k : Nat) : Prop := ∃ I ∈ L, k ∈ I.ids
def Stb (w : World) (L : List It) (k : Nat) : Prop := k < w.heap.size ∧ ¬ Mine L k
structure Sep (b : Base) (w : World) (L : List It) : Prop where
  upd : Upd b.D b.w0 w
  new : ∀ k, Mine L k → k < w.heap.size ∧ (k < b.w0.heap.size → b.D k)
  ap : L.Pairwise fun I J => ∀ k ∈ I.ids, k ∉ J.ids
  holds : ∀ I ∈ L, I.holds (Stb w L) w
/-- L has I, and beside it R -/
inductive Has : List It → It → List It → Prop
  | hd {I : It} {R : List It} : Has (I :: R) I R
  | tl {I J : It} {L R : List It} : Has L I R → Has (J :: L) I (J :: R)
inductive Ins : List It → It → Prop
  | hd {I : It} {R : List It} : Ins (I :: R) I
  | tl {I J : It} {L : List It} : Ins L I → Ins (J :: L) I
inductive Sbl : List It → List It → Prop
  | all {L : List It} : Sbl L L
  | nil {L : List It} : Sbl [] L
  | cons {I : It} {L L' R : List It} : Has L I R → Sbl L' R → Sbl (I :: L') L
  | drop {I : It} {L L' : List It} : Sbl L' L → Sbl L' (I :: L)
section
variable {P : Program} {b : Base} {w w' : World} {I J : It} {L R A A' : List It} {D : Nat → Prop} {g : Nat} {k : Value → World → Prop}
theorem Has.perm (h : Has L I R) : L.Perm (I :: R) := by
  induction h with
  | hd => exact .refl _
  | tl _ ih => exact (List.Perm.cons _ ih).trans (.swap _ _ _)
theorem Has.ins (h : Has L I R) : Ins L I := by
  induction h with
  | hd => exact .hd
  | tl _ ih => exact .tl ih
theorem Ins.mem (h : Ins L I) : I ∈ L := by
  induction h with
  | hd => exact .head _
  | tl _ ih => exact .tail _ ih
theorem mine_perm (h : L.Perm R) (k : Nat) : Mine L k ↔ Mine R k := by
  unfold Mine; constructor
  · rintro ⟨I, h1, h2⟩; exact ⟨I, h.mem_iff.1 h1, h2⟩
  · rintro ⟨I, h1, h2⟩; exact ⟨I, h.mem_iff.2 h1, h2⟩
theorem Sep.perm (h : Sep b w L) (hp : L.Perm R) : Sep b w R := by
  refine ⟨h.upd, fun k hk => h.new k ((mine_perm hp k).2 hk), ?_, fun I hI => ?_⟩
  · refine (hp.pairwise_iff ?_).1 h.ap
    intro I J hIJ k hk hk'
    exact hIJ k hk' hk
  · exact I.mono (h.holds I (hp.mem_iff.2 hI)) fun k hk _ => ⟨hk.1, fun hm => hk.2 ((mine_perm hp k).2 hm)⟩
theorem mine_app {k : Nat} : Mine (A ++ R) k ↔ Mine A k ∨ Mine R k := by
  unfold Mine; constructor
  · rintro ⟨I, h1, h2⟩
    rcases List.mem_append.1 h1 with h | h
    · exact .inl ⟨I, h, h2⟩
    · exact .inr ⟨I, h, h2⟩
  · rintro (⟨I, h1, h2⟩ | ⟨I, h1, h2⟩)
    · exact ⟨I, List.mem_append.2 (.inl h1), h2⟩
    · exact ⟨I, List.mem_append.2 (.inr h1), h2⟩
/-- what a step does: the items A become A' -/
theorem Sep.step (h : Sep b w (A ++ R)) (hu : Upd D w w') (hD : ∀ k, k < w.heap.size → D k → Mine A k) (hids : ∀ k, Mine A' k → k < w'.heap.size ∧ (Mine A k ∨ w.heap.size ≤ k))
    (hap : A'.Pairwise fun I J => ∀ k ∈ I.ids, k ∉ J.ids) (hA : ∀ I ∈ A', I.holds (Stb w' (A' ++ R)) w') : Sep b w' (A' ++ R) := by
  have hAR : ∀ k, Mine A k → ¬ Mine R k := by
    rintro k ⟨I, h1, h2⟩ ⟨J, h3, h4⟩
    exact (List.pairwise_append.1 h.ap).2.2 I h1 J h3 k h2 h4
  have hlt : ∀ k, Mine R k → k < w.heap.size := fun k hk => (h.new k (mine_app.2 (.inr hk))).1
  have hA'R : ∀ k, Mine A' k → ¬ Mine R k := fun k hk hr => by
    rcases (hids k hk).2 with h1 | h1
    · exact hAR k h1 hr
    · have := hlt k hr; omega
  refine ⟨?_, fun k hk => ?_, ?_, fun I hI => ?_⟩
  · refine h.upd.trans hu fun k hk hd => ?_
    have hk' : k < w.heap.size := Nat.lt_of_lt_of_le hk h.upd.size
    exact (h.new k (mine_app.2 (.inl (hD k hk' hd)))).2 hk
  · rcases mine_app.1 hk with h1 | h1
    · refine ⟨(hids k h1).1, fun hk0 => ?_⟩
      rcases (hids k h1).2 with h2 | h2
      · exact (h.new k (mine_app.2 (.inl h2))).2 hk0
      · have := h.upd.size; omega
    · have := h.new k (mine_app.2 (.inr h1))
      exact ⟨Nat.lt_of_lt_of_le this.1 hu.size, this.2⟩
  · refine List.pairwise_append.2 ⟨hap, (List.pairwise_append.1 h.ap).2.1, fun I hI J hJ k hk hk' => ?_⟩
    exact hA'R k ⟨I, hI, hk⟩ ⟨J, hJ, hk'⟩
  · rcases List.mem_append.1 hI with h1 | h1
    · exact hA I h1
    · have h2 := h.holds I (List.mem_append.2 (.inr h1))
      have h3 : I.holds (Stb w (A ++ R)) w' := by
        have hu' : Upd (fun k => k < w.heap.size ∧ D k) w w' := ⟨hu.os, hu.tape, hu.output, hu.size, fun k hk hn => hu.block k hk fun hd => hn ⟨hk, hd⟩⟩
        refine I.keep h2 hu' fun k hk hd => ?_
        have hm := hD k hd.1 hd.2
        rcases hk with hk | hk
        · exact hAR k hm ⟨I, h1, hk⟩
        · exact hk.2 (mine_app.2 (.inl hm))
      refine I.mono h3 fun k hk _ => ⟨Nat.lt_of_lt_of_le hk.1 hu.size, fun hm => ?_⟩
      rcases mine_app.1 hm with h4 | h4
      · rcases (hids k h4).2 with h5 | h5
        · exact hk.2 (mine_app.2 (.inl h5))
        · have := hk.1; omega
      · exact hk.2 (mine_app.2 (.inr h4))
theorem mine_nil {k : Nat} : ¬ Mine [] k := by rintro ⟨I, h, _⟩; cases h
theorem mine_one {k : Nat} : Mine [I] k ↔ k ∈ I.ids := by
  unfold Mine; constructor
  · rintro ⟨J, h1, h2⟩; simp only [List.mem_cons, List.not_mem_nil, or_false] at h1; exact h1 ▸ h2
  · intro h; exact ⟨I, by simp, h⟩
theorem Sep.get (h : Sep b w L) (hm : Ins L I) : I.holds (Stb w L) w := h.holds I hm.mem
theorem Sep.lt (h : Sep b w L) (hm : Has L I R) {k : Nat} (hk : k ∈ I.ids) : k < w.heap.size := (h.new k ⟨I, hm.ins.mem, hk⟩).1
/-- an item more -/
theorem Sep.add (h : Sep b w L) (hu : Ext w w') (hids : ∀ k ∈ I.ids, k < w'.heap.size ∧ w.heap.size ≤ k) (hI : I.holds (Stb w' (I :: L)) w') : Sep b w' (I :: L) :=
  Sep.step (A := []) (A' := [I]) h hu (fun _ _ hf => hf.elim) (fun k hk => ⟨(hids k (mine_one.1 hk)).1, .inr (hids k (mine_one.1 hk)).2⟩) (by simp) (by simpa using hI)
theorem Sep.ext (h : Sep b w L) (hu : Ext w w') : Sep b w' L :=
  Sep.step (A := []) (A' := []) h hu (fun _ _ hf => hf.elim) (fun k hk => (mine_nil hk).elim) (by simp) (by simp)
theorem Sep.drew (h : Sep b w L) : Sep b w.drew L := h.ext upd_drew
/-- an item turned -/
theorem Sep.turn (h : Sep b w L) (hm : Has L I R) (hu : Upd D w w') (hD : ∀ k, k < w.heap.size → D k → k ∈ I.ids) (hids : ∀ k ∈ J.ids, k < w'.heap.size ∧ (k ∈ I.ids ∨ w.heap.size ≤ k)) (hJ : J.holds (Stb w' (J :: R)) w') : Sep b w' (J :: R) :=
  Sep.step (A := [I]) (A' := [J]) (h.perm hm.perm) hu (fun k hk hd => mine_one.2 (hD k hk hd)) (fun k hk => by
    have := hids k (mine_one.1 hk)
    exact ⟨this.1, this.2.imp mine_one.2 id⟩) (by simp) (by simpa using hJ)
theorem Sep.drop (h : Sep b w L) (hm : Has L I R) : Sep b w R :=
  Sep.step (A := [I]) (A' := []) (h.perm hm.perm) (D := fun _ => False) Upd.refl (fun _ _ hf => hf.elim) (fun k hk => (mine_nil hk).elim) (by simp) (by simp)
theorem Sbl.sep {L' : List It} (hs : Sbl L' L) : ∀ (A : List It), Sep b w (A ++ L) → Sep b w (A ++ L') := by
  induction hs with
  | all => exact fun _ h => h
  | @nil L =>
    intro A h
    induction L generalizing A with
    | nil => exact h
    | cons I L ih => exact ih A (h.drop (I := I) (R := A ++ L) (by
        clear h ih
        induction A with
        | nil => exact .hd
        | cons J A ih => exact .tl ih))
  | @cons I L L' R hm _ ih =>
    intro A h
    have h1 : Sep b w ((A ++ [I]) ++ R) := h.perm (by simpa using hm.perm.append_left A)
    have := ih (A ++ [I]) h1
    simpa using this
  | @drop I L L' _ ih =>
    intro A h
    refine ih A (h.drop (I := I) (R := A ++ L) ?_)
    clear h ih
    induction A with
    | nil => exact .hd
    | cons J A ih => exact .tl ih
theorem Sep.sbl {L' : List It} (h : Sep b w L) (hs : Sbl L' L) : Sep b w L' := hs.sep [] h
/-- a fact that follows -/
theorem Sep.fact {f : Fact} (h : Sep b w L) (hf : f.holds (Stb w L) w) : Sep b w (f.it :: L) :=
  h.add (I := f.it) Upd.refl (by simp [Fact.it]) (f.mono hf fun k hk _ => ⟨hk.1, fun ⟨J, h1, h2⟩ => by
    rcases List.mem_cons.1 h1 with rfl | h1
    · simp [Fact.it] at h2
    · exact hk.2 ⟨J, h1, h2⟩⟩)
/-- an own thing that is turned no more -/
theorem Sep.freeze {f : Fact} (h : Sep b w L) (hm : Has L I R) (hf : ∀ S, I.holds S w → f.holds (fun k => S k ∨ k ∈ I.ids) w) : Sep b w (f.it :: R) := by
  have hp := h.perm hm.perm
  refine h.turn hm (D := fun _ => False) Upd.refl (fun _ _ hf => hf.elim) (by simp [Fact.it]) (f.mono (hf _ (hp.holds I (by simp))) fun k hk hlt => ⟨hlt, fun ⟨J, h1, h2⟩ => ?_⟩)
  rcases List.mem_cons.1 h1 with rfl | h1
  · simp [Fact.it] at h2
  · rcases hk with hk | hk
    · exact hk.2 ⟨J, by simp [h1], h2⟩
    · exact (List.pairwise_cons.1 hp.ap).1 J h1 k hk h2

theorem cl {f : FuncId} {args : Array Value} {Q : Value → World → Prop} (h : C P f args w Q) (hk : ∀ r w', Q r w' → k r w') : C P f args w k := h.mono hk
/-! steps by mere reckoning -/
theorem st_bin {op : BinOp} {t : TypeId} {x y : Operand} {a c : Value} (h : ∀ k' : Value → World → Prop, (∀ v w', k v w' → k' v w') → thenR ((bin op t x y a c).run P w) k') : o1 P (bin op t x y a c) w k := st1 h
theorem st_un {op : UnOp} {x : Value} (h : ∀ k' : Value → World → Prop, (∀ v w', k v w' → k' v w') → thenR ((Op.unary op x).run P w) k') : o1 P (Op.unary op x) w k := st1 h
theorem st_ext {x : Value} {i : Nat} (h : ∀ k' : Value → World → Prop, (∀ v w', k v w' → k' v w') → thenR ((Instr.extract x i).run P w) k') : o1 P (Instr.extract x i) w k := st1 h
theorem st_len {ts : Array TypeId} {t : TypeId} {a : Array Value} (h : ∀ k' : Value → World → Prop, (∀ v w', k v w' → k' v w') → thenR ((Builtin.len_ ts t a).run P w) k') : o1 P (Builtin.len_ ts t a) w k := st1 h
theorem st_max {ts : Array TypeId} {t : TypeId} {a : Array Value} (h : ∀ k' : Value → World → Prop, (∀ v w', k v w' → k' v w') → thenR ((Builtin.max_ ts t a).run P w) k') : o1 P (Builtin.max_ ts t a) w k := st1 h
theorem st_min {ts : Array TypeId} {t : TypeId} {a : Array Value} (h : ∀ k' : Value → World → Prop, (∀ v w', k v w' → k' v w') → thenR ((Builtin.min_ ts t a).run P w) k') : o1 P (Builtin.min_ ts t a) w k := st1 h
theorem st_conv {src dst : TypeId} {x : Value} (h : ∀ k' : Value → World → Prop, (∀ v w', k v w' → k' v w') → thenR ((convert src dst x).run P w) k') : o1 P (convert src dst x) w k := st1 h
theorem st_mki {t : TypeId} {x : Value} (h : ∀ k' : Value → World → Prop, (∀ v w', k v w' → k' v w') → thenR ((Instr.makeInterface t x).run P w) k') : o1 P (Instr.makeInterface t x) w k := st1 h
theorem st_ixv {t : TypeId} {x i : Value} (h : ∀ k' : Value → World → Prop, (∀ v w', k v w' → k' v w') → thenR ((Instr.index t x i).run P w) k') : o1 P (Instr.index t x i) w k := st1 h
theorem st_mkf {f : Fn} {x y : Array Value} (h : ∀ k' : Value → World → Prop, (∀ v w', k v w' → k' v w') → thenR ((Instr.makeFunc f x y).run P w) k') : o1 P (Instr.makeFunc f x y) w k := st1 h
/-! ### blocks -/
def blkI (g : Nat) (t : TypeId) (cs : List Value) : It := ⟨[g], fun _ w => Blk w g t cs, fun h hu hd => h.keep hu (hd g (.inl (by simp))), fun h _ => h⟩
theorem sp_box {t : TypeId} {v : Value} {cs : List Value} (h : Sep b w L) (hv : v.cells = cs.toArray) (hk : ∀ g w', Sep b w' (blkI g t cs :: L) → k (.pointer (some ⟨g, 0, none⟩)) w') : o1 P (Instr.box t v) w k :=
  st_box hv fun g w' hb hu hg => hk g w' (h.add hu (by simp [blkI, hb.lt, hg]) hb)
theorem sp_boxa {t : TypeId} {cs : List Value} (h : Sep b w L) (hk : ∀ g w', Sep b w' (blkI g t cs :: L) → k (.pointer (some ⟨g, 0, none⟩)) w') : o1 P (Instr.box t (.agg cs.toArray)) w k := sp_box h rfl hk
theorem sp_alloc {t : TypeId} {cs : List Value} (h : Sep b w L) (hz : zeroT P t cs) (hk : ∀ g w', Sep b w' (blkI g t cs :: L) → k (.pointer (some ⟨g, 0, none⟩)) w') : o1 P (Instr.alloc t true (.tuple #[])) w k :=
  st_alloc hz fun g w' hb hu hg => hk g w' (h.add hu (by simp [blkI, hb.lt, hg]) hb)
variable {t : TypeId} {cs ds : List Value} {v x : Value}
theorem Sep.blk (h : Sep b w L) (hm : Has L (blkI g t cs) R) : Blk w g t cs := h.get hm.ins
theorem Sep.reblk (h : Sep b w L) (hm : Has L (blkI g t cs) R) (hu : Upd (fun k => k = g) w w') (hb : Blk w' g t ds) : Sep b w' (blkI g t ds :: R) :=
  h.turn hm hu (fun k _ e => by simp [blkI, e]) (fun k hk => by simp [blkI] at hk; subst hk; exact ⟨hb.lt, .inl (by simp [blkI])⟩) hb
theorem sp_store1 {T : TypeId} {p : Nat} (h : Sep b w L) (hm : Has L (blkI g t cs) R) (hi : (P.info? T).map (·.size) = some 1) (hv : v.cells = #[v] ∧ v.oneCell' = true) (hl : p < cs.length)
    (hk : ∀ w', Sep b w' (blkI g t (cs.set p v) :: R) → k undef w') : o0 P (Instr.storeAt T (.pointer (some ⟨g, p, none⟩)) v) w k :=
  st_store1 hi hv (h.blk hm) hl fun w' hb hu => hk w' (h.reblk hm hu hb)
theorem sp_store {T : TypeId} {p : Nat} (h : Sep b w L) (hm : Has L (blkI g t cs) R) (hi : (P.info? T).map (·.size) = some v.cells.size) (hl : p + v.cells.size ≤ cs.length) (h1 : ∀ u ∈ v.cells.toList, u.oneCell' = true)
    (hk : ∀ w', Sep b w' (blkI g t (cs.take p ++ v.cells.toList ++ cs.drop (p + v.cells.size)) :: R) → k undef w') : o0 P (Instr.storeAt T (.pointer (some ⟨g, p, none⟩)) v) w k :=
  st_store hi (h.blk hm) hl h1 fun w' hb hu => hk w' (h.reblk hm hu hb)
theorem sp_all {n : Nat} (h : Sep b w L) (hm : Has L (blkI g t cs) R) (hz : zlenT P t n = true) (hl : cs.length = n) (hd : ds.length = n) (h1 : ∀ u ∈ ds, u.oneCell' = true)
    (hk : ∀ w', Sep b w' (blkI g t ds :: R) → k undef w') : o0 P (Instr.storeAt t (.pointer (some ⟨g, 0, none⟩)) (.agg ds.toArray)) w k :=
  st_all hz (h.blk hm) hl hd h1 fun w' hb hu => hk w' (h.reblk hm hu hb)
theorem sp_storen {T n p : Nat} (h : Sep b w L) (hm : Has L (blkI g t cs) R) (hi : (P.info? T).map (·.size) = some n) (hd : ds.length = n) (hl : p + n ≤ cs.length) (h1 : ∀ u ∈ ds, u.oneCell' = true)
    (hk : ∀ w', Sep b w' (blkI g t (cs.take p ++ ds ++ cs.drop (p + n)) :: R) → k undef w') : o0 P (Instr.storeAt T (.pointer (some ⟨g, p, none⟩)) (.agg ds.toArray)) w k := by
  have hc : (Value.agg ds.toArray).cells = ds.toArray := rfl
  refine sp_store h hm (by rw [hi, hc]; simp [hd]) (by rw [hc]; simp; omega) (by rw [hc]; simpa using h1) fun w' h' => hk w' ?_
  rw [hc] at h'
  simpa [hd] using h'
theorem sp_load1 {T p : Nat} (h : Sep b w L) (hm : Has L (blkI g t cs) R) (ht : oneT P T = true) (hx : cs[p]? = some x) (hk : k x w) : o1 P (Instr.loadAt T (.pointer (some ⟨g, p, none⟩))) w k :=
  st_of (load_one ht (by rw [(h.blk hm).cell]; exact hx)) hk
theorem sp_loadall {n : Nat} (h : Sep b w L) (hm : Has L (blkI g t cs) R) (ht : aggT P t n = true) (hl : cs.length = n) (hk : k (.agg cs.toArray) w) : o1 P (Instr.loadAt t (.pointer (some ⟨g, 0, none⟩))) w k :=
  load_blk ht (h.blk hm) hl hk
theorem sp_rc {n : Nat} {K : Value → Prop} (h : Sep b w L) (hm : Has L (blkI g t cs) R) (ht : aggT P t n = true) (hl : cs.length = n) (hk : K (.agg cs.toArray)) : rc P t (.pointer (some ⟨g, 0, none⟩)) w K :=
  rc_blk ht (h.blk hm) hl hk
/-! ### slices that stay -/
variable {n m sz : Nat} {xs ys : List Value} {S S' : Nat → Prop}
def SlS (S : Nat → Prop) (w : World) (v : Value) (n sz : Nat) (xs : List Value) : Prop := Sl w v n sz xs ∧ (0 < n * sz → ∀ k, v.ownBlock = some k → S k)
theorem SlS.keep (h : SlS S w v n sz xs) (hu : Upd D w w') (hd : ∀ k, S k → ¬ D k) : SlS S w' v n sz xs := ⟨h.1.keep' hu fun hn k hk => hd k (h.2 hn k hk), h.2⟩
theorem SlS.mono (h : SlS S w v n sz xs) (hs : ∀ k, S k → k < w.heap.size → S' k) : SlS S' w v n sz xs := ⟨h.1, fun hn k hk => hs k (h.2 hn k hk) (h.1.b.2 hn k hk)⟩
theorem SlS.ext (h : SlS S w v n sz xs) (hu : Ext w w') : SlS S w' v n sz xs := h.keep hu fun _ _ hf => hf
theorem SlS.nil (sz : Nat) : SlS S w (.slice none 0 0) 0 sz [] := ⟨Sl.nil sz, fun hn => by simp at hn⟩
theorem SlS.of (h : Sl w v n sz xs) (hs : ∀ k, v.ownBlock = some k → S k) : SlS S w v n sz xs := ⟨h, fun _ => hs⟩
def slF (v : Value) (n sz : Nat) (xs : List Value) : Fact := ⟨fun S w => SlS S w v n sz xs, SlS.keep, SlS.mono⟩
/-- bytes -/
def byF (v : Value) (l : List UInt8) : Fact := slF v l.length 1 (u8s l)
/-- a row of one's own -/
def rowI (v : Value) (E sz n : Nat) (xs : List Value) : It :=
  ⟨v.ownBlock.toList, fun _ w => w.ownsRow 0 E sz v n xs, fun h hu hd => own_keep h hu fun k hk => hd k (.inl (by simp [hk])), fun h _ => h⟩
theorem Sep.row0 (h : Sep b w L) (E sz : Nat) : Sep b w (rowI (.slice none 0 0) E sz 0 [] :: L) :=
  h.add (I := rowI (.slice none 0 0) E sz 0 []) Upd.refl (by simp [rowI, Value.ownBlock]) own_nil
/-- what can be read as a slice -/
def Reads (I : It) (v : Value) (n sz : Nat) (xs : List Value) : Prop := ∀ S w, I.holds S w → Sl w v n sz xs
inductive Rds : List It → Value → Nat → Nat → List Value → Prop
  | sl {v : Value} {n sz : Nat} {xs : List Value} {R : List It} : Rds ((slF v n sz xs).it :: R) v n sz xs
  | byt {v : Value} {l : List UInt8} {R : List It} : Rds ((byF v l).it :: R) v l.length 1 (u8s l)
  | row {v : Value} {E n sz : Nat} {xs : List Value} {R : List It} : Rds (rowI v E sz n xs :: R) v n sz xs
  | of {I : It} {v : Value} {n sz : Nat} {xs : List Value} {R : List It} : Reads I v n sz xs → Rds (I :: R) v n sz xs
  | tl {J : It} {v : Value} {n sz : Nat} {xs : List Value} {R : List It} : Rds R v n sz xs → Rds (J :: R) v n sz xs
theorem Rds.sl_of (hr : Rds L v n sz xs) : ∃ I ∈ L, Reads I v n sz xs := by
  induction hr with
  | sl => exact ⟨_, .head _, fun S w h => h.1⟩
  | byt => exact ⟨_, .head _, fun S w h => h.1⟩
  | row => exact ⟨_, .head _, fun S w h => .of_own h⟩
  | of h => exact ⟨_, .head _, h⟩
  | tl _ ih =>
    obtain ⟨I, h1, h2⟩ := ih
    exact ⟨I, .tail _ h1, h2⟩
theorem Sep.reads (h : Sep b w L) (hr : Rds L v n sz xs) : Sl w v n sz xs := by
  obtain ⟨I, h1, h2⟩ := hr.sl_of
  exact h2 _ _ (h.holds I h1)
theorem Sep.rowF {E : Nat} (h : Sep b w L) (hm : Has L (rowI v E sz n xs) R) : Sep b w ((slF v n sz xs).it :: R) :=
  h.freeze hm fun S hI => SlS.of (.of_own hI) fun k hk => .inr (by simp [rowI, hk])
theorem Sep.rowB {E : Nat} {l : List UInt8} (h : Sep b w L) (hm : Has L (rowI v E 1 l.length (u8s l)) R) : Sep b w ((byF v l).it :: R) := h.rowF hm
theorem own_ids {B E : Nat} (h : w.ownsRow B E sz v n xs) : ∀ k ∈ v.ownBlock.toList, k < w.heap.size := fun k hk => own_lt h (by simpa using hk)
theorem own0 {B E : Nat} (h : w.ownsRow B E sz v n xs) : w.ownsRow 0 E sz v n xs := own_base h fun _ _ => Nat.zero_le _
theorem Sep.rerow {E E' : Nat} {v' : Value} (h : Sep b w L) (hm : Has L (rowI v E sz n xs) R) (hu : Upd (fun k => v.ownBlock = some k) w w') (hv : v'.ownBlock = v.ownBlock ∨ ∃ k, v'.ownBlock = some k ∧ w.heap.size ≤ k)
    (ho : w'.ownsRow 0 E' sz v' m ys) : Sep b w' (rowI v' E' sz m ys :: R) :=
  h.turn hm hu (fun k _ e => by simp [rowI, e]) (fun k hk => ⟨own_ids ho k hk, by
    have hk : v'.ownBlock = some k := by simpa [rowI] using hk
    rcases hv with e | ⟨k', e, hk'⟩
    · exact .inl (by simp [rowI, ← e, hk])
    · rw [e] at hk; cases hk; exact .inr hk'⟩) ho
/-- append of a slice onto a row of one's own -/
theorem sp_app {T E by_ : Nat} {T' : TypeId} (h : Sep b w L) (hm : Has L (rowI v E sz n xs) R) (hT : slT P T E sz by_ = true) (hx : Rds R x m sz ys) (h1 : ∀ u ∈ ys, u.oneCell' = true)
    (hl : (n + m) * by_ ≤ 140737488355328) (hn : n + m ≤ 140737488355328)
    (hk : ∀ v' w', Sep b w' (rowI v' E sz (n + m) (xs ++ ys) :: R) → k v' w') : ob P (fun _ => Builtin.append_ #[T, T] T' #[v, x]) w k :=
  st_app hT (h.get hm.ins) ((h.drop hm).reads hx) h1 hl hn (Nat.zero_le _) fun v' w' ho hu hv => hk v' w' (h.rerow hm hu hv ho)
/-- append of some elements of one cell -/
theorem sp_appL {T E by_ : Nat} {T' : TypeId} {us : List Value} (h : Sep b w L) (hm : Has L (rowI v E 1 n xs) R) (hT : slT P T E 1 by_ = true) (h1 : ∀ u ∈ us, u.oneCell' = true)
    (hl : (n + us.length) * by_ ≤ 140737488355328) (hn : n + us.length ≤ 140737488355328)
    (hk : ∀ v' w', Sep b w' (rowI v' E 1 (n + us.length) (xs ++ us) :: R) → k v' w') :
    ob P (fun _ => Builtin.append_ #[T, T] T' #[v, .slice (some ⟨w.heap.size, 0, none⟩) us.length us.length]) (w.alloc (.cells us.toArray E)) k :=
  st_appL (B := 0) hT (h.get hm.ins) h1 hl hn (Nat.zero_le _) fun v' w' ho hu hv => hk v' w' (h.rerow hm hu hv ho)
/-- a text's bytes -/
theorem sp_bytes {T E src : TypeId} {l : List UInt8} (h : Sep b w L) (hs : P.underlying src = some .string) (hT : P.underlying T = some (.slice E)) (hE : P.underlying E = some (.int .u8))
    (hk : ∀ v w', Sep b w' ((byF v l).it :: L) → k v w') : o1 P (convert src T (str l)) w k :=
  st_bytes hs hT hE fun v w' hv hu hn => hk v w' (h.add (I := (byF v l).it) hu (by simp [Fact.it]) ⟨hv, fun h0 k hk' => ⟨hv.b.2 h0 k hk', fun ⟨I, h1, h2⟩ => by
    rcases List.mem_cons.1 h1 with rfl | h1
    · simp [Fact.it] at h2
    · have := (h.new k ⟨I, h1, h2⟩).1
      have := hn k hk'
      omega⟩⟩)
end
end Go.Isk
