/- Stepping: equations for the heads. -/
import Derived.Test.YtbbmgkbinnomgaaGreatDoorK3
import Derived.WalkKit
import Derived.Deep.MidRow
import Derived.Maps.AppendAt
set_option linter.unusedVariables false
set_option linter.unusedSimpArgs false
set_option linter.unusedSectionVars false
namespace Go.Isk
open Go
section
variable {P : Program}
theorem thenR_ok {v : Value} {w : World} {k : Value → World → Prop} : thenR (.ok v w) k = k v w := rfl
theorem tk_of {S : World → Prop} {s : Sem Value} {k : Value → Prop} (v : Value) (h : ∀ w, S w → s.run P w = .ok v w) (hk : k v) : tk P S s k := ⟨v, h, hk⟩
theorem bin_run {op : BinOp} {t : TypeId} {x y : Operand} {a b : Value} {w : World} (h : (eqGuard op t x y a b).run P w = .ok () w) : (bin op t x y a b).run P w = (binOp op t a b).run P w := by
  unfold bin; simp only [Sem.run_bind, h, Result.andThen_ok]
/-- one step: what comes behind is kept out of sight -/
theorem st1 {s : Sem Value} {w : World} {k : Value → World → Prop} (h : ∀ k' : Value → World → Prop, (∀ v w', k v w' → k' v w') → thenR (s.run P w) k') : o1 P s w k := ⟨h k fun _ _ h => h⟩
theorem stv {f : Value} {args : Array Value} {w : World} {k : Value → World → Prop} (h : ∀ k' : Value → World → Prop, (∀ v w', k v w' → k' v w') → thenN P ((do let d ← Deferred.ofValue f args; invoke d.target d.args : Sem Next).run P w) k') : cv P f args w k := ⟨h k fun _ _ h => h⟩
theorem stb {s : Unit → Sem Value} {w w' : World} {v : Value} {k : Value → World → Prop} (h : (s ()).run P w = .ok v w') (hk : k v w') : ob P s w k := ⟨by rw [h]; exact hk⟩
theorem br_t {A B : Unit → Prop} (h : A ()) : br (.bool true) A B := ⟨h⟩
theorem br_f {A B : Unit → Prop} (h : B ()) : br (.bool false) A B := ⟨h⟩
theorem br_split {b : Bool} {A B : Unit → Prop} (ht : b = true → A ()) (hf : b = false → B ()) : br (.bool b) A B := by cases b; exact ⟨hf rfl⟩; exact ⟨ht rfl⟩
theorem pk_t {x y : Value} {k : Value → Prop} (h : k x) : pk (.bool true) x y k := ⟨h⟩
theorem pk_f {x y : Value} {k : Value → Prop} (h : k y) : pk (.bool false) x y k := ⟨h⟩
theorem nk_p {a : Addr} {A : Prop} (h : A) : nilOk (.pointer (some a)) = true ∧ A := ⟨rfl, h⟩
/-- a join that is walked twice -/
theorem jn_in {L : Env → List Value} {f : (List Value → World → Prop) → Prop} {g : Env → World → Prop} (h : f fun vs w => ∀ x, L x = vs → g x w) : jn L f g := ⟨_, h, fun x _ hx => hx x rfl⟩
theorem jn_by {L : Env → List Value} {f : (List Value → World → Prop) → Prop} {g : Env → World → Prop} (J : List Value → World → Prop) (h : f J) (hg : ∀ x w, J (L x) w → g x w) : jn L f g := ⟨J, h, hg⟩
theorem lp_by {v : List Value} {w : World} {f : (List Value → World → Prop) → (List Value → World → Nat) → Prop} (I : List Value → World → Prop) (μ : List Value → World → Nat) (h0 : I v w) (h : f I μ) : lp v w f := ⟨I, μ, h0, h⟩
theorem dr_by {w : World} {f : (World → Prop) → Prop} (S : World → Prop) (h0 : S w) (h : f S) : dr w f := ⟨S, h0, h⟩
theorem rc_of {t : TypeId} {p : Value} {w : World} {k : Value → Prop} (v : Value) (h : (do loadVar t (← asAddr p) : Sem Value).run P w = .ok v w) (hk : k v) : rc P t p w k := ⟨v, h, hk⟩
end
end Go.Isk
set_option linter.unusedVariables false
set_option linter.unusedSimpArgs false
set_option linter.unusedSectionVars false
namespace Go.Isk
open Go Go.RowKit
section
variable {P : Program} {w w' w'' : World}

/-- of the blocks that were there only those of S may have turned -/
structure Upd (S : Nat → Prop) (w w' : World) : Prop where
  os : w'.os = w.os
  tape : w'.tape = w.tape
  output : w'.output = w.output
  size : w.heap.size ≤ w'.heap.size
  block : ∀ k, k < w.heap.size → ¬ S k → w'.heap[k]? = w.heap[k]?
abbrev Ext (w w' : World) : Prop := Upd (fun _ => False) w w'
variable {S S' S'' : Nat → Prop}
theorem Upd.refl : Upd S w w := ⟨rfl, rfl, rfl, Nat.le_refl _, fun _ _ _ => rfl⟩
theorem Upd.trans (h : Upd S w w') (h' : Upd S' w' w'') (hs : ∀ k, k < w.heap.size → S' k → S k) : Upd S w w'' :=
  ⟨h'.os.trans h.os, h'.tape.trans h.tape, h'.output.trans h.output, Nat.le_trans h.size h'.size, fun k hk hn => (h'.block k (Nat.lt_of_lt_of_le hk h.size) fun hs' => hn (hs k hk hs')).trans (h.block k hk hn)⟩
theorem Upd.ext (h : Upd S w w') (h' : Ext w' w'') : Upd S w w'' := h.trans h' fun _ _ hf => hf.elim
theorem Upd.of_ext (h : Ext w w') : Upd S w w' := ⟨h.os, h.tape, h.output, h.size, fun k hk _ => h.block k hk fun hf => hf⟩
theorem Upd.after (h : Ext w w') (h' : Upd S w' w'') : Upd S w w'' := h.of_ext.trans h' fun _ _ hs => hs
theorem Upd.mono (h : Upd S w w') (hs : ∀ k, k < w.heap.size → S k → S' k) : Upd S' w w' := ⟨h.os, h.tape, h.output, h.size, fun k hk hn => h.block k hk fun hs' => hn (hs k hk hs')⟩
theorem Upd.drew (h : Upd S w w') : Upd S w w'.drew := ⟨h.os, h.tape, h.output, h.size, h.block⟩
theorem upd_drew : Upd S w w.drew := Upd.refl.drew
theorem upd_alloc (o : Obj) : Upd S w (w.alloc o) := ⟨rfl, rfl, rfl, by simp, fun k hk _ => Below.heap_alloc w o k hk⟩
theorem Upd.alloc (h : Upd S w w') (o : Obj) : Upd S w (w'.alloc o) := h.ext (upd_alloc o)
theorem upd_of_grown {row : Option Nat} (h : w.grownBy w' row) : Upd (fun k => row = some k) w w' := ⟨h.os, h.tape, h.output, h.size, fun k hk hn => h.block k hk fun e => hn e.symm⟩
theorem Upd.below (h : Ext w w') : Below w.heap.size w w' := ⟨h.os, h.tape, h.output, h.size, fun k hk => h.block k hk fun hf => hf⟩
theorem Upd.keep {k : Nat} {o : Obj} (h : Upd S w w') (hk : w.heap[k]? = some o) (hs : ¬ S k) : w'.heap[k]? = some o := (h.block k (Array.getElem?_eq_some_iff.1 hk).1 hs).trans hk
theorem lt_of_heap {k : Nat} {o : Obj} (hk : w.heap[k]? = some o) : k < w.heap.size := (Array.getElem?_eq_some_iff.1 hk).1

/-- block g is just these cells -/
def Blk (w : World) (g : Nat) (t : TypeId) (cs : List Value) : Prop := w.heap[g]? = some (.cells cs.toArray t (0, 0))
variable {g o : Nat} {t : TypeId} {cs ds : List Value}
theorem Blk.lt (h : Blk w g t cs) : g < w.heap.size := lt_of_heap h
theorem Blk.keep (h : Blk w g t cs) (hu : Upd S w w') (hs : ¬ S g) : Blk w' g t cs := hu.keep h hs
theorem Blk.ext (h : Blk w g t cs) (hu : Ext w w') : Blk w' g t cs := hu.keep h fun hf => hf
theorem Blk.new : Blk (w.alloc (.cells cs.toArray t)) w.heap.size t cs := heap_alloc_new w _
theorem Blk.cell (h : Blk w g t cs) (i : Nat) : w.cell? ⟨g, i, none⟩ = cs[i]? := by unfold Blk at h; simp [World.cell?, h]
theorem Blk.frozen (h : Blk w g t cs) (i : Nat) : w.frozen? ⟨g, i, none⟩ = false := by unfold Blk at h; simp [World.frozen?, h]
theorem Blk.range (h : Blk w g t cs) (hd : ∀ j v, ds[j]? = some v → cs[o + j]? = some v) : w.rangeAt g o ds := fun j v hv => by rw [h.cell]; exact hd j v hv
/-! ### types, by closed facts -/
def aggT (P : Program) (t n : Nat) : Bool := (match P.underlying t with | some (.struct _) | some (.array _ _) => true | _ => false) && (match P.info? t with | some i => Nat.beq i.size n | none => false)
def oneT (P : Program) (t : Nat) : Bool := (match P.underlying t with | some (.struct _) | some (.array _ _) => false | some _ => true | none => false) && (match P.info? t with | some i => Nat.beq i.size 1 | none => false)
def slT (P : Program) (T E sz by_ : Nat) : Bool :=
  (match P.underlying T with | some (.slice e) => Nat.beq e E | _ => false) && Nat.blt 0 sz &&
  (match P.info? E with | some i => Nat.beq i.size sz && Nat.beq i.bytes by_ && (match i.zero with | some z => Nat.beq z.cells.size sz | none => false) | none => false)
theorem aggT.spec {t n : Nat} (h : aggT P t n = true) : ∃ d, P.underlying t = some d ∧ d.isRow = true ∧ (P.info? t).map (·.size) = some n := by
  simp only [aggT, Bool.and_eq_true] at h
  obtain ⟨h1, h2⟩ := h
  have hi : (P.info? t).map (·.size) = some n := by
    split at h2
    · rename_i i hi; simp [hi, Nat.eq_of_beq_eq_true h2]
    · cases h2
  split at h1
  · rename_i x hx; exact ⟨_, hx, rfl, hi⟩
  · rename_i x y hx; exact ⟨_, hx, rfl, hi⟩
  · cases h1
theorem oneT.spec {t : Nat} (h : oneT P t = true) : ∃ d, P.underlying t = some d ∧ d.isRow = false ∧ (P.info? t).map (·.size) = some 1 := by
  simp only [oneT, Bool.and_eq_true] at h
  obtain ⟨h1, h2⟩ := h
  have hi : (P.info? t).map (·.size) = some 1 := by
    split at h2
    · rename_i i hi; simp [hi, Nat.eq_of_beq_eq_true h2]
    · cases h2
  split at h1
  · cases h1
  · cases h1
  · rename_i d hs ha hd
    refine ⟨d, hd, ?_, hi⟩
    cases d <;> first | rfl | exact (hs _ rfl).elim | exact (ha _ _ rfl).elim
  · cases h1
theorem slT.spec {T E sz b : Nat} (h : slT P T E sz b = true) : P.underlying T = some (.slice E) ∧ 0 < sz ∧ ∃ i z, P.info? E = some i ∧ i.zero = some z ∧ i.size = sz ∧ i.bytes = b ∧ z.cells.size = sz := by
  simp only [slT, Bool.and_eq_true] at h
  obtain ⟨⟨h1, h2⟩, h3⟩ := h
  refine ⟨?_, Nat.le_of_ble_eq_true h2, ?_⟩
  · split at h1
    · rename_i e he; rw [he, Nat.eq_of_beq_eq_true h1]
    · cases h1
  · split at h3
    · rename_i i hi
      simp only [Bool.and_eq_true] at h3
      obtain ⟨⟨ha, hb⟩, hc⟩ := h3
      split at hc
      · rename_i z hz; exact ⟨i, z, hi, hz, Nat.eq_of_beq_eq_true ha, Nat.eq_of_beq_eq_true hb, Nat.eq_of_beq_eq_true hc⟩
      · cases hc
    · cases h3

/-! ### loads and stores -/
theorem load_agg {n : Nat} (ht : aggT P t n = true) (h : w.rangeAt g o ds) (hn : ds.length = n) : (Instr.loadAt t (.pointer (some ⟨g, o, none⟩))).run P w = .ok (.agg ds.toArray) w := by
  obtain ⟨d, h1, h2, h3⟩ := (aggT.spec ht)
  exact run_loadAt_mid w g o t ds d h h1 h2 (by rw [h3, hn])
theorem load_one {v : Value} (ht : oneT P t = true) (h : w.cell? ⟨g, o, none⟩ = some v) : (Instr.loadAt t (.pointer (some ⟨g, o, none⟩))).run P w = .ok v w := by
  obtain ⟨d, h1, h2, h3⟩ := (oneT.spec ht)
  have hagg : (isAgg t).run P w = .ok false w := by
    unfold isAgg
    rw [Sem.run_bind, run_underlying h1 w]
    cases d <;> first | (cases h2; done) | simp
  simp [Instr.loadAt, Instr.sureAddr, loadVar, Sem.run_bind, hagg, load, Sem.run, h]
theorem store_at {v : Value} (hi : (P.info? t).map (·.size) = some v.cells.size) (h : Blk w g o cs) (p : Nat) (hl : p + v.cells.size ≤ cs.length) (h1 : ∀ u ∈ v.cells.toList, u.oneCell' = true) :
    (Instr.storeAt t (.pointer (some ⟨g, p, none⟩)) v).run P w = .ok () (w.setRow g (cs.take p ++ v.cells.toList ++ cs.drop (p + v.cells.size)).toArray) := by
  have := run_storeCells_at (P := P) g p o v.cells.toList 0 cs.toArray w h (by simpa using hl) h1
  simp only [Nat.add_zero, Array.length_toList] at this
  cases hq : P.info? t with
  | none => simp [hq] at hi
  | some i =>
    have hs : v.cells.size = i.size := by simp [hq] at hi; omega
    simp [Instr.storeAt, Instr.sureAddr, storeVar, sizeOf, typeInfo, hq, hs, this]

/-! ### slices -/
variable {v x : Value} {n m sz : Nat} {xs ys : List Value}
/-- a slice value of n elements of sz cells each, which holds the cells xs -/
def Sl (w : World) (v : Value) (n sz : Nat) (xs : List Value) : Prop :=
  ∃ A c, v = .slice A n c ∧ n ≤ c ∧ xs.length = n * sz ∧ (0 < n * sz → ∃ g o, A = some ⟨g, o, none⟩ ∧ w.rangeAt g o xs)
theorem range_lt (h : w.rangeAt g o xs) (hx : 0 < xs.length) : g < w.heap.size :=
  World.block_lt_of_cell? w _ (h 0 _ (List.getElem?_eq_getElem hx))
theorem range_keep (h : w.rangeAt g o xs) (hu : Upd S w w') (hs : ¬ S g) : w'.rangeAt g o xs := fun j v hv => by
  have hc := h j v hv
  rw [← hc]
  exact World.cell?_of_block (w := w) (hu.block g (World.block_lt_of_cell? w _ hc) hs)
theorem Sl.keep' (h : Sl w v n sz xs) (hu : Upd S w w') (hs : 0 < n * sz → ∀ k, v.ownBlock = some k → ¬ S k) : Sl w' v n sz xs := by
  obtain ⟨A, c, rfl, h1, h2, h3⟩ := h
  refine ⟨A, c, rfl, h1, h2, fun hn => ?_⟩
  obtain ⟨g, o, rfl, hr⟩ := h3 hn
  exact ⟨g, o, rfl, range_keep hr hu (hs hn g rfl)⟩
theorem Sl.keep (h : Sl w v n sz xs) (hu : Upd S w w') (hs : ∀ k, v.ownBlock = some k → ¬ S k) : Sl w' v n sz xs := h.keep' hu fun _ => hs
theorem Sl.ext (h : Sl w v n sz xs) (hu : Ext w w') : Sl w' v n sz xs := h.keep hu fun _ _ hf => hf
theorem Sl.nil (sz : Nat) : Sl w (.slice none 0 0) 0 sz [] := ⟨none, 0, rfl, Nat.le_refl _, by simp, fun h => by simp at h⟩
theorem Sl.len (h : Sl w v n sz xs) : xs.length = n * sz := by obtain ⟨A, c, rfl, h1, h2, h3⟩ := h; exact h2
theorem Sl.of_blk (h : Blk w g t cs) (ho : o + n * sz ≤ cs.length) (hn : n ≤ m) : Sl w (.slice (some ⟨g, o, none⟩) n m) n sz ((cs.drop o).take (n * sz)) := by
  refine ⟨_, _, rfl, hn, by simp; omega, fun _ => ⟨g, o, rfl, h.range fun j v hv => ?_⟩⟩
  rw [List.getElem?_take] at hv
  split at hv
  · rw [List.getElem?_drop] at hv; exact hv
  · cases hv
theorem Sl.of_own {B E : Nat} (h : w.ownsRow B E sz v n xs) : Sl w v n sz xs := by
  obtain ⟨h1, h2⟩ := h
  rcases h2 with ⟨rfl, rfl⟩ | ⟨g, cap, cur, rfl, hb, hg, hn, hc, hs, ht⟩
  · have : xs = [] := List.eq_nil_of_length_eq_zero (by simpa using h1)
    subst this
    exact Sl.nil sz
  · refine ⟨_, _, rfl, hn, h1, fun _ => ⟨g, 0, rfl, fun j u hu => ?_⟩⟩
    rw [Nat.zero_add, cell_of_row w g j cur E (0, 0) hg]
    rw [← ht, List.getElem?_take] at hu
    split at hu
    · simpa using hu
    · cases hu
/-- .. and lies below block B -/
def SlB (B : Nat) (w : World) (v : Value) (n sz : Nat) (xs : List Value) : Prop := Sl w v n sz xs ∧ (0 < n * sz → ∀ k, v.ownBlock = some k → k < B)
theorem Sl.b (h : Sl w v n sz xs) : SlB w.heap.size w v n sz xs := by
  refine ⟨h, fun hn k hk => ?_⟩
  obtain ⟨A, c, rfl, h1, h2, h3⟩ := h
  obtain ⟨g, o, rfl, hr⟩ := h3 hn
  have := range_lt hr (by omega)
  simp only [Value.ownBlock, Option.some.injEq] at hk
  omega
theorem SlB.keep {B : Nat} (h : SlB B w v n sz xs) (hu : Upd S w w') (hs : ∀ k, S k → B ≤ k) : SlB B w' v n sz xs :=
  ⟨h.1.keep' hu fun hn k hk hk' => by have := h.2 hn k hk; have := hs k hk'; omega, h.2⟩
theorem SlB.ext {B : Nat} (h : SlB B w v n sz xs) (hu : Ext w w') : SlB B w' v n sz xs := h.keep hu fun _ hf => hf.elim
theorem SlB.mono {B B' : Nat} (h : SlB B w v n sz xs) (hB : B ≤ B') : SlB B' w v n sz xs := ⟨h.1, fun hn k hk => Nat.lt_of_lt_of_le (h.2 hn k hk) hB⟩
theorem SlB.nil {B : Nat} (sz : Nat) : SlB B w (.slice none 0 0) 0 sz [] := ⟨Sl.nil sz, fun hn => by simp at hn⟩
/-- the address of an element -/
theorem idx_at {T E by_ : Nat} (hT : slT P T E sz by_ = true) (h : Sl w v n sz xs) (i : Nat) (hi : i < n) {q : IntKind} :
    ∃ g o, (Instr.indexAt T v (.int q i)).run P w = .ok (.pointer (some ⟨g, o, none⟩)) w ∧ w.rangeAt g o ((xs.drop (i * sz)).take sz) ∧ v.ownBlock = some g := by
  obtain ⟨h1, hsz, j, z, hj, hz, hs1, hs2, hs3⟩ := slT.spec hT
  obtain ⟨A, c, rfl, hc, hl, hr⟩ := h
  have hpos : 0 < n * sz := Nat.mul_pos (by omega) hsz
  obtain ⟨g, o, rfl, hr'⟩ := hr hpos
  refine ⟨g, o + i * sz, ?_, fun j u hu => ?_, rfl⟩
  · simp [Instr.indexAt, asIntOf, run_underlying h1, sizeOf, typeInfo, hj, hs1, Addr.add_mid, hi]
  · rw [List.getElem?_take] at hu
    split at hu
    · rw [List.getElem?_drop] at hu
      have := hr' _ _ hu
      rw [Nat.add_assoc]; exact this
    · cases hu
/-- an element's field or the element, read -/
theorem range_sub {zs : List Value} (h : w.rangeAt g o xs) (p : Nat) (hz : ∀ j v, zs[j]? = some v → xs[p + j]? = some v) : w.rangeAt g (o + p) zs := fun j v hv => by rw [Nat.add_assoc]; exact h _ _ (hz j v hv)

theorem nil_append_run {T E by_ B : Nat} {T' : TypeId} (hT : slT P T E sz by_ = true) (hown : w.ownsRow B E sz v n xs) (c : Nat) : (Builtin.append_ #[T, T] T' #[v, .slice none 0 c]).run P w = .ok v w := by
  obtain ⟨h1, hsz, j, z, hj, hz, hs1, hs2, hs3⟩ := slT.spec hT
  rcases hown.2 with ⟨rfl, rfl⟩ | ⟨g, cap, cur, rfl, _, _, hnc, _⟩
  · simp [Builtin.append_, run_underlying h1, sizeOf, typeInfo, hj, Builtin.lenOf, Builtin.firstCells]
  · simp [Builtin.append_, run_underlying h1, sizeOf, typeInfo, hj, Builtin.lenOf, Builtin.firstCells, hnc, storeCells]
/-- append onto a row of one's own -/
theorem app_own {T E by_ B : Nat} {T' : TypeId} (hT : slT P T E sz by_ = true) (ho : w.ownsRow B E sz v n xs) (hx : Sl w x m sz ys) (h1 : ∀ u ∈ ys, u.oneCell' = true)
    (hl : (n + m) * by_ ≤ 140737488355328) (hm : n + m ≤ 140737488355328) (hB : B ≤ w.heap.size) :
    ∃ v' w', (Builtin.append_ #[T, T] T' #[v, x]).run P w = .ok v' w' ∧ w'.ownsRow B E sz v' (n + m) (xs ++ ys) ∧ Upd (fun k => v.ownBlock = some k) w w' ∧ (v'.ownBlock = v.ownBlock ∨ v'.ownBlock = some w.heap.size) := by
  obtain ⟨ht, hsz, i, z, hi, hz, hs1, hs2, hs3⟩ := slT.spec hT
  obtain ⟨A, c, rfl, hc, hlen, hr⟩ := hx
  cases A with
  | none =>
    have hm0 : m = 0 := by
      rcases Nat.eq_zero_or_pos m with h0 | h0
      · exact h0
      · obtain ⟨g, o, e, _⟩ := hr (Nat.mul_pos h0 hsz); cases e
    subst hm0
    have hys : ys = [] := List.eq_nil_of_length_eq_zero (by simpa using hlen)
    subst hys
    exact ⟨v, w, nil_append_run hT ho c, by simpa using ho, Upd.refl, .inl rfl⟩
  | some a =>
    have hcells : ∀ j u, ys[j]? = some u → w.cell? (a.add j) = some u := fun j u hu => by
      have hpos : 0 < m * sz := by rw [← hlen]; exact Nat.lt_of_le_of_lt (Nat.zero_le j) (List.getElem?_eq_some_iff.1 hu).1
      obtain ⟨g, o, e, hr'⟩ := hr hpos
      cases e
      rw [Addr.add_mid]
      exact hr' j u hu
    obtain ⟨v', w', hrun, hown, hg, _, hb⟩ := run_append_own_at (P := P) w B T T' E i z sz by_ ht hi hz hs1 hs2 hs3 hsz v n xs ho a m c ys hlen hcells h1 (by unfold maxLen; omega) hl hB
    exact ⟨v', w', hrun, hown, upd_of_grown hg, hb⟩
theorem own_keep {B E : Nat} (h : w.ownsRow B E sz v n xs) (hu : Upd S w w') (hs : ∀ k, v.ownBlock = some k → ¬ S k) : w'.ownsRow B E sz v n xs := by
  refine ⟨h.1, ?_⟩
  rcases h.2 with hn | ⟨g, cap, cur, rfl, hb, hg, rest⟩
  · exact .inl hn
  · exact .inr ⟨g, cap, cur, rfl, hb, hu.keep hg (hs g rfl), rest⟩
theorem own_base {B B' E : Nat} (h : w.ownsRow B E sz v n xs) (hB : ∀ k, v.ownBlock = some k → B' ≤ k) : w.ownsRow B' E sz v n xs := by
  refine ⟨h.1, ?_⟩
  rcases h.2 with hn | ⟨g, cap, cur, rfl, hb, hg, rest⟩
  · exact .inl hn
  · exact .inr ⟨g, cap, cur, rfl, hB g rfl, hg, rest⟩
theorem own_nil {B E : Nat} : w.ownsRow B E sz (.slice none 0 0) 0 [] := World.ownsRow_nil _ _ _ _
theorem own_ge {B E k : Nat} (h : w.ownsRow B E sz v n xs) (hk : v.ownBlock = some k) : B ≤ k := (World.ownsRow.lt h k hk).1
theorem own_lt {B E k : Nat} (h : w.ownsRow B E sz v n xs) (hk : v.ownBlock = some k) : k < w.heap.size := (World.ownsRow.lt h k hk).2
theorem own_ne {B E k : Nat} (h : w.ownsRow B E sz v n xs) (hb : Blk w k t cs) (hne : E ≠ t) : v.ownBlock ≠ some k := by
  rcases h.2 with ⟨rfl, _⟩ | ⟨g', cap, cur, rfl, _, hh, _⟩
  · simp [Value.ownBlock]
  · intro he
    obtain rfl : g' = k := by simpa [Value.ownBlock] using he
    unfold Blk at hb
    rw [hh] at hb
    injection hb with hb
    injection hb with _ e
    exact hne e
end
end Go.Isk
