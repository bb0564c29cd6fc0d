/- Laws of single operations, as steps. -/
import Derived.Test.YtgagekffmamldaaGreatDoorK5
import Derived.WalkSpells
import Derived.WalkLawsBesides
set_option linter.unusedVariables false
set_option linter.unusedSimpArgs false
set_option linter.unusedSectionVars false
namespace Go.Isk
open Go Go.RowKit
section
variable {P : Program} {w w' w'' : World} {k : Value → World → Prop} {g o n m sz : Nat} {t : TypeId} {cs ds xs ys : List Value} {v x : Value} {S : Nat → Prop}

/-- bytes as cells -/
def u8s (l : List UInt8) : List Value := l.map fun c => .int .u8 c.toNat
theorem u8s_length (l : List UInt8) : (u8s l).length = l.length := by simp [u8s]
theorem u8s_append (l r : List UInt8) : u8s (l ++ r) = u8s l ++ u8s r := by simp [u8s]
theorem u8s_drop (l : List UInt8) (i : Nat) : (u8s l).drop i = u8s (l.drop i) := by simp [u8s]
theorem u8s_take (l : List UInt8) (i : Nat) : (u8s l).take i = u8s (l.take i) := by simp [u8s]
theorem u8s_get (l : List UInt8) (i : Nat) (h : i < l.length) : (u8s l)[i]? = some (.int .u8 l[i].toNat) := by simp [u8s, h]
theorem u8s_one (l : List UInt8) : ∀ u ∈ u8s l, u.oneCell' = true := by
  intro u hu
  simp only [u8s, List.mem_map] at hu
  obtain ⟨c, _, rfl⟩ := hu
  rfl
/-- a text -/
def str (l : List UInt8) : Value := .string ⟨l.toArray⟩
theorem st_of {s : Sem Value} (h : s.run P w = .ok v w') (hk : k v w') : o1 P s w k := ⟨by rw [h]; exact hk⟩
theorem st0_of {s : Sem Unit} {u : Unit} (h : s.run P w = .ok u w') (hk : k undef w') : o0 P s w k := ⟨by rw [h]; exact hk⟩

/-- a struct that came in by value gets a block of its own -/
theorem st_box (hv : v.cells = cs.toArray) (h : ∀ g w', Blk w' g t cs → Ext w w' → w.heap.size ≤ g → k (.pointer (some ⟨g, 0, none⟩)) w') : o1 P (Instr.box t v) w k := by
  refine st_of (v := .pointer (some ⟨w.heap.size, 0, none⟩)) (w' := w.alloc (.cells cs.toArray t)) ?_ (h _ _ Blk.new (upd_alloc _) (Nat.le_refl _))
  simp [Instr.box, newVar, newRow, newObj, Sem.run, hv, ← World.alloc_eq]
def zeroT (P : Program) (t : Nat) (cs : List Value) : Prop := ∃ i z, P.info? t = some i ∧ i.zero = some z ∧ z.cells = cs.toArray
theorem st_alloc (hz : zeroT P t cs) (h : ∀ g w', Blk w' g t cs → Ext w w' → w.heap.size ≤ g → k (.pointer (some ⟨g, 0, none⟩)) w') : o1 P (Instr.alloc t true (.tuple #[])) w k := by
  obtain ⟨i, z, h1, h2, h3⟩ := hz
  refine st_of (v := .pointer (some ⟨w.heap.size, 0, none⟩)) (w' := w.alloc (.cells cs.toArray t)) ?_ (h _ _ Blk.new (upd_alloc _) (Nat.le_refl _))
  simp [Instr.alloc, zeroValue, typeInfo, h1, h2, newVar, newRow, newObj, Sem.run, h3, ← World.alloc_eq]
/-- a store into a block of one's own -/
theorem setRow_upd (w : World) (g : Nat) (cs : Array Value) : Upd (fun k => k = g) w (w.setRow g cs) :=
  ⟨rfl, rfl, rfl, by simp [World.setRow], fun k _ hn => setRow_other w g k cs hn⟩
theorem Blk.setRow (h : Blk w g t cs) (ds : List Value) : Blk (w.setRow g ds.toArray) g t ds := setRow_heap w g _ _ t _ h
theorem st_store {T : TypeId} {p : Nat} (hi : (P.info? T).map (·.size) = some v.cells.size) (hb : Blk w g t cs) (hl : p + v.cells.size ≤ cs.length) (h1 : ∀ u ∈ v.cells.toList, u.oneCell' = true)
    (h : ∀ w', Blk w' g t (cs.take p ++ v.cells.toList ++ cs.drop (p + v.cells.size)) → Upd (fun k => k = g) w w' → k undef w') : o0 P (Instr.storeAt T (.pointer (some ⟨g, p, none⟩)) v) w k :=
  st0_of (store_at hi hb p hl h1) (h _ (hb.setRow _) (setRow_upd _ _ _))

/-! ### texts and bytes -/
theorem foldl_push (l : List UInt8) (s : ByteArray) : ((l.map fun c => (c.toNat : Int)).foldl (fun r n => r.push (UInt8.ofNat n.toNat)) s) = ⟨s.data ++ l.toArray⟩ := by
  induction l generalizing s with
  | nil => cases s; simp
  | cons c l ih =>
    simp only [List.map_cons, List.foldl_cons, ih]
    cases s
    simp [ByteArray.push]
theorem text_run {src dst E : TypeId} {l : List UInt8} (hs : P.underlying src = some (.slice E)) (hE : P.underlying E = some (.int .u8)) (hd : P.underlying dst = some .string) (hv : Sl w v n 1 (u8s l)) :
    (convert src dst v).run P w = .ok (str l) w := by
  obtain ⟨A, c, rfl, hc, hl, hr⟩ := hv
  rw [run_convert_bytes_string w src dst E A n c hs hE hd]
  rw [u8s_length, Nat.mul_one] at hl
  cases A with
  | none =>
    have : l = [] := by
      rcases Nat.eq_zero_or_pos n with h0 | h0
      · exact List.eq_nil_of_length_eq_zero (by omega)
      · obtain ⟨g, o, e, _⟩ := hr (by omega); cases e
    subst this
    simp [Conv.bytesToString, str]
    rfl
  | some a =>
    have hcells : ∀ j u, (u8s l)[j]? = some u → w.cell? (a.add j) = some u := fun j u hu => by
      have hj : j < l.length := by simpa [u8s] using (List.getElem?_eq_some_iff.1 hu).1
      obtain ⟨g, o, e, hr'⟩ := hr (by omega)
      cases e
      rw [Addr.add_mid]
      exact hr' j u hu
    have hld : (loadCells a n).run P w = .ok ((l.map fun c => (c.toNat : Int)).map (Value.int .u8)).toArray w := by
      have := run_loadCells_list (P := P) w a (u8s l) hcells
      rw [u8s_length, hl] at this
      rw [this]
      simp [u8s]
    rw [run_bytesToString w a n c _ hld, foldl_push]
    simp [str]
theorem own_cells {B E : Nat} (h : w.ownsRow B E sz v n xs) : v.cells = #[v] ∧ v.oneCell' = true := by
  rcases h.2 with ⟨rfl, _⟩ | ⟨g, cap, cur, rfl, _⟩ <;> exact ⟨rfl, rfl⟩
theorem sl_cells (h : Sl w v n sz xs) : v.cells = #[v] ∧ v.oneCell' = true := by
  obtain ⟨A, c, rfl, _⟩ := h; exact ⟨rfl, rfl⟩
/-- a store of one cell -/
theorem st_store1 {T : TypeId} {p : Nat} (hi : (P.info? T).map (·.size) = some 1) (hv : v.cells = #[v] ∧ v.oneCell' = true) (hb : Blk w g t cs) (hl : p < cs.length)
    (h : ∀ w', Blk w' g t (cs.set p v) → Upd (fun k => k = g) w w' → k undef w') : o0 P (Instr.storeAt T (.pointer (some ⟨g, p, none⟩)) v) w k := by
  refine st_store (by rw [hv.1]; exact hi) hb (by rw [hv.1]; simp; omega) (by rw [hv.1]; simp [hv.2]) fun w' hb' hu => h w' ?_ hu
  have e : cs.take p ++ v.cells.toList ++ cs.drop (p + v.cells.size) = cs.set p v := by
    rw [hv.1, List.set_eq_take_append_cons_drop, if_pos hl]
    simp
  rw [e] at hb'
  exact hb'
/-- append of a slice onto a row of one's own -/
theorem st_app {T E by_ B : Nat} {T' : TypeId} (hT : slT P T E sz by_ = true) (ho : w.ownsRow B E sz v n xs) (hx : Sl w x m sz ys) (h1 : ∀ u ∈ ys, u.oneCell' = true)
    (hl : (n + m) * by_ ≤ 140737488355328) (hm : n + m ≤ 140737488355328) (hB : B ≤ w.heap.size)
    (h : ∀ v' w', w'.ownsRow B E sz v' (n + m) (xs ++ ys) → Upd (fun k => v.ownBlock = some k) w w' → (v'.ownBlock = v.ownBlock ∨ ∃ k, v'.ownBlock = some k ∧ w.heap.size ≤ k) → k v' w') :
    ob P (fun _ => Builtin.append_ #[T, T] T' #[v, x]) w k := by
  obtain ⟨v', w', hr, hown, hu, hb⟩ := app_own (T' := T') hT ho hx h1 hl hm hB
  refine stb hr (h _ _ hown hu ?_)
  rcases hb with hb | hb
  · exact .inl hb
  · exact .inr ⟨_, hb, Nat.le_refl _⟩
theorem u8_wrap (m : Nat) : IntKind.u8.wrap (m : Int) = ((m % 256 : Nat) : Int) := by simp [IntKind.wrap, IntKind.signed, IntKind.bits]
theorem u8_nat (m : Nat) : IntKind.u8.wrap (m : Int) = ((UInt8.ofNat m).toNat : Int) := by rw [u8_wrap]; simp
theorem u64_wrap (n : Int) : IntKind.u64.wrap n = n % 18446744073709551616 := by simp [IntKind.wrap, IntKind.signed, IntKind.bits]
theorem i64_wrap {n : Int} (h1 : -9223372036854775808 ≤ n) (h2 : n ≤ 9223372036854775807) : IntKind.i64.wrap n = n := by
  simp only [IntKind.wrap, IntKind.signed, IntKind.bits]
  simp
  omega
/-! ### fields -/
def fieldO (P : Program) (T i : Nat) : Option Nat := match P.underlying T with
  | some (.struct fs) => match fs[i]? with
    | some f => bif Nat.beq 0 (P.cellsOf f.type) then none else some f.offset
    | none => none
  | _ => none
theorem fieldAt_run {T i off : Nat} (h : fieldO P T i = some off) (g o : Nat) (w : World) : (Instr.fieldAt T (.pointer (some ⟨g, o, none⟩)) i).run P w = .ok (.pointer (some ⟨g, o + off, none⟩)) w := by
  unfold fieldO at h
  split at h
  · rename_i fs hfs
    split at h
    · rename_i f hf
      cases hz : Nat.beq 0 (P.cellsOf f.type) with
      | true => rw [hz] at h; cases h
      | false =>
        rw [hz] at h
        obtain rfl : f.offset = off := by simpa using h
        have hz' : ¬ P.cellsOf f.type = 0 := fun e => by rw [e] at hz; cases hz
        cases hq : P.info? f.type with
        | none => exact absurd (by simp [Program.cellsOf, hq]) hz'
        | some j =>
          have hj : ¬ j.size = 0 := by simpa [Program.cellsOf, hq] using hz'
          simp [Instr.fieldAt, run_underlying hfs, hf, Instr.sureAddr, fieldPlace, Addr.add_mid, sizeOf, typeInfo, hq, hj]
    · cases h
  · cases h
theorem sub_of_drop {rest : List Value} (h : cs.drop o = ds ++ rest) : ∀ j u, ds[j]? = some u → cs[o + j]? = some u := fun j u hu => by
  rw [← List.getElem?_drop, h, List.getElem?_append, if_pos (List.getElem?_eq_some_iff.1 hu).1]; exact hu
theorem get_of_drop {rest : List Value} (h : cs.drop o = x :: rest) : cs[o]? = some x := by
  have := List.getElem?_drop (xs := cs) (i := o) (j := 0)
  rw [h] at this; simpa using this.symm
theorem tk_get1 {T i off ty : Nat} {S : World → Prop} {rest : List Value} {k : Value → Prop} (hf : fieldO P T i = some off) (ht : oneT P ty = true) (hd : cs.drop off = x :: rest) (hS : ∀ w, S w → Blk w g t cs) (hk : k x) :
    tk P S (Instr.fieldAt T (.pointer (some ⟨g, 0, none⟩)) i) fun t => tk P S (Instr.loadAt ty t) k :=
  tk_of _ (fun w _ => fieldAt_run hf g 0 w) (tk_of x (fun w hw => load_one ht (by rw [Nat.zero_add, (hS w hw).cell]; exact get_of_drop hd)) hk)
theorem tk_getn {T i off ty n : Nat} {S : World → Prop} {rest : List Value} {k : Value → Prop} (hf : fieldO P T i = some off) (ht : aggT P ty n = true) (hn : ds.length = n) (hd : cs.drop off = ds ++ rest) (hS : ∀ w, S w → Blk w g t cs) (hk : k (.agg ds.toArray)) :
    tk P S (Instr.fieldAt T (.pointer (some ⟨g, 0, none⟩)) i) fun t => tk P S (Instr.loadAt ty t) k :=
  tk_of _ (fun w _ => fieldAt_run hf g 0 w) (tk_of _ (fun w hw => load_agg ht (by rw [Nat.zero_add]; exact (hS w hw).range (sub_of_drop hd)) hn) hk)
theorem o1_get1 {T i off ty : Nat} {rest : List Value} (hf : fieldO P T i = some off) (ht : oneT P ty = true) (hd : cs.drop off = x :: rest) (hb : Blk w g t cs) (hk : k x w) :
    o1 P (Instr.fieldAt T (.pointer (some ⟨g, 0, none⟩)) i) w fun t w => o1 P (Instr.loadAt ty t) w k :=
  st_of (fieldAt_run hf g 0 w) (st_of (load_one ht (by rw [Nat.zero_add, hb.cell]; exact get_of_drop hd)) hk)
theorem o1_getn {T i off ty n : Nat} {rest : List Value} (hf : fieldO P T i = some off) (ht : aggT P ty n = true) (hn : ds.length = n) (hd : cs.drop off = ds ++ rest) (hb : Blk w g t cs) (hk : k (.agg ds.toArray) w) :
    o1 P (Instr.fieldAt T (.pointer (some ⟨g, 0, none⟩)) i) w fun t w => o1 P (Instr.loadAt ty t) w k :=
  st_of (fieldAt_run hf g 0 w) (st_of (load_agg ht (by rw [Nat.zero_add]; exact hb.range (sub_of_drop hd)) hn) hk)
end
end Go.Isk
