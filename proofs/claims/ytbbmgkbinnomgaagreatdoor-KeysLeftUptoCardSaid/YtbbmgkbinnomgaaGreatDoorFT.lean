/- Laws of single operations, as steps. -/
import Derived.Test.YtbbmgkbinnomgaaGreatDoorK5
import Derived.WalkSpells
import Derived.WalkLawsBesides
import Derived.Test.YtbbmgkbinnomgaaGreatDoorN
set_option linter.unusedVariables false
set_option linter.unusedSimpArgs false
set_option linter.unusedSectionVars false
namespace Go.Isk
open Go Go.RowKit
section
variable {P : Program} {w w' w'' : World} {k : Value → World → Prop} {g o n m sz : Nat} {t : TypeId} {cs ds xs ys : List Value} {v x : Value} {S : Nat → Prop}

/-- bytes as cells -/
def u8s (l : List UInt8) : List Value := l.map fun c => .int .u8 c.toNat
theorem u8s_length (l : List UInt8) : (u8s l).length = l.length := by simp [u8s]
theorem u8s_append (l r : List UInt8) : u8s (l ++ r) = u8s l ++ u8s r := by simp [u8s]
theorem u8s_drop (l : List UInt8) (i : Nat) : (u8s l).drop i = u8s (l.drop i) := by simp [u8s]
theorem u8s_take (l : List UInt8) (i : Nat) : (u8s l).take i = u8s (l.take i) := by simp [u8s]
theorem u8s_get (l : List UInt8) (i : Nat) (h : i < l.length) : (u8s l)[i]? = some (.int .u8 l[i].toNat) := by simp [u8s, h]
theorem u8s_one (l : List UInt8) : ∀ u ∈ u8s l, u.oneCell' = true := by
  intro u hu
  simp only [u8s, List.mem_map] at hu
  obtain ⟨c, _, rfl⟩ := hu
  rfl
/-- a text -/
def str (l : List UInt8) : Value := .string ⟨l.toArray⟩
theorem st_of {s : Sem Value} (h : s.run P w = .ok v w') (hk : k v w') : o1 P s w k := ⟨by rw [h]; exact hk⟩
theorem st0_of {s : Sem Unit} {u : Unit} (h : s.run P w = .ok u w') (hk : k undef w') : o0 P s w k := ⟨by rw [h]; exact hk⟩

/-- a struct that came in by value gets a block of its own -/
theorem st_box (hv : v.cells = cs.toArray) (h : ∀ g w', Blk w' g t cs → Ext w w' → w.heap.size ≤ g → k (.pointer (some ⟨g, 0, none⟩)) w') : o1 P (Instr.box t v) w k := by
  refine st_of (v := .pointer (some ⟨w.heap.size, 0, none⟩)) (w' := w.alloc (.cells cs.toArray t)) ?_ (h _ _ Blk.new (upd_alloc _) (Nat.le_refl _))
  simp [Instr.box, newVar, newRow, newObj, Sem.run, hv, ← World.alloc_eq]
def zeroT (P : Program) (t : Nat) (cs : List Value) : Prop := ∃ i z, P.info? t = some i ∧ i.zero = some z ∧ z.cells = cs.toArray
theorem st_alloc (hz : zeroT P t cs) (h : ∀ g w', Blk w' g t cs → Ext w w' → w.heap.size ≤ g → k (.pointer (some ⟨g, 0, none⟩)) w') : o1 P (Instr.alloc t true (.tuple #[])) w k := by
  obtain ⟨i, z, h1, h2, h3⟩ := hz
  refine st_of (v := .pointer (some ⟨w.heap.size, 0, none⟩)) (w' := w.alloc (.cells cs.toArray t)) ?_ (h _ _ Blk.new (upd_alloc _) (Nat.le_refl _))
  simp [Instr.alloc, zeroValue, typeInfo, h1, h2, newVar, newRow, newObj, Sem.run, h3, ← World.alloc_eq]
/-- a store into a block of one's own -/
theorem setRow_upd (w : World) (g : Nat) (cs : Array Value) : Upd (fun k => k = g) w (w.setRow g cs) :=
  ⟨rfl, rfl, rfl, by simp [World.setRow], fun k _ hn => setRow_other w g k cs hn⟩
theorem Blk.setRow (h : Blk w g t cs) (ds : List Value) : Blk (w.setRow g ds.toArray) g t ds := setRow_heap w g _ _ t _ h
theorem st_store {T : TypeId} {p : Nat} (hi : (P.info? T).map (·.size) = some v.cells.size) (hb : Blk w g t cs) (hl : p + v.cells.size ≤ cs.length) (h1 : ∀ u ∈ v.cells.toList, u.oneCell' = true)
    (h : ∀ w', Blk w' g t (cs.take p ++ v.cells.toList ++ cs.drop (p + v.cells.size)) → Upd (fun k => k = g) w w' → k undef w') : o0 P (Instr.storeAt T (.pointer (some ⟨g, p, none⟩)) v) w k :=
  st0_of (store_at hi hb p hl h1) (h _ (hb.setRow _) (setRow_upd _ _ _))

/-! ### texts and bytes -/
theorem st_bytes {T E : TypeId} {src : TypeId} {l : List UInt8} (hs : P.underlying src = some .string) (hT : P.underlying T = some (.slice E)) (hE : P.underlying E = some (.int .u8))
    (h : ∀ v w', Sl w' v l.length 1 (u8s l) → Ext w w' → (∀ k, v.ownBlock = some k → w.heap.size ≤ k) → k v w') : o1 P (convert src T (str l)) w k := by
  have hrun := run_bytes_of_string (P := P) w src T E ⟨l.toArray⟩ hs hT hE
  have hge := grownCap_ge w (⟨l.toArray⟩ : ByteArray).size 0 E
  have hsz : (⟨l.toArray⟩ : ByteArray).size = l.length := by simp [ByteArray.size]
  rw [hsz] at hrun hge
  refine st_of hrun (h _ _ ⟨_, _, rfl, hge, by simp [u8s], fun hpos => ⟨_, _, rfl, fun j u hu => ?_⟩⟩ (upd_drew.alloc _) (fun k hk => by simp [Value.ownBlock] at hk; omega))
  have hj : j < l.length := by simpa [u8s] using (List.getElem?_eq_some_iff.1 hu).1
  simp only [Nat.zero_add]
  rw [cell_of_row _ w.heap.size j _ E _ (heap_alloc_new w.drew _)]
  rw [← hu]
  simp [bytesRow, u8s, Array.getElem?_append, hj]
theorem own_cells {B E : Nat} (h : w.ownsRow B E sz v n xs) : v.cells = #[v] ∧ v.oneCell' = true := by
  rcases h.2 with ⟨rfl, _⟩ | ⟨g, cap, cur, rfl, _⟩ <;> exact ⟨rfl, rfl⟩
theorem sl_cells (h : Sl w v n sz xs) : v.cells = #[v] ∧ v.oneCell' = true := by
  obtain ⟨A, c, rfl, _⟩ := h; exact ⟨rfl, rfl⟩
/-- a store of one cell -/
theorem st_store1 {T : TypeId} {p : Nat} (hi : (P.info? T).map (·.size) = some 1) (hv : v.cells = #[v] ∧ v.oneCell' = true) (hb : Blk w g t cs) (hl : p < cs.length)
    (h : ∀ w', Blk w' g t (cs.set p v) → Upd (fun k => k = g) w w' → k undef w') : o0 P (Instr.storeAt T (.pointer (some ⟨g, p, none⟩)) v) w k := by
  refine st_store (by rw [hv.1]; exact hi) hb (by rw [hv.1]; simp; omega) (by rw [hv.1]; simp [hv.2]) fun w' hb' hu => h w' ?_ hu
  have e : cs.take p ++ v.cells.toList ++ cs.drop (p + v.cells.size) = cs.set p v := by
    rw [hv.1, List.set_eq_take_append_cons_drop, if_pos hl]
    simp
  rw [e] at hb'
  exact hb'
/-- append of a literal's elements (one cell each) onto a row of one's own -/
theorem st_appL {T E by_ B : Nat} {T' : TypeId} {us : List Value} (hT : slT P T E 1 by_ = true) (ho : w.ownsRow B E 1 v n xs) (h1 : ∀ u ∈ us, u.oneCell' = true)
    (hl : (n + us.length) * by_ ≤ 140737488355328) (hm : n + us.length ≤ 140737488355328) (hB : B ≤ w.heap.size)
    (h : ∀ v' w', w'.ownsRow B E 1 v' (n + us.length) (xs ++ us) → Upd (fun k => v.ownBlock = some k) w w' → (v'.ownBlock = v.ownBlock ∨ ∃ k, v'.ownBlock = some k ∧ w.heap.size ≤ k) → k v' w') :
    ob P (fun _ => Builtin.append_ #[T, T] T' #[v, .slice (some ⟨w.heap.size, 0, none⟩) us.length us.length]) (w.alloc (.cells us.toArray E)) k := by
  have hx : Sl (w.alloc (.cells us.toArray E)) (.slice (some ⟨w.heap.size, 0, none⟩) us.length us.length) us.length 1 us := by
    refine ⟨_, _, rfl, Nat.le_refl _, by simp, fun _ => ⟨_, _, rfl, fun j u hu => ?_⟩⟩
    rw [(Blk.new (w := w) (cs := us) (t := E)).cell, Nat.zero_add]; exact hu
  obtain ⟨v', w', hr, hown, hu, hb⟩ := app_own (T' := T') hT (own_keep ho (upd_alloc (S := fun _ => False) _) fun _ _ hf => hf) hx h1 hl hm (by simp; omega)
  refine stb hr (h _ _ hown ((upd_alloc _).trans hu fun _ _ hs => hs) ?_)
  rcases hb with hb | hb
  · exact .inl hb
  · exact .inr ⟨_, hb, by simp⟩
theorem st_app1 {T E by_ B : Nat} {T' : TypeId} {u : Value} (hT : slT P T E 1 by_ = true) (ho : w.ownsRow B E 1 v n xs) (h1 : u.oneCell' = true)
    (hl : (n + 1) * by_ ≤ 140737488355328) (hm : n + 1 ≤ 140737488355328) (hB : B ≤ w.heap.size)
    (h : ∀ v' w', w'.ownsRow B E 1 v' (n + 1) (xs ++ [u]) → Upd (fun k => v.ownBlock = some k) w w' → (v'.ownBlock = v.ownBlock ∨ ∃ k, v'.ownBlock = some k ∧ w.heap.size ≤ k) → k v' w') :
    ob P (fun _ => Builtin.append_ #[T, T] T' #[v, .slice (some ⟨w.heap.size, 0, none⟩) 1 1]) (w.alloc (.cells #[u] E)) k :=
  st_appL (us := [u]) hT ho (by simpa using h1) (by simpa using hl) (by simpa using hm) hB h
/-- append of a slice onto a row of one's own -/
theorem st_app {T E by_ B : Nat} {T' : TypeId} (hT : slT P T E sz by_ = true) (ho : w.ownsRow B E sz v n xs) (hx : Sl w x m sz ys) (h1 : ∀ u ∈ ys, u.oneCell' = true)
    (hl : (n + m) * by_ ≤ 140737488355328) (hm : n + m ≤ 140737488355328) (hB : B ≤ w.heap.size)
    (h : ∀ v' w', w'.ownsRow B E sz v' (n + m) (xs ++ ys) → Upd (fun k => v.ownBlock = some k) w w' → (v'.ownBlock = v.ownBlock ∨ ∃ k, v'.ownBlock = some k ∧ w.heap.size ≤ k) → k v' w') :
    ob P (fun _ => Builtin.append_ #[T, T] T' #[v, x]) w k := by
  obtain ⟨v', w', hr, hown, hu, hb⟩ := app_own (T' := T') hT ho hx h1 hl hm hB
  refine stb hr (h _ _ hown hu ?_)
  rcases hb with hb | hb
  · exact .inl hb
  · exact .inr ⟨_, hb, Nat.le_refl _⟩
theorem u8_wrap (m : Nat) : IntKind.u8.wrap (m : Int) = ((m % 256 : Nat) : Int) := by simp [IntKind.wrap, IntKind.signed, IntKind.bits]
theorem u8_nat (m : Nat) : IntKind.u8.wrap (m : Int) = ((UInt8.ofNat m).toNat : Int) := by rw [u8_wrap]; simp
theorem or128 (m : Nat) : bits .or .u8 (IntKind.u8.wrap (m : Int)) 128 = ((UInt8.ofNat (m % 128 + 128)).toNat : Int) := by
  rw [u8_wrap]
  have key : ∀ x : Fin 256, bits .or .u8 ((x.val : Nat) : Int) 128 = ((x.val % 128 + 128 : Nat) : Int) := by decide +kernel
  have := key ⟨m % 256, by omega⟩
  simp only at this
  rw [this]
  have : m % 256 % 128 = m % 128 := by omega
  rw [this]
  simp; omega
theorem u64_wrap (n : Int) : IntKind.u64.wrap n = n % 18446744073709551616 := by simp [IntKind.wrap, IntKind.signed, IntKind.bits]
theorem i64_wrap {n : Int} (h1 : -9223372036854775808 ≤ n) (h2 : n ≤ 9223372036854775807) : IntKind.i64.wrap n = n := by
  simp only [IntKind.wrap, IntKind.signed, IntKind.bits]
  simp
  omega
/-! ### fields -/
def fieldO (P : Program) (T i : Nat) : Option Nat := match P.underlying T with
  | some (.struct fs) => match fs[i]? with
    | some f => bif Nat.beq 0 (P.cellsOf f.type) then none else some f.offset
    | none => none
  | _ => none
theorem fieldAt_run {T i off : Nat} (h : fieldO P T i = some off) (g o : Nat) (w : World) : (Instr.fieldAt T (.pointer (some ⟨g, o, none⟩)) i).run P w = .ok (.pointer (some ⟨g, o + off, none⟩)) w := by
  unfold fieldO at h
  split at h
  · rename_i fs hfs
    split at h
    · rename_i f hf
      cases hz : Nat.beq 0 (P.cellsOf f.type) with
      | true => rw [hz] at h; cases h
      | false =>
        rw [hz] at h
        obtain rfl : f.offset = off := by simpa using h
        have hz' : ¬ P.cellsOf f.type = 0 := fun e => by rw [e] at hz; cases hz
        cases hq : P.info? f.type with
        | none => exact absurd (by simp [Program.cellsOf, hq]) hz'
        | some j =>
          have hj : ¬ j.size = 0 := by simpa [Program.cellsOf, hq] using hz'
          simp [Instr.fieldAt, run_underlying hfs, hf, Instr.sureAddr, fieldPlace, Addr.add_mid, sizeOf, typeInfo, hq, hj]
    · cases h
  · cases h
theorem sub_of_drop {rest : List Value} (h : cs.drop o = ds ++ rest) : ∀ j u, ds[j]? = some u → cs[o + j]? = some u := fun j u hu => by
  rw [← List.getElem?_drop, h, List.getElem?_append, if_pos (List.getElem?_eq_some_iff.1 hu).1]; exact hu
theorem get_of_drop {rest : List Value} (h : cs.drop o = x :: rest) : cs[o]? = some x := by
  have := List.getElem?_drop (xs := cs) (i := o) (j := 0)
  rw [h] at this; simpa using this.symm
theorem tk_get1 {T i off ty : Nat} {S : World → Prop} {rest : List Value} {k : Value → Prop} (hf : fieldO P T i = some off) (ht : oneT P ty = true) (hd : cs.drop off = x :: rest) (hS : ∀ w, S w → Blk w g t cs) (hk : k x) :
    tk P S (Instr.fieldAt T (.pointer (some ⟨g, 0, none⟩)) i) fun t => tk P S (Instr.loadAt ty t) k :=
  tk_of _ (fun w _ => fieldAt_run hf g 0 w) (tk_of x (fun w hw => load_one ht (by rw [Nat.zero_add, (hS w hw).cell]; exact get_of_drop hd)) hk)
theorem tk_getn {T i off ty n : Nat} {S : World → Prop} {rest : List Value} {k : Value → Prop} (hf : fieldO P T i = some off) (ht : aggT P ty n = true) (hn : ds.length = n) (hd : cs.drop off = ds ++ rest) (hS : ∀ w, S w → Blk w g t cs) (hk : k (.agg ds.toArray)) :
    tk P S (Instr.fieldAt T (.pointer (some ⟨g, 0, none⟩)) i) fun t => tk P S (Instr.loadAt ty t) k :=
  tk_of _ (fun w _ => fieldAt_run hf g 0 w) (tk_of _ (fun w hw => load_agg ht (by rw [Nat.zero_add]; exact (hS w hw).range (sub_of_drop hd)) hn) hk)
theorem o1_get1 {T i off ty : Nat} {rest : List Value} (hf : fieldO P T i = some off) (ht : oneT P ty = true) (hd : cs.drop off = x :: rest) (hb : Blk w g t cs) (hk : k x w) :
    o1 P (Instr.fieldAt T (.pointer (some ⟨g, 0, none⟩)) i) w fun t w => o1 P (Instr.loadAt ty t) w k :=
  st_of (fieldAt_run hf g 0 w) (st_of (load_one ht (by rw [Nat.zero_add, hb.cell]; exact get_of_drop hd)) hk)
theorem o1_getn {T i off ty n : Nat} {rest : List Value} (hf : fieldO P T i = some off) (ht : aggT P ty n = true) (hn : ds.length = n) (hd : cs.drop off = ds ++ rest) (hb : Blk w g t cs) (hk : k (.agg ds.toArray) w) :
    o1 P (Instr.fieldAt T (.pointer (some ⟨g, 0, none⟩)) i) w fun t w => o1 P (Instr.loadAt ty t) w k :=
  st_of (fieldAt_run hf g 0 w) (st_of (load_agg ht (by rw [Nat.zero_add]; exact hb.range (sub_of_drop hd)) hn) hk)
end
end Go.Isk
set_option linter.unusedVariables false
set_option linter.unusedSimpArgs false
set_option linter.unusedSectionVars false
namespace Go.Proofs.YtbbmgkbinnomgaaGreatDoor
open Go Go.Isk Go.RowKit
/-- the cells of a T.files_FS -/
def fsC (a0 : Value) (a1 : Value) (a2 : Value) (a3 : Value) (a4 : Value) : List Value := a0 :: (a1 :: (a2 :: (a3 :: (a4 :: ([])))))
theorem fsC_d0 {a0 a1 a2 a3 a4 : Value}   : (fsC a0 a1 a2 a3 a4).drop 0 = a0 :: (a1 :: (a2 :: (a3 :: (a4 :: ([]))))) := rfl
theorem fs.t0 {a0 a1 a2 a3 a4 : Value}   {g : Nat} {S : World → Prop} {k : Value → Prop} (hS : ∀ w, S w → Blk w g T.files_FS (fsC a0 a1 a2 a3 a4)) (hk : k a0) :
    tk Tryz.prog S (Instr.fieldAt T.files_FS (.pointer (some ⟨g, 0, none⟩)) 0) fun t => tk Tryz.prog S (Instr.loadAt T.map_string_files_file t) k :=
  tk_get1 (off := 0) (by kernel_rfl) (by kernel_rfl) (fsC_d0 ) hS hk
theorem fs.g0 {a0 a1 a2 a3 a4 : Value}   {g : Nat} {w : World} {k : Value → World → Prop} (hS : Blk w g T.files_FS (fsC a0 a1 a2 a3 a4)) (hk : k a0 w) :
    o1 Tryz.prog (Instr.fieldAt T.files_FS (.pointer (some ⟨g, 0, none⟩)) 0) w fun t w => o1 Tryz.prog (Instr.loadAt T.map_string_files_file t) w k :=
  o1_get1 (off := 0) (by kernel_rfl) (by kernel_rfl) (fsC_d0 ) hS hk
theorem fsC_d1 {a0 a1 a2 a3 a4 : Value}   : (fsC a0 a1 a2 a3 a4).drop 1 = a1 :: (a2 :: (a3 :: (a4 :: ([])))) := rfl
theorem fs.t1 {a0 a1 a2 a3 a4 : Value}   {g : Nat} {S : World → Prop} {k : Value → Prop} (hS : ∀ w, S w → Blk w g T.files_FS (fsC a0 a1 a2 a3 a4)) (hk : k a1) :
    tk Tryz.prog S (Instr.fieldAt T.files_FS (.pointer (some ⟨g, 0, none⟩)) 1) fun t => tk Tryz.prog S (Instr.loadAt T.int t) k :=
  tk_get1 (off := 1) (by kernel_rfl) (by kernel_rfl) (fsC_d1 ) hS hk
theorem fs.g1 {a0 a1 a2 a3 a4 : Value}   {g : Nat} {w : World} {k : Value → World → Prop} (hS : Blk w g T.files_FS (fsC a0 a1 a2 a3 a4)) (hk : k a1 w) :
    o1 Tryz.prog (Instr.fieldAt T.files_FS (.pointer (some ⟨g, 0, none⟩)) 1) w fun t w => o1 Tryz.prog (Instr.loadAt T.int t) w k :=
  o1_get1 (off := 1) (by kernel_rfl) (by kernel_rfl) (fsC_d1 ) hS hk
theorem fsC_d2 {a0 a1 a2 a3 a4 : Value}   : (fsC a0 a1 a2 a3 a4).drop 2 = a2 :: (a3 :: (a4 :: ([]))) := rfl
theorem fs.t2 {a0 a1 a2 a3 a4 : Value}   {g : Nat} {S : World → Prop} {k : Value → Prop} (hS : ∀ w, S w → Blk w g T.files_FS (fsC a0 a1 a2 a3 a4)) (hk : k a2) :
    tk Tryz.prog S (Instr.fieldAt T.files_FS (.pointer (some ⟨g, 0, none⟩)) 2) fun t => tk Tryz.prog S (Instr.loadAt T.bool t) k :=
  tk_get1 (off := 2) (by kernel_rfl) (by kernel_rfl) (fsC_d2 ) hS hk
theorem fs.g2 {a0 a1 a2 a3 a4 : Value}   {g : Nat} {w : World} {k : Value → World → Prop} (hS : Blk w g T.files_FS (fsC a0 a1 a2 a3 a4)) (hk : k a2 w) :
    o1 Tryz.prog (Instr.fieldAt T.files_FS (.pointer (some ⟨g, 0, none⟩)) 2) w fun t w => o1 Tryz.prog (Instr.loadAt T.bool t) w k :=
  o1_get1 (off := 2) (by kernel_rfl) (by kernel_rfl) (fsC_d2 ) hS hk
theorem fsC_d3 {a0 a1 a2 a3 a4 : Value}   : (fsC a0 a1 a2 a3 a4).drop 3 = a3 :: (a4 :: ([])) := rfl
theorem fs.t3 {a0 a1 a2 a3 a4 : Value}   {g : Nat} {S : World → Prop} {k : Value → Prop} (hS : ∀ w, S w → Blk w g T.files_FS (fsC a0 a1 a2 a3 a4)) (hk : k a3) :
    tk Tryz.prog S (Instr.fieldAt T.files_FS (.pointer (some ⟨g, 0, none⟩)) 3) fun t => tk Tryz.prog S (Instr.loadAt T.int t) k :=
  tk_get1 (off := 3) (by kernel_rfl) (by kernel_rfl) (fsC_d3 ) hS hk
theorem fs.g3 {a0 a1 a2 a3 a4 : Value}   {g : Nat} {w : World} {k : Value → World → Prop} (hS : Blk w g T.files_FS (fsC a0 a1 a2 a3 a4)) (hk : k a3 w) :
    o1 Tryz.prog (Instr.fieldAt T.files_FS (.pointer (some ⟨g, 0, none⟩)) 3) w fun t w => o1 Tryz.prog (Instr.loadAt T.int t) w k :=
  o1_get1 (off := 3) (by kernel_rfl) (by kernel_rfl) (fsC_d3 ) hS hk
theorem fsC_d4 {a0 a1 a2 a3 a4 : Value}   : (fsC a0 a1 a2 a3 a4).drop 4 = a4 :: ([]) := rfl
theorem fs.t4 {a0 a1 a2 a3 a4 : Value}   {g : Nat} {S : World → Prop} {k : Value → Prop} (hS : ∀ w, S w → Blk w g T.files_FS (fsC a0 a1 a2 a3 a4)) (hk : k a4) :
    tk Tryz.prog S (Instr.fieldAt T.files_FS (.pointer (some ⟨g, 0, none⟩)) 4) fun t => tk Tryz.prog S (Instr.loadAt T.bool t) k :=
  tk_get1 (off := 4) (by kernel_rfl) (by kernel_rfl) (fsC_d4 ) hS hk
theorem fs.g4 {a0 a1 a2 a3 a4 : Value}   {g : Nat} {w : World} {k : Value → World → Prop} (hS : Blk w g T.files_FS (fsC a0 a1 a2 a3 a4)) (hk : k a4 w) :
    o1 Tryz.prog (Instr.fieldAt T.files_FS (.pointer (some ⟨g, 0, none⟩)) 4) w fun t w => o1 Tryz.prog (Instr.loadAt T.bool t) w k :=
  o1_get1 (off := 4) (by kernel_rfl) (by kernel_rfl) (fsC_d4 ) hS hk
/-- the cells of a T.files_file -/
def fileC (a0 : Value) (a1 : Value) : List Value := a0 :: (a1 :: ([]))
theorem fileC_d0 {a0 a1 : Value}   : (fileC a0 a1).drop 0 = a0 :: (a1 :: ([])) := rfl
theorem file.t0 {a0 a1 : Value}   {g : Nat} {S : World → Prop} {k : Value → Prop} (hS : ∀ w, S w → Blk w g T.files_file (fileC a0 a1)) (hk : k a0) :
    tk Tryz.prog S (Instr.fieldAt T.files_file (.pointer (some ⟨g, 0, none⟩)) 0) fun t => tk Tryz.prog S (Instr.loadAt T.sl_uint8 t) k :=
  tk_get1 (off := 0) (by kernel_rfl) (by kernel_rfl) (fileC_d0 ) hS hk
theorem file.g0 {a0 a1 : Value}   {g : Nat} {w : World} {k : Value → World → Prop} (hS : Blk w g T.files_file (fileC a0 a1)) (hk : k a0 w) :
    o1 Tryz.prog (Instr.fieldAt T.files_file (.pointer (some ⟨g, 0, none⟩)) 0) w fun t w => o1 Tryz.prog (Instr.loadAt T.sl_uint8 t) w k :=
  o1_get1 (off := 0) (by kernel_rfl) (by kernel_rfl) (fileC_d0 ) hS hk
theorem fileC_d1 {a0 a1 : Value}   : (fileC a0 a1).drop 1 = a1 :: ([]) := rfl
theorem file.t1 {a0 a1 : Value}   {g : Nat} {S : World → Prop} {k : Value → Prop} (hS : ∀ w, S w → Blk w g T.files_file (fileC a0 a1)) (hk : k a1) :
    tk Tryz.prog S (Instr.fieldAt T.files_file (.pointer (some ⟨g, 0, none⟩)) 1) fun t => tk Tryz.prog S (Instr.loadAt T.int t) k :=
  tk_get1 (off := 1) (by kernel_rfl) (by kernel_rfl) (fileC_d1 ) hS hk
theorem file.g1 {a0 a1 : Value}   {g : Nat} {w : World} {k : Value → World → Prop} (hS : Blk w g T.files_file (fileC a0 a1)) (hk : k a1 w) :
    o1 Tryz.prog (Instr.fieldAt T.files_file (.pointer (some ⟨g, 0, none⟩)) 1) w fun t w => o1 Tryz.prog (Instr.loadAt T.int t) w k :=
  o1_get1 (off := 1) (by kernel_rfl) (by kernel_rfl) (fileC_d1 ) hS hk
/-- the cells of a T.isthmuslaw04_Act -/
def act4C (a0 : Value) (a1 : Value) (a2 : Value) (a3 : Value) (a4 : Value) (a5 : Value) : List Value := a0 :: (a1 :: (a2 :: (a3 :: (a4 :: (a5 :: ([]))))))
theorem act4C_d0 {a0 a1 a2 a3 a4 a5 : Value}   : (act4C a0 a1 a2 a3 a4 a5).drop 0 = a0 :: (a1 :: (a2 :: (a3 :: (a4 :: (a5 :: ([])))))) := rfl
theorem act4C_d1 {a0 a1 a2 a3 a4 a5 : Value}   : (act4C a0 a1 a2 a3 a4 a5).drop 1 = a1 :: (a2 :: (a3 :: (a4 :: (a5 :: ([]))))) := rfl
theorem act4C_d2 {a0 a1 a2 a3 a4 a5 : Value}   : (act4C a0 a1 a2 a3 a4 a5).drop 2 = a2 :: (a3 :: (a4 :: (a5 :: ([])))) := rfl
theorem act4C_d3 {a0 a1 a2 a3 a4 a5 : Value}   : (act4C a0 a1 a2 a3 a4 a5).drop 3 = a3 :: (a4 :: (a5 :: ([]))) := rfl
theorem act4C_d4 {a0 a1 a2 a3 a4 a5 : Value}   : (act4C a0 a1 a2 a3 a4 a5).drop 4 = a4 :: (a5 :: ([])) := rfl
theorem act4C_d5 {a0 a1 a2 a3 a4 a5 : Value}   : (act4C a0 a1 a2 a3 a4 a5).drop 5 = a5 :: ([]) := rfl
end Go.Proofs.YtbbmgkbinnomgaaGreatDoor
