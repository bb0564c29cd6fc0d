/- Cells that can be read; rows of things; regions of open order. -/
import Derived.Test.YtbbmgkbinnomgaaGreatDoorKS
set_option linter.unusedVariables false
set_option linter.unusedSimpArgs false
set_option linter.unusedSectionVars false
namespace Go.Isk
open Go Go.RowKit
section
variable {P : Program} {b : Base} {w w' : World} {I J : It} {L R : List It} {D S S' : Nat → Prop} {g o : Nat} {k : Value → World → Prop} {t : TypeId} {cs ds xs ys : List Value} {v x sv : Value} {n m sz : Nat}
/-- cells that stay -/
def rngF (g o : Nat) (cs : List Value) : Fact := ⟨fun S w => w.rangeAt g o cs ∧ (0 < cs.length → S g),
  fun h hu hd => ⟨fun j v hv => range_keep h.1 hu (hd g (h.2 (Nat.lt_of_le_of_lt (Nat.zero_le j) (List.getElem?_eq_some_iff.1 hv).1))) j v hv, h.2⟩,
  fun h hs => ⟨h.1, fun hl => hs g (h.2 hl) (range_lt h.1 hl)⟩⟩
/-- cells that can be read -/
inductive Rng : List It → Nat → Nat → List Value → Prop
  | blk {g : Nat} {t : TypeId} {cs : List Value} {R : List It} : Rng (blkI g t cs :: R) g 0 cs
  | rng {g o : Nat} {cs : List Value} {R : List It} : Rng ((rngF g o cs).it :: R) g o cs
  | tl {J : It} {g o : Nat} {cs : List Value} {R : List It} : Rng R g o cs → Rng (J :: R) g o cs
theorem Rng.of (hr : Rng L g o cs) : ∃ I ∈ L, ∀ S w, I.holds S w → w.rangeAt g o cs := by
  induction hr with
  | blk => exact ⟨_, .head _, fun S w h => Blk.range h fun j v hv => by rwa [Nat.zero_add]⟩
  | rng => exact ⟨_, .head _, fun S w h => h.1⟩
  | tl _ ih =>
    obtain ⟨I, h1, h2⟩ := ih
    exact ⟨I, .tail _ h1, h2⟩
theorem Sep.rng (h : Sep b w L) (hr : Rng L g o cs) : w.rangeAt g o cs := by
  obtain ⟨I, h1, h2⟩ := hr.of
  exact h2 _ _ (h.holds I h1)
/-- the items that a region of open order reads -/
def Mayr (L : List It) (w : World) : Prop := ∀ I ∈ L, ∃ S, I.holds S w
theorem Mayr.rng (h : Mayr L w) (hr : Rng L g o cs) : w.rangeAt g o cs := by
  obtain ⟨I, h1, h2⟩ := hr.of
  obtain ⟨S, h3⟩ := h I h1
  exact h2 _ _ h3
theorem Mayr.reads (h : Mayr L w) (hr : Rds L v n sz xs) : Sl w v n sz xs := by
  obtain ⟨I, h1, h2⟩ := hr.sl_of
  obtain ⟨S, h3⟩ := h I h1
  exact h2 _ _ h3
theorem Sep.mayr (h : Sep b w L) (hs : Sbl R L) : Mayr R w := fun I hI => ⟨_, (h.sbl hs).holds I hI⟩
theorem dr_can {f : (World → Prop) → Prop} (h : Sep b w L) (hs : Sbl R L) (hf : f (Mayr R)) : dr w f := dr_by (Mayr R) (h.mayr hs) hf
theorem Sbl.mem {R L : List It} (h : Sbl R L) : ∀ I ∈ R, I ∈ L := by
  induction h with
  | all => exact fun _ h => h
  | nil => exact fun _ h => by cases h
  | cons hm _ ih =>
    intro J hJ
    rcases List.mem_cons.1 hJ with rfl | hJ
    · exact hm.ins.mem
    · exact hm.perm.mem_iff.2 (List.mem_cons_of_mem _ (ih J hJ))
  | drop _ ih => exact fun J hJ => List.mem_cons_of_mem _ (ih J hJ)
/-- what a region reads, chosen anew -/
theorem nS_can {R' : List It} {f : (World → Prop) → Prop} (h : Sep b w L) (hs : Sbl R L) (hR : Sbl R' R) (hf : f (Mayr R)) : nS (Mayr R') w f :=
  ⟨Mayr R, h.mayr hs, fun w hw I hI => hw I (hR.mem I hI), hf⟩
theorem range_cell (h : w.rangeAt g o cs) {p : Nat} (hx : cs[p]? = some x) : w.cell? ⟨g, o + p, none⟩ = some x := h p x hx
theorem sp_ld1 {T p : Nat} (h : Sep b w L) (hr : Rng L g o cs) (ht : oneT P T = true) (hx : cs[p]? = some x) (hk : k x w) : o1 P (Instr.loadAt T (.pointer (some ⟨g, o + p, none⟩))) w k :=
  st_of (load_one ht (range_cell (h.rng hr) hx)) hk
theorem sp_ldn {T n : Nat} (h : Sep b w L) (hr : Rng L g o cs) (ht : aggT P T n = true) (hl : cs.length = n) (hk : k (.agg cs.toArray) w) : o1 P (Instr.loadAt T (.pointer (some ⟨g, o, none⟩))) w k :=
  st_of (load_agg ht (h.rng hr) hl) hk
theorem sp_ldx {T : Nat} {rest : List Value} (h : Sep b w L) (hr : Rng L g o (x :: rest)) (ht : oneT P T = true) (hk : k x w) : o1 P (Instr.loadAt T (.pointer (some ⟨g, o, none⟩))) w k :=
  st_of (load_one ht (h.rng hr 0 x rfl)) hk
theorem sp_ldv {T i : Nat} {cs : List Value} (h : Sep b w L) (hr : Rng L g 0 cs) (ht : oneT P T = true) (hx : cs[i]? = some x) (hk : k x w) : o1 P (Instr.loadAt T (.pointer (some ⟨g, i, none⟩))) w k :=
  st_of (load_one ht (by have := range_cell (h.rng hr) hx; rwa [Nat.zero_add] at this)) hk
theorem tk_ldx {T : Nat} {rest : List Value} {k : Value → Prop} {S : World → Prop} (hS : ∀ w, S w → Mayr L w) (hr : Rng L g o (x :: rest)) (ht : oneT P T = true) (hk : k x) : tk P S (Instr.loadAt T (.pointer (some ⟨g, o, none⟩))) k :=
  tk_of _ (fun w hw => load_one ht ((hS w hw).rng hr 0 x rfl)) hk
theorem tk_ldn {T n : Nat} {k : Value → Prop} {S : World → Prop} (hS : ∀ w, S w → Mayr L w) (hr : Rng L g o cs) (ht : aggT P T n = true) (hl : cs.length = n) (hk : k (.agg cs.toArray)) : tk P S (Instr.loadAt T (.pointer (some ⟨g, o, none⟩))) k :=
  tk_of _ (fun w hw => load_agg ht ((hS w hw).rng hr) hl) hk
theorem hid : ∀ w, Mayr L w → Mayr L w := fun _ h => h
theorem tk_run {s : Sem Value} {k : Value → Prop} {S : World → Prop} (h : ∀ w, s.run P w = .ok v w) (hk : k v) : tk P S s k := tk_of v (fun w _ => h w) hk
theorem tk_bin {op : BinOp} {t : TypeId} {x y : Operand} {a c : Value} {k : Value → Prop} {S : World → Prop} (h : ∀ w, (bin op t x y a c).run P w = .ok v w) (hk : k v) : tk P S (bin op t x y a c) k := tk_run h hk
theorem tk_un {op : UnOp} {x : Value} {k : Value → Prop} {S : World → Prop} (h : ∀ w, (Op.unary op x).run P w = .ok v w) (hk : k v) : tk P S (Op.unary op x) k := tk_run h hk
theorem tk_len {ts : Array TypeId} {t : TypeId} {a : Array Value} {k : Value → Prop} {S : World → Prop} (h : ∀ w, (Builtin.len_ ts t a).run P w = .ok v w) (hk : k v) : tk P S (Builtin.len_ ts t a) k := tk_run h hk
theorem tk_ext {x : Value} {i : Nat} {k : Value → Prop} {S : World → Prop} (h : ∀ w, (Instr.extract x i).run P w = .ok v w) (hk : k v) : tk P S (Instr.extract x i) k := tk_run h hk
theorem gdT_i {c : Bool} {A : (Value → Prop) → Prop} {k : Value → Prop} (h : A k) : gdT (.bool c) c A k := ⟨by simp [h]⟩
theorem gdT_ft {A : (Value → Prop) → Prop} {k : Value → Prop} (h : k undef) : gdT (.bool false) true A k := ⟨h⟩
theorem gdT_tf {A : (Value → Prop) → Prop} {k : Value → Prop} (h : k undef) : gdT (.bool true) false A k := ⟨h⟩
theorem gdT_u {c : Bool} {A : (Value → Prop) → Prop} {k : Value → Prop} (h : k undef) : gdT undef c A k := ⟨h⟩
/-! a field, read -/
theorem sp_f1 {T i off ty : Nat} {rest : List Value} (hf : fieldO P T i = some off) (ht : oneT P ty = true) (hd : cs.drop off = x :: rest) (h : Sep b w L) (hr : Rng L g o cs) (hk : k x w) :
    o1 P (Instr.fieldAt T (.pointer (some ⟨g, o, none⟩)) i) w fun t w => o1 P (Instr.loadAt ty t) w k :=
  st_of (fieldAt_run hf g o w) (sp_ld1 h hr ht (get_of_drop hd) hk)
theorem sp_fn {T i off ty n : Nat} {rest : List Value} (hf : fieldO P T i = some off) (ht : aggT P ty n = true) (hn : ds.length = n) (hd : cs.drop off = ds ++ rest) (h : Sep b w L) (hr : Rng L g o cs) (hk : k (.agg ds.toArray) w) :
    o1 P (Instr.fieldAt T (.pointer (some ⟨g, o, none⟩)) i) w fun t w => o1 P (Instr.loadAt ty t) w k :=
  st_of (fieldAt_run hf g o w) (st_of (load_agg ht (range_sub (h.rng hr) off (sub_of_drop hd)) hn) hk)
theorem tk_f1 {T i off ty : Nat} {rest : List Value} {k : Value → Prop} (hf : fieldO P T i = some off) (ht : oneT P ty = true) (hd : cs.drop off = x :: rest) {S : World → Prop} (hS : ∀ w, S w → Mayr L w) (hr : Rng L g o cs) (hk : k x) :
    tk P S (Instr.fieldAt T (.pointer (some ⟨g, o, none⟩)) i) fun t => tk P S (Instr.loadAt ty t) k :=
  tk_of _ (fun w _ => fieldAt_run hf g o w) (tk_of x (fun w hw => load_one ht (range_cell ((hS w hw).rng hr) (get_of_drop hd))) hk)
theorem tk_fn {T i off ty n : Nat} {rest : List Value} {k : Value → Prop} (hf : fieldO P T i = some off) (ht : aggT P ty n = true) (hn : ds.length = n) (hd : cs.drop off = ds ++ rest) {S : World → Prop} (hS : ∀ w, S w → Mayr L w) (hr : Rng L g o cs) (hk : k (.agg ds.toArray)) :
    tk P S (Instr.fieldAt T (.pointer (some ⟨g, o, none⟩)) i) fun t => tk P S (Instr.loadAt ty t) k :=
  tk_of _ (fun w _ => fieldAt_run hf g o w) (tk_of _ (fun w hw => load_agg ht (range_sub ((hS w hw).rng hr) off (sub_of_drop hd)) hn) hk)
/-- a field set -/
theorem sp_s1 {T F i off : Nat} (hf : fieldO P T i = some off) (hi : (P.info? F).map (·.size) = some 1) (hl : off < cs.length) (he : cs.set off v = ds) (hv : v.cells = #[v] ∧ v.oneCell' = true) (h : Sep b w L) (hm : Has L (blkI g t cs) R)
    (hk : ∀ w', Sep b w' (blkI g t ds :: R) → k undef w') :
    o1 P (Instr.fieldAt T (.pointer (some ⟨g, 0, none⟩)) i) w fun a w => o0 P (Instr.storeAt F a v) w k :=
  st_of (fieldAt_run hf g 0 w) (by rw [Nat.zero_add]; subst he; exact sp_store1 h hm hi hv hl hk)
theorem sp_sn {T F i off n : Nat} {es : List Value} (hf : fieldO P T i = some off) (hi : (P.info? F).map (·.size) = some n) (hd : es.length = n) (hl : off + n ≤ cs.length) (he : cs.take off ++ es ++ cs.drop (off + n) = ds) (h1 : ∀ u ∈ es, u.oneCell' = true) (h : Sep b w L) (hm : Has L (blkI g t cs) R)
    (hk : ∀ w', Sep b w' (blkI g t ds :: R) → k undef w') :
    o1 P (Instr.fieldAt T (.pointer (some ⟨g, 0, none⟩)) i) w fun a w => o0 P (Instr.storeAt F a (.agg es.toArray)) w k :=
  st_of (fieldAt_run hf g 0 w) (by rw [Nat.zero_add]; subst he; exact sp_storen h hm hi hd hl h1 hk)
/-! ### rows of things -/
variable {α : Type}
abbrev Fam (α : Type) := List Value → α → Fact
def pureF (p : Prop) : Fact := ⟨fun _ _ => p, fun h _ _ => h, fun h _ => h⟩
def allF (F : Fam α) (xss : List (List Value)) (ls : List α) (S : Nat → Prop) (w : World) : Prop := xss.length = ls.length ∧ ∀ (i : Nat) (h : i < ls.length) (x : List Value), xss[i]? = some x → (F x ls[i]).holds S w
theorem allF.keep {F : Fam α} {xss : List (List Value)} {ls : List α} (h : allF F xss ls S w) (hu : Upd D w w') (hd : ∀ k, S k → ¬ D k) : allF F xss ls S w' := ⟨h.1, fun i hi x hx => (F x _).keep (h.2 i hi x hx) hu hd⟩
theorem allF.mono {F : Fam α} {xss : List (List Value)} {ls : List α} (h : allF F xss ls S w) (hs : ∀ k, S k → k < w.heap.size → S' k) : allF F xss ls S' w := ⟨h.1, fun i hi x hx => (F x _).mono (h.2 i hi x hx) hs⟩
theorem allF.push {F : Fam α} {xss : List (List Value)} {ls : List α} {x : List Value} {a : α} (h : allF F xss ls S w) (hx : (F x a).holds S w) : allF F (xss ++ [x]) (ls ++ [a]) S w := by
  refine ⟨by simp [h.1], fun i hi y hy => ?_⟩
  rcases Nat.lt_or_ge i ls.length with hlt | hge
  · rw [List.getElem?_append_left (by have := h.1; omega)] at hy
    rw [List.getElem_append_left hlt]
    exact h.2 i hlt y hy
  · have hi' : i = xss.length := by have := h.1; simp at hi; omega
    subst hi'
    rw [List.getElem?_append_right (Nat.le_refl _)] at hy
    simp only [Nat.sub_self, List.getElem?_cons_zero, Option.some.injEq] at hy
    subst hy
    simpa [h.1] using hx
theorem allF.append {F : Fam α} {xss yss : List (List Value)} {ls ms : List α} (h : allF F xss ls S w) (h' : allF F yss ms S w) : allF F (xss ++ yss) (ls ++ ms) S w := by
  refine ⟨by simp [h.1, h'.1], fun i hi y hy => ?_⟩
  rcases Nat.lt_or_ge i ls.length with hlt | hge
  · rw [List.getElem?_append_left (by have := h.1; omega)] at hy
    rw [List.getElem_append_left hlt]
    exact h.2 i hlt y hy
  · rw [List.getElem?_append_right (by have := h.1; omega)] at hy
    rw [List.getElem_append_right hge]
    rw [h.1] at hy
    exact h'.2 _ (by simp at hi; omega) y hy
theorem allF.nil {F : Fam α} : allF F [] [] S w := ⟨rfl, fun i h => by simp at h⟩
/-- a slice of things of sz cells each -/
def listF (F : Fam α) (sz : Nat) (sv : Value) (ls : List α) : Fact :=
  ⟨fun S w => ∃ xss : List (List Value), allF F xss ls S w ∧ (∀ x ∈ xss, x.length = sz) ∧ SlS S w sv ls.length sz xss.flatten,
   fun ⟨xss, h1, h2, h3⟩ hu hd => ⟨xss, h1.keep hu hd, h2, h3.keep hu hd⟩, fun ⟨xss, h1, h2, h3⟩ hs => ⟨xss, h1.mono hs, h2, h3.mono hs⟩⟩
/-- .. and one of one's own, that grows -/
def growI (F : Fam α) (E sz : Nat) (sv : Value) (ls : List α) : It :=
  ⟨sv.ownBlock.toList, fun S w => ∃ xss : List (List Value), allF F xss ls S w ∧ (∀ x ∈ xss, x.length = sz) ∧ w.ownsRow 0 E sz sv ls.length xss.flatten,
   fun ⟨xss, h1, h2, h3⟩ hu hd => ⟨xss, h1.keep hu fun k hk => hd k (.inr hk), h2, own_keep h3 hu fun k hk => hd k (.inl (by simp [hk]))⟩, fun ⟨xss, h1, h2, h3⟩ hs => ⟨xss, h1.mono hs, h2, h3⟩⟩
variable {F : Fam α} {ls ms : List α} {E : Nat}
theorem Sep.nilF (h : Sep b w L) (F : Fam α) (sz : Nat) : Sep b w ((listF F sz (.slice none 0 0) []).it :: L) :=
  h.fact ⟨[], allF.nil, by simp, SlS.nil sz⟩
theorem Sep.grow0 (h : Sep b w L) (F : Fam α) (E sz : Nat) : Sep b w (growI F E sz (.slice none 0 0) [] :: L) :=
  h.add (I := growI F E sz (.slice none 0 0) []) Upd.refl (by simp [growI, Value.ownBlock]) ⟨[], allF.nil, by simp, own_nil⟩
theorem Sep.growF (h : Sep b w L) (hm : Has L (growI F E sz sv ls) R) : Sep b w ((listF F sz sv ls).it :: R) :=
  h.freeze hm fun S ⟨xss, h1, h2, h3⟩ => ⟨xss, h1.mono fun k hk _ => .inl hk, h2, SlS.of (.of_own h3) fun k hk => .inr (by simp [growI, hk])⟩
theorem Sep.gcells (h : Sep b w L) (hm : Has L (growI F E sz sv ls) R) : sv.cells = #[sv] ∧ sv.oneCell' = true := by
  obtain ⟨xss, h1, h2, h3⟩ := h.get hm.ins
  exact own_cells h3
/-- a list of things can be read -/
inductive Lst {α : Type} (F : Fam α) (sz : Nat) : List It → Value → List α → Prop
  | lst {sv : Value} {ls : List α} {R : List It} : Lst F sz ((listF F sz sv ls).it :: R) sv ls
  | gr {E : Nat} {sv : Value} {ls : List α} {R : List It} : Lst F sz (growI F E sz sv ls :: R) sv ls
  | tl {J : It} {sv : Value} {ls : List α} {R : List It} : Lst F sz R sv ls → Lst F sz (J :: R) sv ls
theorem Lst.of (hr : Lst F sz L sv ls) : ∃ I ∈ L, ∀ S w, I.holds S w → ∃ xss : List (List Value), allF F xss ls S w ∧ (∀ x ∈ xss, x.length = sz) ∧ Sl w sv ls.length sz xss.flatten := by
  induction hr with
  | lst => exact ⟨_, .head _, fun S w ⟨xss, h1, h2, h3⟩ => ⟨xss, h1, h2, h3.1⟩⟩
  | gr => exact ⟨_, .head _, fun S w ⟨xss, h1, h2, h3⟩ => ⟨xss, h1, h2, .of_own h3⟩⟩
  | tl _ ih =>
    obtain ⟨I, h1, h2⟩ := ih
    exact ⟨I, .tail _ h1, h2⟩
theorem Sep.lst (h : Sep b w L) (hr : Lst F sz L sv ls) : ∃ xss : List (List Value), allF F xss ls (Stb w L) w ∧ (∀ x ∈ xss, x.length = sz) ∧ Sl w sv ls.length sz xss.flatten := by
  obtain ⟨I, h1, h2⟩ := hr.of
  exact h2 _ _ (h.holds I h1)
theorem Sep.lst_len (h : Sep b w L) (hr : Lst F sz L sv ls) : ∃ A c, sv = .slice A ls.length c := by
  obtain ⟨xss, h1, h2, A, c, rfl, _⟩ := h.lst hr
  exact ⟨A, c, rfl⟩
/-- an element that is loaded at once (its cells are many) -/
theorem sp_eln {T by_ : Nat} {q : IntKind} {i : Int} (h : Sep b w L) (hr : Lst F sz L sv ls) (hT : slT P T E sz by_ = true) (ht : aggT P E sz = true) (n : Nat) (hn : i = n) (hi : n < ls.length)
    (hk : ∀ x, x.length = sz → Sep b w ((F x ls[n]).it :: L) → k (.agg x.toArray) w) :
    o1 P (Instr.indexAt T sv (.int q i)) w fun a w => o1 P (Instr.loadAt E a) w k := by
  subst hn
  obtain ⟨xss, h1, h2, h3⟩ := h.lst hr
  obtain ⟨g, o, hrun, hg, hb⟩ := idx_at hT h3 n hi (q := q)
  rw [flatten_at h2 n (by rw [h1.1]; exact hi)] at hg
  have hl := h2 _ (List.getElem_mem (l := xss) (n := n) (by rw [h1.1]; exact hi))
  exact st_of hrun (st_of (load_agg ht hg hl) (hk _ hl (h.fact (h1.2 n hi _ (List.getElem?_eq_getElem _)))))
/-- an element of one cell -/
theorem sp_el1 {T by_ : Nat} {q : IntKind} {i : Int} (h : Sep b w L) (hr : Lst F 1 L sv ls) (hT : slT P T E 1 by_ = true) (ht : oneT P E = true) (n : Nat) (hn : i = n) (hi : n < ls.length)
    (hk : ∀ x, Sep b w ((F [x] ls[n]).it :: L) → k x w) :
    o1 P (Instr.indexAt T sv (.int q i)) w fun a w => o1 P (Instr.loadAt E a) w k := by
  subst hn
  obtain ⟨xss, h1, h2, h3⟩ := h.lst hr
  obtain ⟨g, o, hrun, hg, hb⟩ := idx_at hT h3 n hi (q := q)
  rw [flatten_at h2 n (by rw [h1.1]; exact hi)] at hg
  have hl := h2 _ (List.getElem_mem (l := xss) (n := n) (by rw [h1.1]; exact hi))
  obtain ⟨x, hx⟩ := List.length_eq_one_iff.1 hl
  rw [hx] at hg
  have hf := h1.2 n hi [x] (by rw [List.getElem?_eq_getElem (by rw [h1.1]; exact hi), hx])
  exact st_of hrun (st_of (load_one ht (hg 0 x rfl)) (hk _ (h.fact hf)))
/-- one thing more -/
theorem sp_push {T by_ : Nat} {T' : TypeId} {x : Value} {ys : List Value} {a : α} (h : Sep b w L) (hm : Has L (growI F E sz sv ls) R) (hT : slT P T E sz by_ = true) (hx : Rds R x 1 sz ys) (hf : Ins R (F ys a).it) (h1 : ∀ u ∈ ys, u.oneCell' = true)
    (hl : (ls.length + 1) * by_ ≤ 140737488355328) (hn : ls.length + 1 ≤ 140737488355328)
    (hk : ∀ v' w', Sep b w' (growI F E sz v' (ls ++ [a]) :: R) → k v' w') : ob P (fun _ => Builtin.append_ #[T, T] T' #[sv, x]) w k := by
  obtain ⟨xss, q1, q2, q3⟩ := h.get hm.ins
  have hR := h.drop hm
  have hfa := hR.get hf
  have hxs := hR.reads hx
  have hyl : ys.length = sz := by have := hxs.len; omega
  refine st_app hT q3 hxs h1 hl hn (Nat.zero_le _) fun v' w' ho hu hv => hk v' w' ?_
  have hS : ∀ k, Stb w L k → ¬ sv.ownBlock = some k := fun k hk e => hk.2 ⟨_, hm.ins.mem, by simp [growI, e]⟩
  have hS2 : ∀ k, Stb w R k → sv.ownBlock ≠ some k → Stb w L k := fun k hk e => ⟨hk.1, fun hmm => by
    have := (mine_perm hm.perm k).1 hmm
    rcases mine_app.1 (show Mine ([growI F E sz sv ls] ++ R) k from this) with h | h
    · exact e (by simpa [growI] using mine_one.1 h)
    · exact hk.2 h⟩
  have hfa' : (F ys a).holds (Stb w L) w := by
    have hRp : Sep b w (growI F E sz sv ls :: R) := h.perm hm.perm
    have := hRp.holds _ (List.mem_cons_of_mem _ hf.mem)
    exact (F ys a).mono this fun k hk _ => ⟨hk.1, fun hmm => hk.2 ((mine_perm hm.perm k).1 hmm)⟩
  refine h.turn hm hu (fun k _ e => by simp [growI, e]) (fun k hk => ⟨own_ids ho k hk, ?_⟩) ?_
  · have hk : v'.ownBlock = some k := by simpa [growI] using hk
    rcases hv with e | ⟨k', e, hk'⟩
    · exact .inl (by simp [growI, ← e, hk])
    · rw [e] at hk; cases hk; exact .inr hk'
  · refine ⟨xss ++ [ys], ((q1.push hfa').keep hu hS).mono fun k hk _ => ⟨Nat.lt_of_lt_of_le hk.1 hu.size, fun hmm => ?_⟩, fun y hy => ?_, by simpa using ho⟩
    · rcases mine_app.1 (show Mine ([growI F E sz v' (ls ++ [a])] ++ R) k from hmm) with h5 | h5
      · have h5 : v'.ownBlock = some k := by simpa [growI] using mine_one.1 h5
        rcases hv with e | ⟨k', e, hk'⟩
        · exact hS k hk (e ▸ h5)
        · rw [e] at h5; cases h5; have := hk.1; omega
      · exact hk.2 ((mine_perm hm.perm k).2 (mine_app.2 (.inr h5) : Mine ([growI F E sz sv ls] ++ R) k))
    · rcases List.mem_append.1 hy with hy | hy
      · exact q2 y hy
      · simp only [List.mem_cons, List.not_mem_nil, or_false] at hy
        rw [hy]; exact hyl
/-- a slice literal, of things of one's own making -/
theorem sp_lit1 {T by_ : Nat} {parts : Array (Nat × Value)} (h : Sep b w L) (hT : slT P T E sz by_ = true) (v : Value) (hp : parts.toList = [(0, v)]) (hs : v.cells.size = sz) (hsm : sz ≤ 16777216)
    (hk : ∀ v' w', Sep b w' ((slF v' 1 sz v.cells.toList).it :: L) → k v' w') : o1 P (Instr.buildSlice T 1 parts) w k :=
  st_bslice hT [v] (by simpa using hp) (by simpa using hs) rfl (by decide) (by omega) fun g w' hb hu hg => by
    have e : ([v].map fun v => v.cells.toList).flatten = v.cells.toList := by simp
    rw [e] at hb
    have hsz := (slT.spec hT).2.1
    have h' : Sep b w' (blkI g E v.cells.toList :: L) := h.add hu (by simp [blkI, hb.lt, hg]) hb
    refine hk _ w' (h'.freeze .hd fun S hB => ?_)
    have hsl := Sl.of_blk (n := 1) (m := 1) (o := 0) (sz := sz) (show Blk w' g E v.cells.toList from hB) (by simp [hs]) (Nat.le_refl _)
    rw [List.drop_zero, List.take_of_length_le (by simp [hs])] at hsl
    exact SlS.of hsl fun k hk => .inr (by simp [Value.ownBlock] at hk; simp [blkI, hk])
theorem sp_lita {T by_ : Nat} {w : World} (h : Sep b w L) (hT : slT P T E sz by_ = true) (hs : ds.length = sz) (hsm : sz ≤ 16777216)
    (hk : ∀ v' w', Sep b w' ((slF v' 1 sz ds).it :: L) → k v' w') : o1 P (Instr.buildSlice T 1 #[(0, .agg ds.toArray)]) w k :=
  sp_lit1 h hT (.agg ds.toArray) rfl (by simpa [Value.cells] using hs) hsm fun v' w' h' => hk v' w' (by simpa [Value.cells] using h')
theorem sp_litv {T by_ : Nat} {w : World} (h : Sep b w L) (hT : slT P T E 1 by_ = true) (hv : v.cells = #[v])
    (hk : ∀ v' w', Sep b w' ((slF v' 1 1 [v]).it :: L) → k v' w') : o1 P (Instr.buildSlice T 1 #[(0, v)]) w k :=
  sp_lit1 h hT v rfl (by simp [hv]) (by decide) fun v' w' h' => hk v' w' (by rw [hv] at h'; simpa using h')
/-! ### texts of bytes -/
theorem mine_same (h : I.ids = J.ids) {k : Nat} (hk : Mine (I :: R) k) : Mine (J :: R) k := by
  rcases mine_app.1 (show Mine ([I] ++ R) k from hk) with h5 | h5
  · exact (mine_app.2 (.inl (mine_one.2 (h ▸ mine_one.1 h5))) : Mine ([J] ++ R) k)
  · exact (mine_app.2 (.inr h5) : Mine ([J] ++ R) k)
theorem mine_fact {f : Fact} {k : Nat} : Mine (f.it :: R) k ↔ Mine R k := by
  constructor
  · intro hk
    rcases mine_app.1 (show Mine ([f.it] ++ R) k from hk) with h5 | h5
    · simpa [Fact.it] using mine_one.1 h5
    · exact h5
  · intro hk; exact (mine_app.2 (.inr hk) : Mine ([f.it] ++ R) k)
def ByteS (S : Nat → Prop) (w : World) (cs : List Value) (t : List UInt8) : Prop := ∃ x, cs = [x] ∧ SlS S w x t.length 1 (u8s t)
theorem ByteS.keep {x : List UInt8} (h : ByteS S w cs x) (hu : Upd D w w') (hd : ∀ k, S k → ¬ D k) : ByteS S w' cs x := by
  obtain ⟨sv, rfl, h⟩ := h
  exact ⟨sv, rfl, h.keep hu hd⟩
theorem ByteS.mono {x : List UInt8} (h : ByteS S w cs x) (hs : ∀ k, S k → k < w.heap.size → S' k) : ByteS S' w cs x := by
  obtain ⟨sv, rfl, h⟩ := h
  exact ⟨sv, rfl, h.mono hs⟩
def bytesF : Fam (List UInt8) := fun cs t => ⟨fun S w => ByteS S w cs t, ByteS.keep, ByteS.mono⟩
theorem Sep.bytes {t : List UInt8} (h : Sep b w L) (hm : Ins L (byF v t).it) : Sep b w ((bytesF [v] t).it :: L) := h.fact ⟨v, rfl, h.get hm⟩
theorem Sep.fresh {l : List UInt8} (h : Sep b w' L) (hR : Sep b w R) (hL : ∀ k, Mine L k → Mine R k) (hs : Sl w' v l.length 1 (u8s l)) (hf : ∀ k, v.ownBlock = some k → w.heap.size ≤ k) : Sep b w' ((byF v l).it :: L) :=
  h.fact ⟨hs, fun h0 k hk => ⟨hs.b.2 h0 k hk, fun hmm => by
    have h1 := hf k hk
    have := (hR.new k (hL k hmm)).1
    omega⟩⟩
def u8F : Fam UInt8 := fun cs c => pureF (cs = [.int .u8 c.toNat])
theorem flat_one (l : List UInt8) : (l.map fun c => [Value.int .u8 c.toNat]).flatten = u8s l := by
  induction l with
  | nil => rfl
  | cons c r ih => simp [u8s] at ih ⊢; simp [ih]
theorem Sep.u8list {l : List UInt8} (h : Sep b w L) (hm : Ins L (byF v l).it) : Sep b w ((listF u8F 1 v l).it :: L) :=
  h.fact ⟨l.map fun c => [.int .u8 c.toNat], ⟨by simp, fun i hi x hx => by
    rw [List.getElem?_map, List.getElem?_eq_getElem hi] at hx
    simp only [Option.map_some, Option.some.injEq] at hx
    exact hx.symm⟩, fun x hx => by
    obtain ⟨c, _, rfl⟩ := List.mem_map.1 hx
    rfl, by rw [flat_one]; exact h.get hm⟩
theorem Ins.lst (h : Ins L (listF F sz sv ls).it) : Lst F sz L sv ls := by
  generalize hI : (listF F sz sv ls).it = I at h
  induction h with
  | hd => subst hI; exact .lst
  | tl _ ih => exact .tl (ih hI)
theorem allF.take {xss : List (List Value)} (h : allF F xss ls S w) (i : Nat) : allF F (xss.take i) (ls.take i) S w := by
  refine ⟨by simp [h.1], fun j hj x hx => ?_⟩
  rw [List.getElem?_take] at hx
  split at hx
  · rw [List.getElem_take]
    exact h.2 j (by simp at hj; omega) x hx
  · cases hx
theorem allF.drop {xss : List (List Value)} (h : allF F xss ls S w) (i : Nat) : allF F (xss.drop i) (ls.drop i) S w := by
  refine ⟨by simp [h.1], fun j hj x hx => ?_⟩
  rw [List.getElem?_drop] at hx
  rw [List.getElem_drop]
  exact h.2 (i + j) (by simp at hj; omega) x hx
theorem flatten_take {sz : Nat} : ∀ {xss : List (List Value)} (i : Nat), (∀ x ∈ xss, x.length = sz) → i ≤ xss.length → (xss.take i).flatten = xss.flatten.take (i * sz)
  | _, 0, _, _ => by simp
  | [], i + 1, _, h => by simp at h
  | x :: r, i + 1, h, hi => by
    have hx := h x (by simp)
    have := flatten_take (xss := r) i (fun y hy => h y (by simp [hy])) (by simpa using hi)
    have e : (x ++ r.flatten).take ((i + 1) * sz) = x ++ r.flatten.take (i * sz) := by
      rw [List.take_append, List.take_of_length_le (l := x) (by rw [hx, Nat.add_mul]; omega), hx, show (i + 1) * sz - sz = i * sz by rw [Nat.add_mul]; omega]
    simp only [List.take_succ_cons, List.flatten_cons, this, e]
theorem flatten_drop {sz : Nat} : ∀ {xss : List (List Value)} (i : Nat), (∀ x ∈ xss, x.length = sz) → i ≤ xss.length → (xss.drop i).flatten = xss.flatten.drop (i * sz)
  | _, 0, _, _ => by simp
  | [], i + 1, _, h => by simp at h
  | x :: r, i + 1, h, hi => by
    have hx := h x (by simp)
    have := flatten_drop (xss := r) i (fun y hy => h y (by simp [hy])) (by simpa using hi)
    have e : (x ++ r.flatten).drop ((i + 1) * sz) = r.flatten.drop (i * sz) := by
      rw [List.drop_append, List.drop_of_length_le (l := x) (by rw [hx, Nat.add_mul]; omega), hx, List.nil_append, show (i + 1) * sz - sz = i * sz by rw [Nat.add_mul]; omega]
    simp only [List.drop_succ_cons, List.flatten_cons, this, e]
/-- a call of a function literal -/
theorem cv_g {f : FuncId} {args fst cap : Array Value} (hb : bodied P f = true) (h : C P f (fst ++ args ++ cap) w k) : cv P (.func (.func f) fst cap) args w k := by
  refine stv fun k' hk => ?_
  have e : ((do let d ← Deferred.ofValue (.func (.func f) fst cap) args; invoke d.target d.args : Sem Next).run P w) = (callFunc f (fst ++ args ++ cap)).run P w := by
    simp [Deferred.ofValue, invoke]
  rw [e, run_bodied hb]
  exact h.mono hk
/-! ### variables that were made and not yet set -/
def resI (P : Program) (g : Nat) (t : TypeId) : It := ⟨[g], fun _ w => ∃ zs, Blk w g t zs ∧ zeroT P t zs ∧ (P.info? t).map (·.size) = some zs.length, fun ⟨zs, h, e⟩ hu hd => ⟨zs, h.keep hu (hd g (.inl (by simp))), e⟩, fun h _ => h⟩
def zerT (P : Program) (t : Nat) : Bool := match P.info? t with
  | some i => match i.zero with | some z => Nat.beq z.cells.size i.size | none => false
  | none => false
theorem sp_newr (h : Sep b w L) (hz : zerT P t = true) (hk : ∀ g w', Sep b w' (resI P g t :: L) → k (.pointer (some ⟨g, 0, none⟩)) w') : o1 P (Instr.alloc t true (.tuple #[])) w k := by
  unfold zerT at hz
  split at hz
  · rename_i i hi
    split at hz
    · rename_i z hzz
      exact st_alloc (cs := z.cells.toList) ⟨i, z, hi, hzz, by simp⟩ fun g w' hb hu hg => hk g w' (h.add hu (by simp [resI, hb.lt, hg]) ⟨_, hb, ⟨i, z, hi, hzz, by simp⟩, by simp [hi, Nat.eq_of_beq_eq_true hz]⟩)
    · cases hz
  · cases hz
/-- a variable that was not yet set holds noughts -/
theorem Sep.zero (h : Sep b w L) (hm : Has L (resI P g t) R) (hz : zeroT P t cs) : Sep b w (blkI g t cs :: R) :=
  h.turn hm (D := fun _ => False) Upd.refl (fun _ _ hf => hf.elim) (fun k hk => by simp [blkI] at hk; subst hk; exact ⟨h.lt hm (by simp [resI]), .inl (by simp [resI])⟩) (by
    obtain ⟨zs, hb, hz', _⟩ := h.get hm.ins
    obtain rfl := zeroT_eq hz' hz
    exact hb)
theorem sp_setr (h : Sep b w L) (hm : Has L (resI P g t) R) (ht : aggT P t n = true) (hd : ds.length = n) (h1 : ∀ u ∈ ds, u.oneCell' = true) (hk : ∀ w', Sep b w' (blkI g t ds :: R) → k undef w') :
    o0 P (Instr.storeAt t (.pointer (some ⟨g, 0, none⟩)) (.agg ds.toArray)) w k := by
  obtain ⟨zs, hb, _, hz⟩ := h.get hm.ins
  obtain ⟨_, _, _, hi⟩ := aggT.spec ht
  have hzl : zs.length = n := by rw [hz] at hi; simpa using hi
  have hc : (Value.agg ds.toArray).cells = ds.toArray := rfl
  refine st_store (by rw [hi, hc]; simp [hd]) hb (by rw [hc]; simp; omega) (by rw [hc]; simpa using h1) fun w2 hb2 hu2 => ?_
  rw [hc] at hb2
  simp only [List.take_zero, List.nil_append, Nat.zero_add, List.size_toArray, hd, ← hzl, List.drop_length, List.append_nil] at hb2
  exact hk w2 (h.turn hm hu2 (fun k _ e => by simp [resI, e]) (fun k hk => by simp [blkI] at hk; subst hk; exact ⟨hb2.lt, .inl (by simp [resI])⟩) hb2)
/-- a variable made and set at once -/
theorem sp_var {K : Value → World → Prop} (h : Sep b w L) (hz : zerT P t = true) (ht : aggT P t n = true) (hd : ds.length = n) (h1 : ∀ u ∈ ds, u.oneCell' = true) (hk : ∀ g w', Sep b w' (blkI g t ds :: L) → K (.pointer (some ⟨g, 0, none⟩)) w') :
    o1 P (Instr.alloc t true (.tuple #[])) w fun p w => o0 P (Instr.storeAt t p (.agg ds.toArray)) w fun _ w => K p w :=
  sp_newr h hz fun g w1 h1' => sp_setr h1' .hd ht hd h1 fun w2 h2 => hk g w2 h2
/-- the result: set and read -/
theorem sp_ret {K : Value → World → Prop} (h : Sep b w L) (hm : Has L (resI P g t) R) (ht : aggT P t n = true) (hd : ds.length = n) (h1 : ∀ u ∈ ds, u.oneCell' = true) (hk : ∀ w', Sep b w' R → K (.agg ds.toArray) w') :
    o0 P (Instr.storeAt t (.pointer (some ⟨g, 0, none⟩)) (.agg ds.toArray)) w fun _ w => rc P t (.pointer (some ⟨g, 0, none⟩)) w fun r => K r w :=
  sp_setr h hm ht hd h1 fun w' h' => sp_rc h' .hd ht hd (hk w' (h'.drop .hd))
/-- a family's shape -/
structure FamOk {α : Type} (F : Fam α) (n : Nat) : Prop where
  ok : ∀ {cs : List Value} {x : α} {S : Nat → Prop} {w : World}, (F cs x).holds S w → cs.length = n ∧ ∀ u ∈ cs, u.oneCell' = true
theorem Sep.ok {α : Type} {F : Fam α} {n : Nat} (h : Sep b w L) (hF : FamOk F n) {x : α} (hm : Ins L (F cs x).it) : cs.length = n ∧ ∀ u ∈ cs, u.oneCell' = true := hF.ok (h.get hm)
end
end Go.Isk
