/- Bytes of constant texts. -/
import Derived.Test.YtgagekffmamldaaGreatDoorKX
import Derived.Lib.UnsafeStr
import Derived.Lib.ConvBytes
set_option linter.unusedVariables false
set_option linter.unusedSimpArgs false
set_option linter.unusedSectionVars false
namespace Go.Isk
open Go Go.RowKit
section
variable {P : Program} {b : Base} {w w' : World} {L R : List It} {g o c T E by_ n : Nat} {l : List UInt8} {cs : List Value} {k : Value → World → Prop}
theorem upd_freeze (a : Addr) (m : Nat) : Upd (fun k => k = a.block) w (w.freeze a m) := by
  unfold World.freeze
  split
  · exact Upd.refl
  · refine ⟨rfl, rfl, rfl, by simp, fun k hk hn => ?_⟩
    simp only [Array.getElem?_modify]
    rw [if_neg (fun e => hn e.symm)]
theorem freeze_cell (hb : Blk w g E cs) (i j m : Nat) : (w.freeze ⟨g, j, none⟩ m).cell? ⟨g, i, none⟩ = cs[i]? := by
  unfold World.freeze
  split
  · exact hb.cell i
  · unfold Blk at hb
    simp only [World.cell?, Array.getElem?_modify, if_pos, hb, Option.map_some]
    simp
theorem mark_run (ht : P.underlying T = some (.slice E)) (he : P.underlying E = some (.int .u8)) (hb : Blk w g E cs) (n c : Nat) :
    (convert T T (.slice (some ⟨g, 0, none⟩) n c)).run P w = .ok (.slice (some ⟨g, 0, none⟩) n c) (w.freeze ⟨g, cs.length, none⟩ 1) := by
  have hsh : w.shape? g = some (E, cs.length) := by
    unfold World.shape?
    rw [hb]
    simp
  simp [convert, run_underlying ht, run_underlying he, markStringish, hsh]
/-- bytes of a constant text -/
theorem sp_blit {parts : Array (Nat × Value)} (hs : Sep b w L) (hT : slT P T E 1 by_ = true) (he : P.underlying E = some (.int .u8)) (l : List UInt8) (hp : parts.toList = ((u8s l).zipIdx 0).map fun p => (p.2, p.1)) (hl : l.length = n) (hpos : 0 < n) (hsm : n ≤ 16777216)
    (hk : ∀ v w', Sep b w' ((byF v l).it :: L) → k v w') : o1 P (Instr.buildSlice T n parts) w fun v w => o1 P (convert T T v) w k :=
  st_bslice hT (u8s l) hp (fun v hv => by
    obtain ⟨c, _, rfl⟩ := List.mem_map.1 hv
    rfl) (by rw [u8s_length]; exact hl) hpos (by omega) fun g w1 hb hu hg => by
    have e : ((u8s l).map (·.cells.toList)).flatten = u8s l := by
      rw [u8s, List.map_map]
      exact flat_one l
    rw [e] at hb
    refine st_of (mark_run (slT.spec hT).1 he hb n n) ?_
    have hu2 : Ext w (w1.freeze ⟨g, (u8s l).length, none⟩ 1) := hu.trans (upd_freeze _ _) fun k hk e => by
      have e : k = g := e
      omega
    refine hk _ _ ((hs.ext hu2).fresh hs (fun _ h => h) ⟨_, _, by rw [hl], Nat.le_of_eq hl, by rw [Nat.mul_one]; exact u8s_length .., fun _ => ⟨g, 0, rfl, fun j v hv => ?_⟩⟩ fun k hk => ?_)
    · rw [Nat.zero_add, freeze_cell hb]; exact hv
    · simp only [Value.ownBlock, Option.some.injEq] at hk
      omega
/-- .. in two steps: the row, and the mark -/
theorem sp_brow {parts : Array (Nat × Value)} (hs : Sep b w L) (hT : slT P T E 1 by_ = true) (l : List UInt8) (hp : parts.toList = ((u8s l).zipIdx 0).map fun p => (p.2, p.1)) (hl : l.length = n) (hpos : 0 < n) (hsm : n ≤ 16777216)
    (hk : ∀ g w', Sep b w' (blkI g E (u8s l) :: L) → k (.slice (some ⟨g, 0, none⟩) n n) w') : o1 P (Instr.buildSlice T n parts) w k :=
  st_bslice hT (u8s l) hp (fun v hv => by
    obtain ⟨c, _, rfl⟩ := List.mem_map.1 hv
    rfl) (by rw [u8s_length]; exact hl) hpos (by omega) fun g w1 hb hu hg => by
    have e : ((u8s l).map (·.cells.toList)).flatten = u8s l := by
      rw [u8s, List.map_map]
      exact flat_one l
    rw [e] at hb
    exact hk _ _ (hs.add (I := blkI g E (u8s l)) hu (fun k hk => by
      simp only [blkI, List.mem_cons, List.not_mem_nil, or_false] at hk
      subst hk
      exact ⟨hb.lt, hg⟩) hb)
theorem sp_mark (hs : Sep b w (blkI g E (u8s l) :: R)) (hT : slT P T E 1 by_ = true) (he : P.underlying E = some (.int .u8)) (hl : l.length = n) (hk : ∀ w', Sep b w' ((byF (.slice (some ⟨g, 0, none⟩) n n) l).it :: R) → k (.slice (some ⟨g, 0, none⟩) n n) w') :
    o1 P (convert T T (.slice (some ⟨g, 0, none⟩) n n)) w k := by
  have hb : Blk w g E (u8s l) := hs.get .hd
  refine st_of (mark_run (slT.spec hT).1 he hb n n) (hk _ ?_)
  have hu : Upd (fun k => k = g) w (w.freeze ⟨g, (u8s l).length, none⟩ 1) := upd_freeze ⟨g, (u8s l).length, none⟩ 1
  refine hs.turn .hd hu (fun k _ e => by simp [blkI, e]) (fun k hk => by simp [Fact.it] at hk) ⟨⟨_, _, by rw [hl], Nat.le_of_eq hl, by rw [Nat.mul_one]; exact u8s_length .., fun _ => ⟨g, 0, rfl, fun j v hv => ?_⟩⟩, fun _ k hk => ?_⟩
  · rw [Nat.zero_add, freeze_cell hb]; exact hv
  · simp only [Value.ownBlock, Option.some.injEq] at hk
    subst hk
    refine ⟨Nat.lt_of_lt_of_le hb.lt hu.size, fun ⟨J, h1, h2⟩ => ?_⟩
    rcases List.mem_cons.1 h1 with rfl | h1
    · simp [Fact.it] at h2
    · exact (List.pairwise_cons.1 hs.ap).1 J h1 g (by simp [blkI]) h2
end
end Go.Isk
set_option linter.unusedVariables false
set_option linter.unusedSimpArgs false
set_option linter.unusedSectionVars false
namespace Go.Isk
open Go Go.RowKit
section
variable {P : Program} {b : Base} {w w' : World} {L R : List It} {g o c T E by_ n S : Nat} {l : List UInt8} {cs : List Value} {k : Value → World → Prop}
theorem sp_tob {u : TypeDesc} (hs : Sep b w L) (hT : slT P T E 1 by_ = true) (he : P.underlying E = some (.int .u8)) (hS : P.underlying S = some u)
    (hk : ∀ v w', Sep b w' ((byF v l).it :: L) → k v w') : o1 P (convert S T (str l)) w k := by
  refine st_of (Lib.run_convert_string_bytes w S T E ⟨l.toArray⟩ hS (slT.spec hT).1 he) (hk _ _ ?_)
  have hc : Lib.bytesCells w E ⟨l.toArray⟩ = (u8s l ++ List.replicate (grownCap w l.length 0 E - l.length) (Value.int .u8 0)).toArray := by
    apply Array.ext'
    simp [Lib.bytesCells, u8s, ByteArray.size]
  have hz : (⟨l.toArray⟩ : ByteArray).size = l.length := by simp [ByteArray.size]
  unfold Lib.bytesWorld
  rw [hc, hz]
  have hcap := grownCap_ge w l.length 0 E
  generalize grownCap w l.length 0 E = cap at hcap
  generalize hcs : u8s l ++ List.replicate (cap - l.length) (Value.int .u8 0) = cs
  have hb : Blk (w.drew.alloc (.cells cs.toArray E)) w.heap.size E cs := Blk.new
  have hu2 : Ext w ((w.drew.alloc (.cells cs.toArray E)).freeze ⟨w.heap.size, cs.toArray.size, none⟩ 1) := (Upd.alloc upd_drew _).trans (upd_freeze _ _) fun k hk e => by
    have e : k = w.heap.size := e
    omega
  refine (hs.ext hu2).fresh hs (fun _ h => h) ⟨_, _, rfl, hcap, by rw [Nat.mul_one]; exact u8s_length .., fun _ => ⟨w.heap.size, 0, rfl, fun j v hv => ?_⟩⟩ fun k hk => ?_
  · rw [Nat.zero_add, freeze_cell hb, ← hcs, List.getElem?_append_left (by
      have := (List.getElem?_eq_some_iff.1 hv).1
      exact this)]
    exact hv
  · simp only [Value.ownBlock, Option.some.injEq] at hk
    omega
end
section
variable {P : Program} {b : Base} {w w' : World} {L R : List It} {E by_ sz T : Nat} {sv x : Value} {α : Type} {F : Fam α} {ls ms : List α} {k : Value → World → Prop} {S : Nat → Prop}
theorem allF.app {xss yss : List (List Value)} (h1 : allF F xss ls S w) (h2 : allF F yss ms S w) : allF F (xss ++ yss) (ls ++ ms) S w := by
  refine ⟨by simp [h1.1, h2.1], fun i hi y hy => ?_⟩
  rcases Nat.lt_or_ge i ls.length with hlt | hge
  · rw [List.getElem?_append_left (by have := h1.1; omega)] at hy
    rw [List.getElem_append_left hlt]
    exact h1.2 i hlt y hy
  · have := h1.1
    rw [List.getElem?_append_right (by omega), h1.1] at hy
    rw [List.getElem_append_right hge]
    exact h2.2 _ (by simp only [List.length_append] at hi; omega) y hy
/-- a whole list is laid behind one's own -/
theorem sp_pushL {T' : TypeId} (h : Sep b w L) (hm : Has L (growI F E sz sv ls) R) (hT : slT P T E sz by_ = true) (hx : Ins R (listF F sz x ms).it) (hF : FamOk F sz)
    (hl : (ls.length + ms.length) * by_ ≤ 140737488355328) (hn : ls.length + ms.length ≤ 140737488355328)
    (hk : ∀ v' w', Sep b w' (growI F E sz v' (ls ++ ms) :: R) → k v' w') : ob P (fun _ => Builtin.append_ #[T, T] T' #[sv, x]) w k := by
  obtain ⟨xss, q1, q2, q3⟩ := h.get hm.ins
  have hRp : Sep b w (growI F E sz sv ls :: R) := h.perm hm.perm
  obtain ⟨yss, r1, r2, r3⟩ := hRp.holds _ (List.mem_cons_of_mem _ hx.mem)
  have h1 : ∀ u ∈ yss.flatten, u.oneCell' = true := fun u hu => by
    obtain ⟨y, hy, hu⟩ := List.mem_flatten.1 hu
    obtain ⟨i, hi, rfl⟩ := List.mem_iff_getElem.1 hy
    exact (hF.ok (r1.2 i (by rw [← r1.1]; exact hi) _ (List.getElem?_eq_getElem hi))).2 u hu
  refine st_app hT q3 r3.1 h1 hl hn (Nat.zero_le _) fun v' w' ho hu hv => hk v' w' ?_
  have hS : ∀ k, Stb w L k → ¬ sv.ownBlock = some k := fun k hk e => hk.2 ⟨_, hm.ins.mem, by simp [growI, e]⟩
  have hfa' : allF F yss ms (Stb w L) w := r1.mono fun k hk _ => ⟨hk.1, fun hmm => hk.2 ((mine_perm hm.perm k).1 hmm)⟩
  refine h.turn hm hu (fun k _ e => by simp [growI, e]) (fun k hk => ⟨own_ids ho k hk, ?_⟩) ?_
  · have hk : v'.ownBlock = some k := by simpa [growI] using hk
    rcases hv with e | ⟨k', e, hk'⟩
    · exact .inl (by simp [growI, ← e, hk])
    · rw [e] at hk; cases hk; exact .inr hk'
  · refine ⟨xss ++ yss, ((q1.app hfa').keep hu hS).mono fun k hk _ => ⟨Nat.lt_of_lt_of_le hk.1 hu.size, fun hmm => ?_⟩, fun y hy => ?_, by rw [List.length_append, List.flatten_append]; exact ho⟩
    · rcases mine_app.1 (show Mine ([growI F E sz v' (ls ++ ms)] ++ R) k from hmm) with h5 | h5
      · have h5 : v'.ownBlock = some k := by simpa [growI] using mine_one.1 h5
        rcases hv with e | ⟨k', e, hk'⟩
        · exact hS k hk (e ▸ h5)
        · rw [e] at h5; cases h5; have := hk.1; omega
      · exact hk.2 ((mine_perm hm.perm k).2 (mine_app.2 (.inr h5) : Mine ([growI F E sz sv ls] ++ R) k))
    · rcases List.mem_append.1 hy with hy | hy
      · exact q2 y hy
      · exact r2 y hy
/-- the begin and the rest of a list -/
theorem lst_to (h : Sep b w L) (hm : Ins L (listF F sz sv ls).it) (hT : slT P T E sz by_ = true) (i : Nat) (hi : i ≤ ls.length) (q : IntKind) :
    ∃ v, (∀ w', (Instr.sliceAt T sv none (some (.int q (i : Nat))) none).run P w' = .ok v w') ∧ Sep b w ((listF F sz v (ls.take i)).it :: L) := by
  obtain ⟨xss, h1, h2, h3⟩ := h.get hm
  obtain ⟨v', hr, hs, ho⟩ := sl_to hT h3.1 i hi q
  refine ⟨v', hr, h.fact ⟨xss.take i, h1.take i, fun x hx => h2 x (List.mem_of_mem_take hx), ?_, fun hn k hk => ?_⟩⟩
  · rw [flatten_take i h2 (by rw [h1.1]; exact hi), show (ls.take i).length = i by simp; omega]; exact hs
  · refine h3.2 (Nat.lt_of_lt_of_le hn (Nat.mul_le_mul_right _ (by rw [List.length_take]; exact Nat.min_le_right _ _))) k (ho ▸ hk)
theorem lst_fr (h : Sep b w L) (hm : Ins L (listF F sz sv ls).it) (hT : slT P T E sz by_ = true) (i : Nat) (hi : i ≤ ls.length) (q : IntKind) :
    ∃ v', (∀ w, (Instr.sliceAt T sv (some (.int q i)) none none).run P w = .ok v' w) ∧ Sep b w ((listF F sz v' (ls.drop i)).it :: L) := by
  obtain ⟨xss, h1, h2, h3⟩ := h.get hm
  obtain ⟨v', hr, hs, ho⟩ := sl_from hT h3.1 i hi q
  refine ⟨v', hr, h.fact ⟨xss.drop i, h1.drop i, fun x hx => h2 x (List.mem_of_mem_drop hx), ?_, fun hn k hk => ?_⟩⟩
  · rw [flatten_drop i h2 (by rw [h1.1]; exact hi), show (ls.drop i).length = ls.length - i by simp]; exact hs
  · refine h3.2 (Nat.lt_of_lt_of_le hn (Nat.mul_le_mul_right _ (by simp))) k (ho ▸ hk)
end
end Go.Isk
