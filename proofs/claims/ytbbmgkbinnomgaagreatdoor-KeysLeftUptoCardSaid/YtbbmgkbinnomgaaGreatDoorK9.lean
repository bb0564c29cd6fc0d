/- The document's answer, chapter 2: readers. -/
import Derived.Test.YtbbmgkbinnomgaaGreatDoorRD
import Derived.Test.YtbbmgkbinnomgaaGreatDoorKT
import Derived.Test.YtbbmgkbinnomgaaGreatDoorN
import Derived.Lib.UnsafeStr
import Derived.Lib.ConvBytes
import Derived.Test.YtbbmgkbinnomgaaGreatDoorSL
import Derived.Test.YtbbmgkbinnomgaaGreatDoorTF
import Derived.Test.YtbbmgkbinnomgaaGreatDoorM4
set_option linter.unusedVariables false
set_option linter.unusedSimpArgs false
set_option linter.unusedSectionVars false
namespace Go.Proofs.YtbbmgkbinnomgaaGreatDoor
open Go Go.Isk Go.RowKit
/-- the cells of a reader of the document -/
def RdV (B : Nat → Prop) (w : World) (cs : List Value) (s : Rdr) : Prop := ∃ sv e l, cs = rrdC sv (.int .i64 e) ∧ I64 e ∧ SlS B w sv l.length 1 (u8s l) ∧ l.length ≤ 2147483648 ∧
  (match s with
    | some b => b = l ∧ e = 0
    | none => e ≠ 0)
theorem RdV.keep {B : Nat → Prop} {w w' : World} {cs : List Value} {s : Rdr} {S : Nat → Prop} (h : RdV B w cs s) (hu : Upd S w w') (hs : ∀ k, B k → ¬ S k) : RdV B w' cs s := by
  obtain ⟨sv, e, l, h1, h2, h3, h4, h5⟩ := h
  exact ⟨sv, e, l, h1, h2, h3.keep hu hs, h4, h5⟩
theorem RdV.ext {B : Nat → Prop} {w w' : World} {cs : List Value} {s : Rdr} (h : RdV B w cs s) (hu : Ext w w') : RdV B w' cs s := h.keep hu fun _ _ hf => hf
theorem RdV.len {B : Nat → Prop} {w : World} {cs : List Value} {s : Rdr} (h : RdV B w cs s) : cs.length = 2 := by
  obtain ⟨sv, e, l, rfl, _⟩ := h
  rfl
theorem RdV.one {B : Nat → Prop} {w : World} {cs : List Value} {s : Rdr} (h : RdV B w cs s) : ∀ u ∈ cs, u.oneCell' = true := by
  obtain ⟨sv, e, l, rfl, h2, h3, h4⟩ := h
  intro u hu
  simp only [rrdC, List.mem_cons, List.not_mem_nil, or_false] at hu
  rcases hu with rfl | rfl
  · exact (sl_cells h3.1).2
  · rfl
theorem RdV.mk {B : Nat → Prop} {w : World} {sv : Value} {l : Bytes} (h : SlS B w sv l.length 1 (u8s l)) (hl : l.length ≤ 2147483648) : RdV B w (rrdC sv (.int .i64 0)) (some l) := ⟨sv, 0, l, rfl, by decide, h, hl, rfl, rfl⟩
theorem RdV.mono {B B' : Nat → Prop} {w : World} {cs : List Value} {s : Rdr} (h : RdV B w cs s) (hs : ∀ k, B k → k < w.heap.size → B' k) : RdV B' w cs s := by
  obtain ⟨sv, e, l, h1, h2, h3, h4, h5⟩ := h
  exact ⟨sv, e, l, h1, h2, h3.mono hs, h4, h5⟩
theorem RdV.slice {B : Nat → Prop} {w : World} {cs : List Value} {b : Bytes} (h : RdV B w cs (some b)) : ∃ A c, cs = rrdC (.slice A b.length c) (.int .i64 0) ∧ SlS B w (.slice A b.length c) b.length 1 (u8s b) ∧ b.length ≤ 2147483648 := by
  obtain ⟨sv, e, l, rfl, h2, h3, h4, rfl, rfl⟩ := h
  obtain ⟨A, c, rfl, _⟩ := id h3.1
  exact ⟨A, c, rfl, h3, h4⟩
theorem RdV.dead {B : Nat → Prop} {w : World} {cs : List Value} (h : RdV B w cs none) : ∃ sv e, cs = rrdC sv (.int .i64 e) ∧ e ≠ 0 ∧ I64 e := by
  obtain ⟨sv, e, l, rfl, h2, h3, h4, h5⟩ := h
  exact ⟨sv, e, rfl, h5, h2⟩
end Go.Proofs.YtbbmgkbinnomgaaGreatDoor
set_option linter.unusedVariables false
set_option linter.unusedSimpArgs false
set_option linter.unusedSectionVars false
namespace Go.Proofs.YtbbmgkbinnomgaaGreatDoor
open Go Go.Isk Go.RowKit
section
variable {w : World} {v : Value} {n : Nat} {b : Base} {L : List It}
theorem st_lens {l : List UInt8} {k : Value → World → Prop} (hk : k (.int .i64 l.length) w) : o1 Tryz.prog (Builtin.len_ #[T.string] T.int #[str l]) w k := by
  refine st1 fun k' hk' => ?_
  have e : (⟨l.toArray⟩ : ByteArray).size = l.length := by simp [ByteArray.size]
  simp [go_sem, thenR_ok, str, e]
  exact hk' _ _ hk
theorem st_eqls {x y : Operand} {a c : List UInt8} {k : Value → World → Prop} (hk : k (.bool (decide (a = c))) w) : o1 Tryz.prog (bin .eql T.string x y (str a) (str c)) w k := by
  refine st1 fun k' hk' => ?_
  simp [go_sem, thenR_ok, str, bin]
  rw [show (a == c) = decide (a = c) by rw [Bool.eq_iff_iff]; simp]
  exact hk' _ _ hk
theorem eqls_run {x y : Operand} {a c : List UInt8} (w : World) : (bin .eql T.string x y (str a) (str c)).run Tryz.prog w = .ok (.bool (decide (a = c))) w := by
  simp [go_sem, thenR_ok, str, bin]
  rw [Bool.eq_iff_iff]; simp
theorem nels_run {x y : Operand} {a c : List UInt8} (w : World) : (bin .neq T.string x y (str a) (str c)).run Tryz.prog w = .ok (.bool (!decide (a = c))) w := by
  simp [go_sem, thenR_ok, str, bin]
  rw [Bool.eq_iff_iff]; simp
theorem st_nels {x y : Operand} {a c : List UInt8} {k : Value → World → Prop} (hk : k (.bool (!decide (a = c))) w) : o1 Tryz.prog (bin .neq T.string x y (str a) (str c)) w k := st_of (nels_run w) hk
theorem tk_eqls {x y : Operand} {a c : List UInt8} {k : Value → Prop} {S : World → Prop} (hk : k (.bool (decide (a = c)))) : tk Tryz.prog S (bin .eql T.string x y (str a) (str c)) k := tk_run eqls_run hk
theorem tk_nels {x y : Operand} {a c : List UInt8} {k : Value → Prop} {S : World → Prop} (hk : k (.bool (!decide (a = c)))) : tk Tryz.prog S (bin .neq T.string x y (str a) (str c)) k := tk_run nels_run hk
end
end Go.Proofs.YtbbmgkbinnomgaaGreatDoor
set_option linter.unusedVariables false
set_option linter.unusedSimpArgs false
set_option linter.unusedSectionVars false
namespace Go.Isk
open Go Go.RowKit
section
variable {P : Program} {b : Base} {w : World} {L R : List It} {v : Value} {E n sz g : Nat} {xs cs : List Value} {k : Value → World → Prop}
theorem ixn_run {T E by_ g o n cap j : Nat} {q : IntKind} {i : Int} (hT : slT P T E sz by_ = true) (hj : i = j) (hl : j < n) (w : World) : (Instr.indexAt T (.slice (some ⟨g, o, none⟩) n cap) (.int q i)).run P w = .ok (.pointer (some ⟨g, o + j * sz, none⟩)) w := by
  obtain ⟨h1, hsz, i', z, hi', hz, hs1, hs2, hs3⟩ := slT.spec hT
  subst hj
  simp [Instr.indexAt, asIntOf, run_underlying h1, sizeOf, typeInfo, hi', hs1, Addr.add_mid, hl]
/-- one cell of a row of one's own is set -/
theorem sp_setv {T by_ : Nat} {q : IntKind} {i : Int} {u : Value} (h : Sep b w L) (hm : Has L (rowI v E 1 n xs) R) (hT : slT P T E 1 by_ = true) (hi : (P.info? E).map (·.size) = some 1) (j : Nat) (hj : i = j) (hl : j < n) (hu : u.cells = #[u] ∧ u.oneCell' = true)
    (hk : ∀ w', Sep b w' (rowI v E 1 n (xs.set j u) :: R) → k undef w') : o1 P (Instr.indexAt T v (.int q i)) w fun a w => o0 P (Instr.storeAt E a u) w k := by
  have ho := h.get hm.ins
  obtain ⟨hx, ⟨rfl, rfl⟩ | ⟨g, cap, cur, rfl, hB, hb, hcc, hmx, hsz, htk⟩⟩ := ho
  · omega
  · have hblk : Blk w g E cur.toList := by
      unfold Blk
      rw [hb]
    have hcl : cur.toList.length = cap * 1 := by rw [Array.length_toList, hsz]
    refine st_of (ixn_run hT hj hl w) ?_
    rw [Nat.zero_add, Nat.mul_one]
    refine st_store1 hi hu hblk (by omega) fun w' hb' hu' => hk w' ?_
    refine h.rerow hm (hu'.mono fun k _ e => by simp [Value.ownBlock, e]) (.inl rfl) ⟨by rw [List.length_set]; exact hx, .inr ⟨g, cap, _, rfl, Nat.zero_le _, hb', hcc, hmx, ?_, ?_⟩⟩
    · rw [← hsz]
      simp
    · rw [← htk]
      show (cur.toList.set j u).take (n * 1) = (cur.toList.take (n * 1)).set j u
      rw [List.take_set]
def zoneT (P : Program) (t sz : Nat) : Bool := match P.info? t with
  | some i => match i.zero with
    | some z => Nat.beq z.cells.size sz && z.cells.all fun u => u.oneCell'
    | none => false
  | none => false
theorem own_cap (h : w.ownsRow 0 E sz v n xs) : ∃ A c, v = .slice A n c ∧ n ≤ c := by
  obtain ⟨_, ⟨rfl, rfl⟩ | ⟨g, cap, cur, rfl, _, _, hc, _⟩⟩ := h
  · exact ⟨none, 0, rfl, Nat.le_refl _⟩
  · exact ⟨_, _, rfl, hc⟩
end
end Go.Isk
set_option linter.unusedVariables false
set_option linter.unusedSimpArgs false
set_option linter.unusedSectionVars false
namespace Go.Isk
open Go Go.RowKit
section
variable {P : Program} {b : Base} {w w' : World} {L R : List It} {g o c T E by_ n : Nat} {l : List UInt8} {cs : List Value} {k : Value → World → Prop}
theorem upd_freeze (a : Addr) (m : Nat) : Upd (fun k => k = a.block) w (w.freeze a m) := by
  unfold World.freeze
  split
  · exact Upd.refl
  · refine ⟨rfl, rfl, rfl, by simp, fun k hk hn => ?_⟩
    simp only [Array.getElem?_modify]
    rw [if_neg (fun e => hn e.symm)]
theorem freeze_cell (hb : Blk w g E cs) (i j m : Nat) : (w.freeze ⟨g, j, none⟩ m).cell? ⟨g, i, none⟩ = cs[i]? := by
  unfold World.freeze
  split
  · exact hb.cell i
  · unfold Blk at hb
    simp only [World.cell?, Array.getElem?_modify, if_pos, hb, Option.map_some]
    simp
theorem mark_run (ht : P.underlying T = some (.slice E)) (he : P.underlying E = some (.int .u8)) (hb : Blk w g E cs) (n c : Nat) :
    (convert T T (.slice (some ⟨g, 0, none⟩) n c)).run P w = .ok (.slice (some ⟨g, 0, none⟩) n c) (w.freeze ⟨g, cs.length, none⟩ 1) := by
  have hsh : w.shape? g = some (E, cs.length) := by
    unfold World.shape?
    rw [hb]
    simp
  simp [convert, run_underlying ht, run_underlying he, markStringish, hsh]
/-- bytes of a constant text -/
theorem sp_blit {parts : Array (Nat × Value)} (hs : Sep b w L) (hT : slT P T E 1 by_ = true) (he : P.underlying E = some (.int .u8)) (l : List UInt8) (hp : parts.toList = ((u8s l).zipIdx 0).map fun p => (p.2, p.1)) (hl : l.length = n) (hpos : 0 < n) (hsm : n ≤ 16777216)
    (hk : ∀ v w', Sep b w' ((byF v l).it :: L) → k v w') : o1 P (Instr.buildSlice T n parts) w fun v w => o1 P (convert T T v) w k :=
  st_bslice hT (u8s l) hp (fun v hv => by
    obtain ⟨c, _, rfl⟩ := List.mem_map.1 hv
    rfl) (by rw [u8s_length]; exact hl) hpos (by omega) fun g w1 hb hu hg => by
    have e : ((u8s l).map (·.cells.toList)).flatten = u8s l := by
      rw [u8s, List.map_map]
      exact flat_one l
    rw [e] at hb
    refine st_of (mark_run (slT.spec hT).1 he hb n n) ?_
    have hu2 : Ext w (w1.freeze ⟨g, (u8s l).length, none⟩ 1) := hu.trans (upd_freeze _ _) fun k hk e => by
      have e : k = g := e
      omega
    refine hk _ _ ((hs.ext hu2).fresh hs (fun _ h => h) ⟨_, _, by rw [hl], Nat.le_of_eq hl, by rw [Nat.mul_one]; exact u8s_length .., fun _ => ⟨g, 0, rfl, fun j v hv => ?_⟩⟩ fun k hk => ?_)
    · rw [Nat.zero_add, freeze_cell hb]; exact hv
    · simp only [Value.ownBlock, Option.some.injEq] at hk
      omega
/-- .. in two steps: the row, and the mark -/
theorem sp_brow {parts : Array (Nat × Value)} (hs : Sep b w L) (hT : slT P T E 1 by_ = true) (l : List UInt8) (hp : parts.toList = ((u8s l).zipIdx 0).map fun p => (p.2, p.1)) (hl : l.length = n) (hpos : 0 < n) (hsm : n ≤ 16777216)
    (hk : ∀ g w', Sep b w' (blkI g E (u8s l) :: L) → k (.slice (some ⟨g, 0, none⟩) n n) w') : o1 P (Instr.buildSlice T n parts) w k :=
  st_bslice hT (u8s l) hp (fun v hv => by
    obtain ⟨c, _, rfl⟩ := List.mem_map.1 hv
    rfl) (by rw [u8s_length]; exact hl) hpos (by omega) fun g w1 hb hu hg => by
    have e : ((u8s l).map (·.cells.toList)).flatten = u8s l := by
      rw [u8s, List.map_map]
      exact flat_one l
    rw [e] at hb
    exact hk _ _ (hs.add (I := blkI g E (u8s l)) hu (fun k hk => by
      simp only [blkI, List.mem_cons, List.not_mem_nil, or_false] at hk
      subst hk
      exact ⟨hb.lt, hg⟩) hb)
theorem sp_mark (hs : Sep b w (blkI g E (u8s l) :: R)) (hT : slT P T E 1 by_ = true) (he : P.underlying E = some (.int .u8)) (hl : l.length = n) (hk : ∀ w', Sep b w' ((byF (.slice (some ⟨g, 0, none⟩) n n) l).it :: R) → k (.slice (some ⟨g, 0, none⟩) n n) w') :
    o1 P (convert T T (.slice (some ⟨g, 0, none⟩) n n)) w k := by
  have hb : Blk w g E (u8s l) := hs.get .hd
  refine st_of (mark_run (slT.spec hT).1 he hb n n) (hk _ ?_)
  have hu : Upd (fun k => k = g) w (w.freeze ⟨g, (u8s l).length, none⟩ 1) := upd_freeze ⟨g, (u8s l).length, none⟩ 1
  refine hs.turn .hd hu (fun k _ e => by simp [blkI, e]) (fun k hk => by simp [Fact.it] at hk) ⟨⟨_, _, by rw [hl], Nat.le_of_eq hl, by rw [Nat.mul_one]; exact u8s_length .., fun _ => ⟨g, 0, rfl, fun j v hv => ?_⟩⟩, fun _ k hk => ?_⟩
  · rw [Nat.zero_add, freeze_cell hb]; exact hv
  · simp only [Value.ownBlock, Option.some.injEq] at hk
    subst hk
    refine ⟨Nat.lt_of_lt_of_le hb.lt hu.size, fun ⟨J, h1, h2⟩ => ?_⟩
    rcases List.mem_cons.1 h1 with rfl | h1
    · simp [Fact.it] at h2
    · exact (List.pairwise_cons.1 hs.ap).1 J h1 g (by simp [blkI]) h2
end
end Go.Isk
set_option linter.unusedVariables false
set_option linter.unusedSimpArgs false
set_option linter.unusedSectionVars false
namespace Go.Isk
open Go Go.RowKit
section
variable {P : Program} {b : Base} {w w' : World} {L R : List It} {g o c T E by_ n S : Nat} {l : List UInt8} {cs : List Value} {k : Value → World → Prop}
theorem sp_tob {u : TypeDesc} (hs : Sep b w L) (hT : slT P T E 1 by_ = true) (he : P.underlying E = some (.int .u8)) (hS : P.underlying S = some u)
    (hk : ∀ v w', Sep b w' ((byF v l).it :: L) → k v w') : o1 P (convert S T (str l)) w k := by
  refine st_of (Lib.run_convert_string_bytes w S T E ⟨l.toArray⟩ hS (slT.spec hT).1 he) (hk _ _ ?_)
  have hc : Lib.bytesCells w E ⟨l.toArray⟩ = (u8s l ++ List.replicate (grownCap w l.length 0 E - l.length) (Value.int .u8 0)).toArray := by
    apply Array.ext'
    simp [Lib.bytesCells, u8s, ByteArray.size]
  have hz : (⟨l.toArray⟩ : ByteArray).size = l.length := by simp [ByteArray.size]
  unfold Lib.bytesWorld
  rw [hc, hz]
  have hcap := grownCap_ge w l.length 0 E
  generalize grownCap w l.length 0 E = cap at hcap
  generalize hcs : u8s l ++ List.replicate (cap - l.length) (Value.int .u8 0) = cs
  have hb : Blk (w.drew.alloc (.cells cs.toArray E)) w.heap.size E cs := Blk.new
  have hu2 : Ext w ((w.drew.alloc (.cells cs.toArray E)).freeze ⟨w.heap.size, cs.toArray.size, none⟩ 1) := (Upd.alloc upd_drew _).trans (upd_freeze _ _) fun k hk e => by
    have e : k = w.heap.size := e
    omega
  refine (hs.ext hu2).fresh hs (fun _ h => h) ⟨_, _, rfl, hcap, by rw [Nat.mul_one]; exact u8s_length .., fun _ => ⟨w.heap.size, 0, rfl, fun j v hv => ?_⟩⟩ fun k hk => ?_
  · rw [Nat.zero_add, freeze_cell hb, ← hcs, List.getElem?_append_left (by
      have := (List.getElem?_eq_some_iff.1 hv).1
      exact this)]
    exact hv
  · simp only [Value.ownBlock, Option.some.injEq] at hk
    omega
end
section
variable {P : Program} {b : Base} {w w' : World} {L R : List It} {E by_ sz T : Nat} {sv x : Value} {α : Type} {F : Fam α} {ls ms : List α} {k : Value → World → Prop} {S : Nat → Prop}
theorem allF.app {xss yss : List (List Value)} (h1 : allF F xss ls S w) (h2 : allF F yss ms S w) : allF F (xss ++ yss) (ls ++ ms) S w := by
  refine ⟨by simp [h1.1, h2.1], fun i hi y hy => ?_⟩
  rcases Nat.lt_or_ge i ls.length with hlt | hge
  · rw [List.getElem?_append_left (by have := h1.1; omega)] at hy
    rw [List.getElem_append_left hlt]
    exact h1.2 i hlt y hy
  · have := h1.1
    rw [List.getElem?_append_right (by omega), h1.1] at hy
    rw [List.getElem_append_right hge]
    exact h2.2 _ (by simp only [List.length_append] at hi; omega) y hy
/-- the begin and the rest of a list -/
theorem lst_to (h : Sep b w L) (hm : Ins L (listF F sz sv ls).it) (hT : slT P T E sz by_ = true) (i : Nat) (hi : i ≤ ls.length) (q : IntKind) :
    ∃ v, (∀ w', (Instr.sliceAt T sv none (some (.int q (i : Nat))) none).run P w' = .ok v w') ∧ Sep b w ((listF F sz v (ls.take i)).it :: L) := by
  obtain ⟨xss, h1, h2, h3⟩ := h.get hm
  obtain ⟨v', hr, hs, ho⟩ := sl_to hT h3.1 i hi q
  refine ⟨v', hr, h.fact ⟨xss.take i, h1.take i, fun x hx => h2 x (List.mem_of_mem_take hx), ?_, fun hn k hk => ?_⟩⟩
  · rw [flatten_take i h2 (by rw [h1.1]; exact hi), show (ls.take i).length = i by simp; omega]; exact hs
  · refine h3.2 (Nat.lt_of_lt_of_le hn (Nat.mul_le_mul_right _ (by rw [List.length_take]; exact Nat.min_le_right _ _))) k (ho ▸ hk)
theorem lst_fr (h : Sep b w L) (hm : Ins L (listF F sz sv ls).it) (hT : slT P T E sz by_ = true) (i : Nat) (hi : i ≤ ls.length) (q : IntKind) :
    ∃ v', (∀ w, (Instr.sliceAt T sv (some (.int q i)) none none).run P w = .ok v' w) ∧ Sep b w ((listF F sz v' (ls.drop i)).it :: L) := by
  obtain ⟨xss, h1, h2, h3⟩ := h.get hm
  obtain ⟨v', hr, hs, ho⟩ := sl_from hT h3.1 i hi q
  refine ⟨v', hr, h.fact ⟨xss.drop i, h1.drop i, fun x hx => h2 x (List.mem_of_mem_drop hx), ?_, fun hn k hk => ?_⟩⟩
  · rw [flatten_drop i h2 (by rw [h1.1]; exact hi), show (ls.drop i).length = ls.length - i by simp]; exact hs
  · refine h3.2 (Nat.lt_of_lt_of_le hn (Nat.mul_le_mul_right _ (by simp))) k (ho ▸ hk)
end
end Go.Isk
set_option linter.unusedVariables false
set_option linter.unusedSimpArgs false
set_option linter.unusedSectionVars false
namespace Go.Proofs.YtbbmgkbinnomgaaGreatDoor
open Go Go.Isk Go.RowKit
section
variable {S S' D : Nat → Prop} {w w' : World} {v : Value} {n sz : Nat} {xs cs : List Value} {b : Base} {L R : List It} {g : Nat} {sv : Value}
def VoteS (S : Nat → Prop) (w : World) (cs : List Value) (v : Vote) : Prop :=
  ∃ sv, cs = voteC (.int .i64 v.kind) (.int .i64 v.height) (.int .i64 v.round) (u8s v.block) (.int .i64 v.validator) sv ∧ v.ok ∧ SlS S w sv v.sign.length 1 (u8s v.sign)
theorem VoteS.keep {x : Vote} (h : VoteS S w cs x) (hu : Upd D w w') (hd : ∀ k, S k → ¬ D k) : VoteS S w' cs x := by
  obtain ⟨sv, rfl, hok, h⟩ := h
  exact ⟨sv, rfl, hok, h.keep hu hd⟩
theorem VoteS.mono {x : Vote} (h : VoteS S w cs x) (hs : ∀ k, S k → k < w.heap.size → S' k) : VoteS S' w cs x := by
  obtain ⟨sv, rfl, hok, h⟩ := h
  exact ⟨sv, rfl, hok, h.mono hs⟩
theorem VoteS.is {x : Vote} (h : VoteS S w cs x) : VoteIs w.heap.size w cs x := by
  obtain ⟨sv, rfl, hok, h⟩ := h
  exact ⟨sv, rfl, hok, h.1.b⟩
def voteF : Fam Vote := fun cs v => ⟨fun S w => VoteS S w cs v, VoteS.keep, VoteS.mono⟩
def CommS (S : Nat → Prop) (w : World) (cs : List Value) (c : Commit) : Prop :=
  ∃ sv, cs = commC (.int .i64 c.height) (.int .i64 c.round) (u8s c.block) sv ∧ c.ok ∧ (listF voteF 37 sv c.votes).holds S w
theorem CommS.keep {x : Commit} (h : CommS S w cs x) (hu : Upd D w w') (hd : ∀ k, S k → ¬ D k) : CommS S w' cs x := by
  obtain ⟨sv, rfl, hok, h⟩ := h
  exact ⟨sv, rfl, hok, (listF voteF 37 sv _).keep h hu hd⟩
theorem CommS.mono {x : Commit} (h : CommS S w cs x) (hs : ∀ k, S k → k < w.heap.size → S' k) : CommS S' w cs x := by
  obtain ⟨sv, rfl, hok, h⟩ := h
  exact ⟨sv, rfl, hok, (listF voteF 37 sv _).mono h hs⟩
def commF : Fam Commit := fun cs c => ⟨fun S w => CommS S w cs c, CommS.keep, CommS.mono⟩
theorem listS_is {α : Type} {F : Fam α} {R : List Value → α → Prop} {ls : List α} (h : (listF F sz sv ls).holds S w) (hR : ∀ x a, (F x a).holds S w → R x a) : ListIs R w.heap.size w sv sz ls := by
  obtain ⟨xss, h1, h2, h3⟩ := h
  exact ⟨xss, h1.1, fun i hi x hx => hR _ _ (h1.2 i hi x hx), h2, h3.1.b⟩
theorem CommS.is {x : Commit} (h : CommS S w cs x) : CommIs w.heap.size w cs x := by
  obtain ⟨sv, rfl, hok, h⟩ := h
  exact ⟨sv, rfl, hok, listS_is h fun _ _ h => VoteS.is h⟩
def headF : Fam Header := fun cs h => pureF (HeadIs cs h)
def valiF : Fam Validator := fun cs v => pureF (ValiIs cs v)
def BlokS (S : Nat → Prop) (w : World) (cs : List Value) (b : Block) : Prop :=
  ∃ hc sv cc, cs = blokC hc sv cc ∧ HeadIs hc b.header ∧ (listF bytesF 1 sv b.txs).holds S w ∧ CommS S w cc b.last
theorem BlokS.keep {x : Block} (h : BlokS S w cs x) (hu : Upd D w w') (hd : ∀ k, S k → ¬ D k) : BlokS S w' cs x := by
  obtain ⟨hc, sv, cc, rfl, h1, h2, h3⟩ := h
  exact ⟨hc, sv, cc, rfl, h1, (listF bytesF 1 sv _).keep h2 hu hd, h3.keep hu hd⟩
theorem BlokS.mono {x : Block} (h : BlokS S w cs x) (hs : ∀ k, S k → k < w.heap.size → S' k) : BlokS S' w cs x := by
  obtain ⟨hc, sv, cc, rfl, h1, h2, h3⟩ := h
  exact ⟨hc, sv, cc, rfl, h1, (listF bytesF 1 sv _).mono h2 hs, h3.mono hs⟩
def blokF : Fam Block := fun cs c => ⟨fun S w => BlokS S w cs c, BlokS.keep, BlokS.mono⟩
theorem BlokS.is {x : Block} (h : BlokS S w cs x) : BlokIs w.heap.size w cs x := by
  obtain ⟨hc, sv, cc, rfl, h1, h2, h3⟩ := h
  refine ⟨hc, sv, cc, rfl, h1, listS_is h2 ?_, h3.is⟩
  rintro _ t ⟨x, rfl, h⟩
  exact ⟨x, rfl, h.1.b⟩
/-- the reader at block g -/
def rdI (g : Nat) (s : Rdr) : It := ⟨[g], fun S w => ∃ B, Rd B w g s ∧ ∀ k, B k → S k,
  fun ⟨B, h1, h2⟩ hu hd => ⟨B, h1.keep hu (hd g (.inl (by simp))) fun k hk => hd k (.inr (h2 k hk)), h2⟩,
  fun ⟨B, h1, h2⟩ hs => ⟨fun k => B k ∧ k < _, h1.mono (fun k hk hl => ⟨hk, hl⟩) fun q => h1.out q.1, fun k hk => hs k (h2 k hk.1) hk.2⟩⟩
/-- a method of a reader -/
theorem rd_call {f : Nat} {args : Array Value} {s s' : Rdr} {Q : Value → World → Prop} (h : Sep b w L) (hm : Has L (rdI g s) R)
    (hc : ∀ B, Rd B w g s → C Tryz.prog f args w fun r w' => Q r w' ∧ Rd B w' g s' ∧ Upd (fun k => k = g) w w') : C Tryz.prog f args w fun r w' => Q r w' ∧ Upd (fun k => k = g) w w' ∧ Sep b w' (rdI g s' :: R) := by
  obtain ⟨B, h1, h2⟩ := h.get hm.ins
  refine (hc _ (h1.mono (B' := fun k => B k ∧ k < w.heap.size) (fun k hk hl => ⟨hk, hl⟩) fun q => h1.out q.1)).mono fun r w' ⟨q, h3, hu⟩ => ⟨q, hu, ?_⟩
  refine h.turn hm hu (fun k _ e => by simp [rdI, e]) (fun k hk => by simp [rdI] at hk; subst hk; exact ⟨h3.lt, .inl (by simp [rdI])⟩) ⟨_, h3, fun k hk => ⟨Nat.lt_of_lt_of_le hk.2 hu.size, fun hmm => ?_⟩⟩
  have := h2 k hk.1
  refine this.2 ((mine_perm hm.perm k).2 ?_)
  exact mine_same (I := rdI g s') (J := rdI g s) rfl hmm
theorem rd_new {l : Bytes} {Q Q' : Rdr} (h : Sep b w' (rdI g Q :: R)) (hR : Sep b w L) (hm : Has L (rdI g Q') R) (hu : Upd (fun k => k = g) w w') (hs : Sl w' v l.length 1 (u8s l)) (hf : ∀ k, v.ownBlock = some k → w.heap.size ≤ k) : Sep b w' ((byF v l).it :: rdI g Q :: R) :=
  h.fact ⟨hs, fun h0 k hk => ⟨hs.b.2 h0 k hk, fun hmm => by
    have h1 := hf k hk
    have h2 : Mine (rdI g Q' :: R) k := mine_same (I := rdI g Q) (J := rdI g Q') rfl hmm
    have := (hR.new k ((mine_perm hm.perm k).2 h2)).1
    omega⟩⟩
variable {s : Rdr} {most : Nat}
theorem sp_Read {l : Bytes} (h : Sep b w L) (hm : Ins L (byF v l).it) (hl : l.length ≤ 2147483648) : C Tryz.prog N.pack_Read #[v] w fun r w' => ∃ g, r = .pointer (some ⟨g, 0, none⟩) ∧ Sep b w' (rdI g (some l) :: L) := by
  have hs : SlS (fun k => Stb w L k) w v l.length 1 (u8s l) := h.get hm
  refine (pack_Read hs hl fun k hk => hk.1).mono fun r w' ⟨g, e, h1, hu, hg⟩ => ⟨g, e, ?_⟩
  refine h.add (I := rdI g (some l)) hu (by simp [rdI, h1.lt, hg]) ⟨_, h1, fun k hk => ⟨Nat.lt_of_lt_of_le hk.1 hu.size, fun hmm => ?_⟩⟩
  rcases mine_app.1 (show Mine ([rdI g (some l)] ++ L) k from hmm) with h5 | h5
  · have : k = g := by simpa [rdI] using mine_one.1 h5
    have := hk.1; omega
  · exact hk.2 h5
theorem sp_rHash (h : Sep b w L) (hm : Has L (rdI g s) R) : C Tryz.prog N.pack_Reader_Hash #[.pointer (some ⟨g, 0, none⟩)] w fun r w' => r = .agg (u8s (rH s).2).toArray ∧ Sep b w' (rdI g (rH s).1 :: R) :=
  (rd_call h hm fun B hB => pack_Reader_Hash hB).mono fun r w' ⟨h1, _, h2⟩ => ⟨h1, h2⟩
theorem sp_rBytes (h : Sep b w L) (hm : Has L (rdI g s) R) (hl : most ≤ 2147483648) : C Tryz.prog N.pack_Reader_Bytes #[.pointer (some ⟨g, 0, none⟩), .int .i64 most] w fun r w' => Sep b w' ((byF r (rB most s).2).it :: rdI g (rB most s).1 :: R) :=
  (rd_call (Q := fun r w' => Sl w' r (rB most s).2.length 1 (u8s (rB most s).2) ∧ ∀ k, r.ownBlock = some k → w.heap.size ≤ k) h hm fun B hB => (pack_Reader_Bytes hB hl).mono fun r w' ⟨h1, h2, h3, h4⟩ => ⟨⟨h1, h2⟩, h3, h4⟩).mono fun r w' ⟨⟨h1, h2⟩, hu, h3⟩ => rd_new h3 h hm hu h1 h2
theorem sp_rDone (h : Sep b w L) (hm : Has L (rdI g s) R) : C Tryz.prog N.pack_Reader_Done #[.pointer (some ⟨g, 0, none⟩)] w fun r w' => (s = some [] → r = .nilIface) ∧ (s ≠ some [] → ∃ t x, r = .iface t x) ∧ Sep b w' L := by
  obtain ⟨B, h1, h2⟩ := h.get hm.ins
  exact (pack_Reader_Done h1).mono fun r w' ⟨q1, q2, q3⟩ => ⟨q1, q2, h.ext q3⟩
/-- the cells of a reader of the document -/
def rdvF (cs : List Value) (s : Rdr) : Fact := ⟨fun S w => RdV S w cs s, RdV.keep, fun h hs => h.mono hs⟩
theorem rdvF.len {s : Rdr} {cs : List Value} (h : Sep b w L) (hm : Ins L (rdvF cs s).it) : cs.length = 2 ∧ ∀ u ∈ cs, u.oneCell' = true := by
  have : RdV _ _ _ _ := h.get hm
  exact ⟨this.len, this.one⟩
end
end Go.Proofs.YtbbmgkbinnomgaaGreatDoor
