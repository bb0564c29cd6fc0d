/- Slices cut to their length, and appended to. -/
import Derived.Test.YtiaiglgfangedaaDoorKM
import Derived.Test.YtiaiglgfangedaaDoorFL
import Derived.Test.YtiaiglgfangedaaDoorKF
import Derived.Deep.AppendSrc
import Derived.Deep.Upon
set_option linter.unusedVariables false
set_option linter.unusedSimpArgs false
set_option linter.unusedSectionVars false
namespace Go.Isk
open Go Go.RowKit
section
variable {P : Program} {b : Base} {w w' : World} {L R : List It} {v x : Value} {n m sz : Nat} {xs ys : List Value} {l t : List UInt8} {k : Value → World → Prop}
/-- the first of a slice, with no room behind -/
theorem sl_hm {T E by_ : Nat} (hT : slT P T E sz by_ = true) (h : Sl w v n sz xs) (i : Nat) (hi : i ≤ n) (q q2 : IntKind) :
    ∃ A, (∀ w', (Instr.sliceAt T v none (some (.int q i)) (some (.int q2 i))).run P w' = .ok (.slice A i i) w') ∧ Sl w (.slice A i i) i sz (xs.take (i * sz)) ∧ (Value.slice A i i).ownBlock = v.ownBlock := by
  obtain ⟨h1, hsz, j, z, hj, hz, hs1, hs2, hs3⟩ := slT.spec hT
  obtain ⟨A, c, rfl, hc, hl, hr⟩ := h
  have he : P.elem T = E := by simp [Program.elem, h1]
  refine ⟨A, fun w' => ?_, ?_, by cases A <;> rfl⟩
  · rw [run_sliceAt_slice w' T _ _ _ _ (by rw [h1, he]), run_slice_hm w' T A n c (by rw [h1, he]) q q2 i i (by omega) (by omega) (by omega)]
    have hz0 : sliced A 0 i i sz = .slice A i i := by
      cases A with
      | none => simp [sliced]
      | some a =>
        have : a.add 0 = a := by unfold Addr.add; split <;> simp_all
        simp [sliced, this]
    simp [sizeOf, typeInfo, he, hj, hs1, hz0]
  · refine ⟨_, _, rfl, Nat.le_refl _, ?_, fun hn => ?_⟩
    · rw [List.length_take, hl, Nat.min_eq_left (Nat.mul_le_mul_right _ hi)]
    · obtain ⟨g, o, rfl, hr'⟩ := hr (by
        have : 0 < i := Nat.pos_of_ne_zero fun e => by rw [e, Nat.zero_mul] at hn; omega
        exact Nat.mul_pos (by omega) hsz)
      refine ⟨g, o, rfl, fun a u hu => ?_⟩
      rw [List.getElem?_take] at hu
      split at hu
      · exact hr' _ _ hu
      · cases hu
theorem src_sl {T E by_ : Nat} (hT : slT P T E 1 by_ = true) (h : Sl w x m 1 ys) (h1 : ∀ u ∈ ys, u.oneCell' = true) : Src P 1 T x m ys w := by
  obtain ⟨e1, hsz, j, z, hj, hz, hs1, hs2, hs3⟩ := slT.spec hT
  obtain ⟨A, c, rfl, hc, hl, hr⟩ := h
  by_cases hm : m = 0
  · subst hm
    have : ys = [] := List.length_eq_zero_iff.1 (by simpa using hl)
    subst this
    cases A with
    | none => exact Src.ofNil w e1 c
    | some a => exact Src.ofSlice w e1 a 0 c [] (by simp) (fun j u hu => by simp at hu) (fun u hu => by cases hu)
  · obtain ⟨g, o, rfl, hr'⟩ := hr (by omega)
    exact Src.ofSlice w e1 ⟨g, o, none⟩ m c ys hl (fun j u hu => by rw [Addr.add_lit]; exact hr' j u hu) h1
theorem Ins.rds (h : Ins L (byF v l).it) : Rds L v l.length 1 (u8s l) := by
  generalize hI : (byF v l).it = I at h
  induction h with
  | hd => subst hI; exact .byt
  | tl _ ih => exact .tl (ih hI)
theorem rds_slice (hs : Sep b w L) (hx : Rds L v n m xs) : ∃ A c, v = .slice A n c := by
  obtain ⟨A, c, h, _⟩ := hs.reads hx
  exact ⟨A, c, h⟩
theorem ixw_run {T E by_ g o n cap j : Nat} {q : IntKind} {i : Int} (hT : slT P T E 1 by_ = true) (hj : i = j) (hl : j < n) (w : World) : (Instr.indexAt T (.slice (some ⟨g, o, none⟩) n cap) (.int q i)).run P w = .ok (.pointer (some ⟨g, o + j, none⟩)) w := by
  obtain ⟨h1, hsz, i', z, hi', hz, hs1, hs2, hs3⟩ := slT.spec hT
  subst hj
  simp [Instr.indexAt, asIntOf, run_underlying h1, sizeOf, typeInfo, hi', hs1, Addr.add_mid, hl]
/-- an element of a row of one's own is set -/
theorem sp_ixset {T E by_ : Nat} {q : IntKind} {i : Int} {u : Value} (h : Sep b w L) (hm : Has L (rowI v E 1 n xs) R) (hT : slT P T E 1 by_ = true) (hi : (P.info? E).map (·.size) = some 1) (j : Nat) (hj : i = j) (hl : j < n) (hu : u.cells = #[u] ∧ u.oneCell' = true)
    (hk : ∀ w', Sep b w' (rowI v E 1 n (xs.set j u) :: R) → k undef w') : o1 P (Instr.indexAt T v (.int q i)) w fun a w => o0 P (Instr.storeAt E a u) w k := by
  have ho := h.get hm.ins
  obtain ⟨h1, ⟨rfl, rfl⟩ | ⟨g, cap, cur, rfl, hB, hb, hc, hmx, hsz, htk⟩⟩ := ho
  · omega
  · have hblk : Blk w g E cur.toList := by
      unfold Blk
      rw [hb]
    refine st_of (ixw_run hT hj hl w) ?_
    rw [Nat.zero_add]
    have hcl : cur.toList.length = cap := by rw [Array.length_toList, hsz, Nat.mul_one]
    refine st_store1 hi hu hblk (by omega) fun w' hb' hu' => hk w' ?_
    refine h.rerow hm (hu'.mono fun k _ e => by simp [Value.ownBlock, e]) (.inl rfl) ⟨by simpa using h1, .inr ⟨g, cap, (cur.toList.set j u).toArray, rfl, Nat.zero_le _, hb', hc, hmx, ?_, ?_⟩⟩
    · simp; omega
    · rw [← htk]
      show ((cur.toList.set j u).toArray.toList).take (n * 1) = _
      simp only [List.take_set]
/-- a slice with no room behind is appended to: what was there stays -/
theorem sp_appG {A : Option Addr} {T E by_ T' : Nat} (h : Sep b w L) (hT : slT P T E 1 by_ = true) (hm : Ins L (byF (.slice A l.length l.length) l).it) (hx : Rds L x t.length 1 (u8s t)) (hby : by_ ≤ 1) (hl : l.length + t.length ≤ 1000000000)
    (hk : ∀ v' w', Sep b w' ((byF v' (l ++ t)).it :: L) → k v' w') : ob P (fun _ => Builtin.append_ #[T, T] T' #[.slice A l.length l.length, x]) w k := by
  obtain ⟨e1, hsz, j, z, hj, hz, hs1, hs2, hs3⟩ := slT.spec hT
  have f1 : SlS (Stb w L) w (.slice A l.length l.length) l.length 1 (u8s l) := h.get hm
  have f2 : Sl w x t.length 1 (u8s t) := h.reads hx
  have hs := src_sl hT f2 (u8s_one t)
  by_cases ht : t = []
  · subst ht
    have hs0 : Src P j.size T x 0 [] w := by rw [hs1]; exact hs
    refine stb (run_append_nothing w T T T' E j e1 hj A l.length l.length (Nat.le_refl _) x hs0) (hk _ _ ?_)
    rw [List.append_nil]
    exact h.fact f1
  · have htl : 0 < t.length := List.length_pos_iff.2 ht
    have hold : (Builtin.firstCells j.size l.length (.slice A l.length l.length)).run P w.drew = .ok (u8s l).toArray w.drew := by
      have := (src_sl hT f1.1 (u8s_one l)).cellsD
      rw [hs1]; exact this
    have hcap := nextslicecap_le (need := l.length + t.length) (old := l.length) (by omega)
    have hr := run_append_grow_src (P := P) w T T T' E j z e1 hj hz A l.length l.length (u8s l) hold x t.length (u8s t) (by rw [hs1]; exact hs) (by omega) (by omega) (by
      rw [hs2]
      have : Builtin.nextslicecap (l.length + t.length) l.length * by_ ≤ Builtin.nextslicecap (l.length + t.length) l.length * 1 := Nat.mul_le_mul_left _ hby
      omega)
    refine stb hr (hk _ _ ?_)
    generalize hZ : Builtin.zeroCells z.cells (grownCap w (l.length + t.length) l.length E - (l.length + t.length)) = Z
    have hcap2 := grownCap_ge w (l.length + t.length) l.length E
    generalize grownCap w (l.length + t.length) l.length E = cap at hcap2
    have hb : Blk (w.drew.alloc (.cells ((u8s l ++ u8s t).toArray ++ Z) E)) w.heap.size E (u8s l ++ u8s t ++ Z.toList) := by
      have ez : (u8s l ++ u8s t).toArray ++ Z = (u8s l ++ u8s t ++ Z.toList).toArray := by apply Array.ext'; simp
      rw [ez]
      exact Blk.new
    have h2 : Sep b (w.drew.alloc (.cells ((u8s l ++ u8s t).toArray ++ Z) E)) (blkI w.heap.size E (u8s l ++ u8s t ++ Z.toList) :: L) := h.add (upd_drew.alloc _) (by
      intro k hk
      simp only [blkI, List.mem_singleton] at hk
      subst hk
      exact ⟨hb.lt, Nat.le_refl _⟩) hb
    refine h2.freeze .hd fun S hB => ?_
    have hsl := Sl.of_blk (n := l.length + t.length) (m := cap) (o := 0) (sz := 1) (show Blk _ w.heap.size E (u8s l ++ u8s t ++ Z.toList) from hB) (by simp only [List.length_append, u8s_length]; omega) (by omega)
    have e : ((u8s l ++ u8s t ++ Z.toList).drop 0).take ((l.length + t.length) * 1) = u8s (l ++ t) := by
      rw [List.drop_zero, Nat.mul_one, List.take_append_of_le_length (by simp only [List.length_append, u8s_length]; omega), List.take_of_length_le (by simp only [List.length_append, u8s_length]; omega)]
      simp [u8s]
    rw [e] at hsl
    exact SlS.of (by rw [List.length_append]; exact hsl) fun k hk => .inr (by simp [Value.ownBlock] at hk; simp [blkI, hk])
end
end Go.Isk
