/- A map's keys, sorted: by the kit's contracts. -/
import Derived.Test.YtiaiglgfangedaaDoorKM
import Derived.Test.YtiaiglgfangedaaDoorF1
import Derived.Test.YtiaiglgfangedaaDoorFS
import Derived.Shelf.SlIter.Nil
import Derived.Shelf.SortM.Plain
import Derived.Shelf.SortM.SortNone
import Derived.Ground.GgzProg
import Derived.Ground.SlgmProg
import Derived.StringKeys
set_option linter.unusedVariables false
set_option linter.unusedSimpArgs false
set_option linter.unusedSectionVars false
namespace Go.Proofs
open Go.RowKit Go.Maps Go.Sort Go.Shelf
shelf_lay_g SlLaysZ.n7 Ggz 7 at Tryd 38 as Tryd.keysA
shelf_lay_g SlLaysZ.n6 Ggz 6 at Tryd 37 as Tryd.sortedA
shelf_lay_g SlLaysM.n6 Slgm 6 at Tryd 54 as Tryd.sortA
theorem Tryd.sortsA (m : Nat) : AnyZ.SortsIn Tryd.prog Tryd.sortedA_ren Fence.wide m :=
  ⟨fun blk off cap ss W hH hblk hsz => callsIn_wide.2 (AnyM.slices_Sort_string Tryd.sortA blk off cap ss W hH hblk hsz),
   fun p cap W => callsIn_wide.2 (AnyM.slices_Sort_string_none Tryd.sortA p cap W)⟩
theorem Tryd.keysC (mb : Option Nat) (W : World) : Calls Tryd.prog 38 #[.map mb] W fun e w' => e = .returned (.func (.func 55) #[] #[.pointer (some ⟨W.heap.size, 0, none⟩)]) ∧ w' = W.alloc (.cells #[.map mb] 52) :=
  (callsIn_wide (n := 5)).1 (AnyZ.keys_in Tryd.keysA Fence.wide 5 trivial rfl mb W)
theorem Tryd.sortedC {H : Type} (b nn : Nat) (D0 : DataW H) (R : Value → Option (DataW H × List MemPlace)) (w : World) (hown : w.ownsMap Tryd.prog 9 R b nn D0) (hmax : Maps.size D0 ≤ maxLen) (hbytes : Maps.size D0 * 16 ≤ 140737488355328) :
    Calls Tryd.prog 37 #[.func (.func 55) #[] #[.pointer (some ⟨w.heap.size, 0, none⟩)]] (w.alloc (.cells #[.map (some b)] 52)) fun e w' => ∃ (v : Value) (ss : List (List UInt8)), e = .returned v ∧ ss.Perm (strKeys D0) ∧
      w'.ownsRow (w.heap.size + 1) 9 1 v ss.length ((ss.mergeSort (fun x y => decide (x ≤ y))).map encStr) ∧ Below (w.heap.size + 1) (w.alloc (.cells #[.map (some b)] 52)) w' := by
  have hbl := hown.lt
  have hseq : SeqGives Fence.wide 2 Tryd.prog 55 #[.pointer (some ⟨w.heap.size, 0, none⟩)] encStr (fun ss => ss.Perm (strKeys D0)) (Maps.size D0) (w.alloc (.cells #[.map (some b)] 52)) :=
    AnyZ.keys_gives (ρ := Tryd.keysA_ren) { Tryd.keysA with } Fence.wide _ trivial rfl (by omega) w.heap.size b nn D0 _ (by simp) (by simp) (by
      obtain ⟨es, clock, hb, Ft, hs, hD⟩ := hown
      exact ⟨es, clock, (Below.heap_alloc _ _ b hbl).trans hb, Ft, hs, hD⟩)
  have cS := AnyZ.sorted_in Tryd.sortedA Fence.wide 5 trivial trivial trivial trivial rfl (by omega) (Tryd.sortsA _) (enters_of Tryd.func54 (by kernel_rfl) rfl) 55 #[.pointer (some ⟨w.heap.size, 0, none⟩)] trivial (enters_of Tryd.func55 (by kernel_rfl) rfl) _ _ hmax hbytes _ hseq
  have cS' := (callsIn_wide (n := 5)).1 cS
  refine Calls.mono cS' ?_
  rintro e w' ⟨v, ss, h1, h2, h3, _, h5⟩
  refine ⟨v, ss, h1, h2, ?_, ?_⟩
  · rw [show (w.alloc (.cells #[.map (some b)] 52)).heap.size = w.heap.size + 1 by simp] at h3
    exact h3
  · rw [show (w.alloc (.cells #[.map (some b)] 52)).heap.size = w.heap.size + 1 by simp] at h5
    exact h5
end Go.Proofs
namespace Go.Isk
open Go Go.RowKit Go.MapKept Go.ChangeMaps
section
variable {α : Type} {F : Fam α} {P : Program} {b : Base} {w : World} {L : List It} {g K : Nat} {m : AMap α}
theorem EntR.mem {S : Nat → Prop} {es : List MapEntry} (h : EntR F S w es m) : ∀ x ∈ es, ∃ p ∈ m, x.key = kstr p.1 := by
  induction h with
  | nil => intro x hx; cases hx
  | @cons e es k cs a m h1 h2 h3 _ ih =>
    intro x hx
    rcases List.mem_cons.1 hx with rfl | hx
    · exact ⟨(k, a), by simp, h1⟩
    · obtain ⟨p, hp, e⟩ := ih x hx
      exact ⟨p, by simp [hp], e⟩
abbrev anyR : Value → Option (DataW Unit × List MemPlace) := fun _ => some (.nil, [])
theorem rd_any (hK : P.underlying K = some .string) {x : MapEntry} {k : List UInt8} (hx : x.key = kstr k) (hk : k.length ≤ maxLen) : WideElems.rd P K anyR x = some (.string k, .nil) := by
  unfold WideElems.rd
  rw [hx, show kstr k = .string ⟨k.toArray⟩ from rfl, WideMaps.keyOf_string_mk hK (by simpa [ByteArray.size] using hk)]
  rfl
/-- a map whose keys are read -/
theorem map_owned (hs : Sep b w L) (hm : Ins L (mapI F g m)) (hK : P.underlying K = some .string) (hn : m.length ≤ 1000000) (hk : ∀ p ∈ m, p.1.length ≤ maxLen) :
    ∃ D0 : DataW Unit, w.ownsMap P K anyR g m.length D0 ∧ (strKeys D0).Perm (m.map (·.1)) ∧ Maps.size D0 = m.length := by
  obtain ⟨es, clock, h1, h2, h3⟩ := hs.get hm
  have hl := h3.len
  refine ⟨_, ⟨es, clock, h1, ⟨?_, h2, ?_⟩, ?_, rfl⟩, ?_, ?_⟩
  · have : es.size = m.length := by simpa using hl
    have : (1000000 : Nat) ≤ maxLen := by decide
    omega
  · intro x hx
    obtain ⟨p, hp, e⟩ := h3.mem x hx
    exact ⟨_, rd_any hK e (hk p hp)⟩
  · have : es.size = m.length := by simpa using hl
    omega
  · show List.Perm ((((es.toList.map (WideElems.rg P K anyR)).foldr DataW.insert []).map fun p => strOf p.1)) _
    refine ((WideShapes.sorted_perm _).map _).trans ?_
    rw [List.map_map]
    have : ∀ (es : List MapEntry) (m : AMap α), EntR F (Stb w L) w es m → (∀ p ∈ m, p.1.length ≤ maxLen) → es.map ((fun p => strOf p.1) ∘ WideElems.rg P K anyR) = m.map (·.1) := by
      intro es m h hk
      induction h with
      | nil => rfl
      | @cons e es k cs a m h1 h2 h3 _ ih =>
        simp only [List.map_cons, Function.comp]
        rw [show WideElems.rg P K anyR e = (.string k, .nil) by unfold WideElems.rg; rw [rd_any hK h1 (hk _ (List.mem_cons_self ..))]; rfl]
        rw [ih fun p hp => hk p (List.mem_cons_of_mem _ hp)]
        rfl
    rw [this _ _ h3 hk]
  · show (((es.toList.map (WideElems.rg P K anyR)).foldr DataW.insert [])).length = _
    rw [(WideShapes.sorted_perm _).length_eq]
    simpa using hl
/-- texts in order -/
def sortM (m : AMap α) : List (List UInt8) := (m.map (·.1)).mergeSort leB
end
end Go.Isk
namespace Go.Proofs.YtiaiglgfangedaaDoor
open Go Go.Isk Go.RowKit
section
variable {α : Type} {F : Fam α} {b : Base} {w : World} {L : List It} {g : Nat} {m : AMap α}
theorem keysL (hs : Sep b w L) (hm : Ins L (mapI F g m)) (hn : m.length ≤ 1000000) (hk : ∀ p ∈ m, p.1.length ≤ maxLen) {k : Value → World → Prop} (h : ∀ v w', Sep b w' (growI nameF 9 1 v (sortM m) :: L) → k v w') :
    C Tryd.prog N.maps_Keys_map_string_files_file_string_files_file #[.map (some g)] w fun r w => C Tryd.prog N.slices_Sorted_string #[r] w k := by
  obtain ⟨D0, ho, hp, hz⟩ := map_owned (P := Tryd.prog) (K := 9) hs hm (by kernel_rfl) hn hk
  refine ⟨(Tryd.keysC (some g) w).mono ?_⟩
  rintro _ _ ⟨rfl, rfl⟩
  refine ⟨_, rfl, ⟨(Tryd.sortedC g m.length D0 _ w ho (by rw [hz]; exact Nat.le_trans hn (by decide)) (by rw [hz]; omega)).mono ?_⟩⟩
  rintro _ w' ⟨v, ss, rfl, h2, h3, h5⟩
  refine ⟨v, rfl, h v w' ?_⟩
  have e1 : (ss.mergeSort fun x y => decide (x ≤ y)) = sortM m := by
    rw [sortM]
    exact mergeSort_of_perm (h2.trans hp)
  have e2 : ss.length = (sortM m).length := by rw [← e1]; simp
  rw [e1, e2] at h3
  have hs1 : Sep b (w.alloc (.cells #[.map (some g)] 52)) L := hs.ext (upd_alloc _)
  refine hs1.add (I := growI nameF 9 1 v (sortM m)) (upd_of_below (by simpa using h5)) ?_ ⟨(sortM m).map fun s => [encStr s], ⟨by simp, ?_⟩, by simp, ?_⟩
  · intro k hk
    simp only [growI, Option.mem_toList] at hk
    have := own_ge h3 hk
    exact ⟨own_lt h3 hk, by simpa using this⟩
  · intro i hi x hx
    rw [List.getElem?_map, List.getElem?_eq_getElem hi] at hx
    simp only [Option.map_some, Option.some.injEq] at hx
    exact hx.symm
  · have e3 : ((sortM m).map fun s => [encStr s]).flatten = (sortM m).map encStr := by
      induction sortM m with
      | nil => rfl
      | cons a r ih => simp [ih]
    rw [e3]
    exact own_base h3 fun _ _ => Nat.zero_le _
end
end Go.Proofs.YtiaiglgfangedaaDoor
