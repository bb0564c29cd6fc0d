/- pool: Take. -/
import Derived.Test.YtgagekffmamldaaDoorPJ
set_option linter.unusedVariables false
set_option linter.unusedSimpArgs false
set_option linter.unusedSectionVars false
namespace Go.Proofs.YtgagekffmamldaaDoor
open Go Go.Isk Go.RowKit
set_option maxRecDepth 20000
/-- what is taken: as many as txs (cnt are taken), as much as by_ -/
def takeP (txs : Int) : Int → Int → List ItemD → List Bytes
  | _, _, [] => []
  | cnt, by_, x :: l => if txs ≤ cnt ∨ by_ < x.b.length then [] else x.b :: takeP txs (cnt + 1) (by_ - x.b.length) l
section
variable {b : Base} {w : World} {L R : List It} {g g3 : Nat} {v sv lv kv : Value} {cs : List Value} {p : PoolD} {x : ItemD} {l h : Bytes} {ls : List ItemD} {n m : Int} {nn : Nat}
end
end Go.Proofs.YtgagekffmamldaaDoor
set_option linter.unusedVariables false
set_option linter.unusedSimpArgs false
set_option linter.unusedSectionVars false
namespace Go.Proofs.YtgagekffmamldaaDoor
open Go Go.Isk Go.RowKit
def itemsO (AF : List (Bytes × Int)) : List ItemD := AF.zipIdx.map fun q => ⟨q.1.1, q.1.2, (q.2 : Int)⟩
theorem itemsO_app (AF : List (Bytes × Int)) (q : Bytes × Int) : itemsO (AF ++ [q]) = itemsO AF ++ [⟨q.1, q.2, (AF.length : Int)⟩] := by
  unfold itemsO
  rw [List.zipIdx_append, List.map_append]
  simp
theorem itemsO_len (AF : List (Bytes × Int)) : (itemsO AF).length = AF.length := by simp [itemsO]
theorem itemsO_get (AF : List (Bytes × Int)) (k : Nat) (h : k < AF.length) : (itemsO AF)[k]? = some ⟨AF[k].1, AF[k].2, (k : Int)⟩ := by
  unfold itemsO
  rw [List.getElem?_map, List.getElem?_zipIdx, List.getElem?_eq_getElem h]
  simp
def sumO (AF : List (Bytes × Int)) : Nat := (AF.map fun q => q.1.length).sum
theorem sizeO (AF : List (Bytes × Int)) : sizeP (itemsO AF) = sumO AF := by
  unfold sizeP sumO itemsO
  rw [List.map_map]
  have : ∀ (AF : List (Bytes × Int)) (n : Nat), (AF.zipIdx n).map ((fun x : ItemD => x.b.length) ∘ fun q => ⟨q.1.1, q.1.2, (q.2 : Int)⟩) = AF.map fun q => q.1.length := fun AF => by
    induction AF with
    | nil => intro n; rfl
    | cons q AF ih => intro n; simp only [List.zipIdx_cons, List.map_cons, ih]; rfl
  rw [this]
structure OInv (p : PoolD) (AF : List (Bytes × Int)) : Prop where
  perm : p.l.Perm (itemsO AF)
  came : p.came = AF.length
  txs : p.txs = 100
  by_ : p.bytes = 1048576
  ca : p.cache = 0
  len : ∀ q ∈ AF, q.1.length ≤ 1000
theorem sumO_le {AF : List (Bytes × Int)} (h : ∀ q ∈ AF, q.1.length ≤ 1000) : sumO AF ≤ 1000 * AF.length := by
  unfold sumO
  induction AF with
  | nil => simp
  | cons q AF ih =>
    have h1 := h q (List.mem_cons_self ..)
    have h2 := ih fun z hz => h z (List.mem_cons_of_mem _ hz)
    simp only [List.map_cons, List.sum_cons, List.length_cons]
    omega
theorem OInv.size {p : PoolD} {AF : List (Bytes × Int)} (h : OInv p AF) : sizeP p.l = sumO AF := by rw [sizeP_perm h.perm, sizeO]
theorem OInv.plen {p : PoolD} {AF : List (Bytes × Int)} (h : OInv p AF) : p.l.length = AF.length := by rw [h.perm.length_eq, itemsO_len]
theorem OInv.add {p : PoolD} {AF : List (Bytes × Int)} (h : OInv p AF) (hl : AF.length ≤ 59) {bts : Bytes} {fee : Int} (hb : bts.length ≤ 1000) :
    ((addP p bts fee).1 = p ∧ (addP p bts fee).2.2 ≠ 0) ∨ ((addP p bts fee).2.2 = 0 ∧ OInv (addP p bts fee).1 (AF ++ [(bts, fee)])) := by
  by_cases h1 : bts = [] ∨ fee < 0
  · rw [addP_0 h1]; exact .inl ⟨rfl, fun h => by cases h⟩
  by_cases h2 : knowsP p (hB bts) = true
  · rw [addP_9 h1 h2]; exact .inl ⟨rfl, fun h => by cases h⟩
  by_cases h3 : p.bytes < bts.length
  · rw [addP_2 h1 h2 h3]; exact .inl ⟨rfl, fun h => by cases h⟩
  have hs := h.size
  have hp := h.plen
  have hle := sumO_le h.len
  have hc : ¬ (p.txs < (p.l.length : Int) + 1 ∨ p.bytes < (sizeP p.l : Int) + bts.length) := by
    rw [h.txs, h.by_, hs, hp]
    omega
  rw [addP_r h1 h2 h3, room_stop hc]
  refine .inr ⟨rfl, ⟨?_, ?_, h.txs, h.by_, h.ca, ?_⟩⟩
  · rw [itemsO_app]
    show (insP ⟨bts, fee, p.came⟩ p.l).Perm _
    rw [h.came]
    exact (insP_perm _ _).trans (h.perm.append_right _)
  · show p.came + 1 = _
    rw [h.came, List.length_append]
    simp
  · intro q hq
    rcases List.mem_append.1 hq with hq | hq
    · exact h.len q hq
    · simp only [List.mem_cons, List.not_mem_nil, or_false] at hq
      rw [hq]; exact hb
/-- which text it is -/
theorem OInv.at {p : PoolD} {n : Nat} {AF : List (Bytes × Int)} (h : OInv p AF) (ok : OkP p n) {i : Nat} (hi : i < p.l.length) :
    ∃ (c : Nat) (hc : c < AF.length), p.l[i].came = c ∧ p.l[i].fee = AF[c].2 ∧ p.l[i].b = AF[c].1 ∧ ∀ (k : Nat) (hk : k < AF.length), AF[k].1 = p.l[i].b → k = c := by
  have hm : p.l[i] ∈ itemsO AF := h.perm.mem_iff.1 (List.getElem_mem hi)
  obtain ⟨c, hc, he⟩ := List.mem_iff_getElem.1 hm
  rw [itemsO_len] at hc
  have hg := itemsO_get AF c hc
  rw [List.getElem?_eq_getElem (by rw [itemsO_len]; exact hc)] at hg
  have hg := Option.some.inj hg
  rw [he] at hg
  refine ⟨c, hc, by rw [hg], by rw [hg], by rw [hg], fun k hk hb => ?_⟩
  have hnd : ((itemsO AF).map fun x => hB x.b).Nodup := (h.perm.map _).nodup_iff.1 ok.nd
  have hk2 := itemsO_get AF k hk
  rw [List.getElem?_eq_getElem (by rw [itemsO_len]; exact hk)] at hk2
  have hk2 := Option.some.inj hk2
  have e1 : ((itemsO AF).map fun x => hB x.b)[k]'(by rw [List.length_map, itemsO_len]; exact hk) = hB p.l[i].b := by rw [List.getElem_map, hk2]; show hB AF[k].1 = _; rw [hb]
  have e2 : ((itemsO AF).map fun x => hB x.b)[c]'(by rw [List.length_map, itemsO_len]; exact hc) = hB p.l[i].b := by rw [List.getElem_map, he]
  rcases Nat.lt_trichotomy k c with hlt | heq | hlt
  · exact absurd (e1.trans e2.symm) (List.pairwise_iff_getElem.1 hnd k c (by rw [List.length_map, itemsO_len]; exact hk) (by rw [List.length_map, itemsO_len]; exact hc) hlt)
  · exact heq
  · exact absurd (e2.trans e1.symm) (List.pairwise_iff_getElem.1 hnd c k (by rw [List.length_map, itemsO_len]; exact hc) (by rw [List.length_map, itemsO_len]; exact hk) hlt)
end Go.Proofs.YtgagekffmamldaaDoor
set_option linter.unusedVariables false
set_option linter.unusedSimpArgs false
set_option linter.unusedSectionVars false
namespace Go.Proofs.YtgagekffmamldaaDoor
open Go Go.Isk Go.RowKit
set_option maxRecDepth 20000
def textF : Fam Bytes := fun cs l => pureF (cs = [str l])
section
variable {b : Base} {w : World} {L R : List It} {g g3 g8 : Nat} {v sv lv kv bv cv e av fv : Value} {cs : List Value} {l : List Act8} {p : PoolD} {AF : List (Bytes × Int)} {n : Int}
def envO (a c d : Value) : Env := fun n => match n with
  | 2 => .bool false
  | 5 => a
  | 6 => c
  | 7 => d
  | _ => undef
end
end Go.Proofs.YtgagekffmamldaaDoor
