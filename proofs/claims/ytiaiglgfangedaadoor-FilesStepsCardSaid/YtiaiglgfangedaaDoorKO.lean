/- The frame: what a call that only adds to memory and answers true gives of a statement; bytes that came in. -/
import Derived.Test.YtiaiglgfangedaaDoorKE
import Derived.Test.YtiaiglgfangedaaDoorCards
import Derived.Test.YtiaiglgfangedaaDoorTie
import Derived.WalkKit
import Derived.ProofKit
import Derived.OpenShut
import Derived.OpenVars
import Derived.Deep.DeepHandedRow
import Derived.LaidLaws
import Derived.LaidHandle
import Derived.Lib.LaidTab
set_option linter.unusedVariables false
set_option linter.unusedSimpArgs false
set_option linter.unusedSectionVars false
namespace Go.Proofs.YtiaiglgfangedaaDoor
open Go Go.Isk Go.RowKit Go.ChangeShapes Go.WideShapes Go.ChangeAt
section
variable {H : Type} {enc : TypeId × Value → H} {P : Program}
def rowsOk (P : Program) (ts : List TypeId) : Bool := ts.all fun t => P.readableRec t && decide (t < P.types.size)
theorem trodAll_stay (hl : laidOutB P = true) {W W' : World} (hb : Below W.heap.size W W') {sp : Nat → Bool} :
    ∀ {ts : List TypeId} {vs : List Value} {ds : List (DataW H)} {ps : List MemPlace}, rowsOk P ts = true → DataW.TrodAll enc P W 0 (fun _ => true) true ts vs ds ps →
      (∀ x ∈ ps, x.block < W.heap.size) → (∀ p ∈ ps, sp p.block = true) → DataW.TrodAll enc P W' 0 sp true ts vs ds ps
  | [], _, _, _, _, h, _, _ => by
    obtain ⟨rfl, rfl, rfl⟩ := trodAll_nil h
    exact trodAll_mk0
  | t :: ts, _, _, _, hr, h, hlt, hs => by
    obtain ⟨v, vs, d, ds, p, q, rfl, rfl, rfl, h1, h2⟩ := trodAll_cons h
    simp only [rowsOk, List.all_cons, Bool.and_eq_true, decide_eq_true_eq] at hr
    exact ⟨p, q, WideElems.Trod_stays hl hr.1.1 hr.1.2 h1 (fun x hx => hb.same (hlt x (by simp [hx]))) (fun x hx => hs x (by simp [hx])),
      trodAll_stay hl hb hr.2 h2 (fun x hx => hlt x (by simp [hx])) (fun x hx => hs x (by simp [hx])), rfl⟩
/-- a call that adds to memory alone and answers true -/
theorem post_true {f : Func} {s : ChangeSpec} {apart fresh handsOn again : Bool} {W W' : World} {args : Array Value} {ds gs : List (DataW H)} {before : List MemPlace} {tb : TypeId}
    (hW : DataW.Whole enc P f.params.toList s.vars apart W args.toList ds gs before) (hl : laidOutB P = true) (hv : s.vars = []) (hf : s.fn H ds = { results := [.lit (.bool true)], args := ds })
    (ht : f.resultTypes = #[tb]) (hb : P.underlying tb = some .bool) (hr : rowsOk P f.params.toList = true) (hu : Ext W W') :
    s.post enc P f apart fresh handsOn again W args (.bool true) W' := by
  have hW' := hW
  have hlt : ∀ x ∈ before, x.block < W.heap.size := fun x hx => by simpa using hW.lt x hx
  obtain ⟨p, q, hA, hV, rfl, hz, hn⟩ := hW
  rw [hv] at hV
  obtain ⟨rfl, rfl⟩ := trodVars_none hV
  simp only [List.append_nil] at hlt hz hn hW'
  have hargs : ∀ sp : Nat → Bool, (∀ x ∈ p, sp x.block = true) → DataW.TrodAll enc P W' 0 sp true f.params.toList args.toList ds p := fun sp hs => trodAll_stay hl hu.below hr hA hlt hs
  have hres : ∀ (b : Nat) (sp : Nat → Bool) (hd : Bool), DataW.TrodAll enc P W' b sp hd f.resultTypes.toList ((Value.bool true).resultList f.resultTypes.size) [.lit (.bool true)] [] := fun b sp hd => by
    rw [ht]
    exact trodAll_cons_mk (shut_bool hb _) trodAll_mk0
  have hvars : ∀ sp : Nat → Bool, DataW.TrodVars enc P W' sp s.vars [] [] := fun sp => by rw [hv]; rfl
  have hf' : s.fn H (ds ++ []) = { results := [.lit (.bool true)], args := ds } := by rw [List.append_nil]; exact hf
  refine ⟨ds, [], p, [], p, [], hW', ?_, ?_, ?_, hu.below.frame _, fun _ => ⟨ok_one ht rfl (okWide_bool_mk hb _), [.lit (.bool true)] ++ ds, [], p, ⟨p, [], ?_, ?_, by simp, ?_, hn⟩, fun x hx _ => hx⟩⟩
  · rw [hf']; exact hres _ _ _
  · rw [hf']; exact hargs _ fun x hx => by simpa using hlt x hx
  · rw [hf']; exact hvars _
  · exact trodAll_append (p := []) (hargs (fun _ => true) fun _ _ => rfl) (hres _ _ _)
  · exact hvars _
  · intro b off hp
    rw [hu.below.frozen (p := ⟨b, off, none⟩) (hlt _ hp)]
    exact hz b off hp
/-- bytes that came in -/
theorem open_by' {W : World} {T E : TypeId} {a1 : Option Addr} {len cap fuel : Nat} {x : DataW H × List MemPlace} (hT : P.underlying T = some (.slice E)) (hE : P.underlying E = some (.int .u8)) (hc : P.cellsOf E = 1)
    (hf : DataW.trod enc P W 0 (fun _ => true) true fuel T [.slice a1 len cap] = some x) :
    ∃ l : List UInt8, (byF (.slice a1 len cap) l).holds (fun k => k < W.heap.size) W ∧ ((x.1 = .nil ∧ l = []) ∨ ∃ es sp, x.1 = .slice es sp ∧ es.length = l.length) := by
  rcases open_ints hT hE hc hf with ⟨hcs, hx⟩ | ⟨a, len', cap', zs, hcs, _, hl, hm, hz, hx, hcell, hwz⟩
  · simp only [List.cons.injEq, Value.slice.injEq, and_true] at hcs
    obtain ⟨rfl, rfl, rfl⟩ := hcs
    subst hx
    exact ⟨[], ⟨Sl.nil 1, fun hn => absurd hn (by simp)⟩, .inl ⟨rfl, rfl⟩⟩
  · simp only [List.cons.injEq, Value.slice.injEq, and_true] at hcs
    obtain ⟨rfl, rfl, rfl⟩ := hcs
    subst hx
    simp only [if_true] at hz
    have hlen : ((zs.take len).map fun n => UInt8.ofNat n.toNat).length = len := by simp; omega
    have hrange : 0 < len → ∃ g o, a = ⟨g, o, none⟩ ∧ W.rangeAt g o (u8s ((zs.take len).map fun n => UInt8.ofNat n.toNat)) := fun hn => by
      obtain ⟨ab, ao, spot⟩ := a
      have hspot : spot = none := by simpa [Addr.add] using World.cell?_spot (hcell 0 (by omega))
      subst hspot
      refine ⟨ab, ao, rfl, fun j v hv => ?_⟩
      have hj : j < len := by
        have := (List.getElem?_eq_some_iff.1 hv).1
        rw [u8s, List.length_map, hlen] at this
        exact this
      have hcj := hcell j (by omega)
      rw [Addr.add_lit] at hcj
      rw [hcj, ← hv]
      have hb := range_u8 hwz j
      simp only [u8s, List.map_map, List.getElem?_map, List.getElem?_take, if_pos hj, List.getD]
      rw [List.getElem?_eq_getElem (show j < zs.length by omega)] at hb ⊢
      simp only [Option.getD_some] at hb ⊢
      simp only [Option.map_some, Function.comp, UInt8.toNat_ofNat', Option.some.injEq, Value.int.injEq, true_and]
      omega
    refine ⟨(zs.take len).map fun n => UInt8.ofNat n.toNat, ?_, .inr ⟨_, _, rfl, by simp [lits]⟩⟩
    show SlS _ _ _ _ _ _
    rw [hlen]
    refine ⟨⟨_, _, rfl, hl, by rw [u8s, List.length_map, hlen, Nat.mul_one], fun hn => ?_⟩, fun hn k hk => ?_⟩
    · obtain ⟨g, o, rfl, hr⟩ := hrange (by omega)
      exact ⟨g, o, rfl, hr⟩
    · obtain ⟨g, o, rfl, hr⟩ := hrange (by omega)
      simp only [Value.ownBlock, Option.some.injEq] at hk
      subst hk
      exact range_lt hr (by rw [u8s, List.length_map, hlen]; omega)
theorem sep_start {W : World} {fs : List Fact} (h : ∀ f ∈ fs, f.holds (fun k => k < W.heap.size) W) : Sep ⟨W, fun _ => False⟩ W (fs.map Fact.it) := by
  have hm : ∀ k, ¬ Mine (fs.map Fact.it) k := by
    rintro k ⟨I, h1, h2⟩
    obtain ⟨f, _, rfl⟩ := List.mem_map.1 h1
    cases h2
  refine ⟨Upd.refl, fun k hk => absurd hk (hm k), ?_, fun I hI => ?_⟩
  · refine List.pairwise_of_forall_mem_list fun I hI J _ k hk => ?_
    exact absurd ⟨I, hI, hk⟩ (hm k)
  · obtain ⟨f, h1, rfl⟩ := List.mem_map.1 hI
    exact f.mono (h f h1) fun k hk _ => ⟨hk, hm k⟩
end
/-! ### this program -/
theorem ownK : ownKnob Tryd.prog.godebug = none := by kernel_rfl
theorem laidK : laidOutB Tryd.prog = true := by kernel_rfl
theorem rtK : (Tryd.prog.cutTypes.find? (·.1 == "internal/reflectlite.rtype")).map (·.2) = some T.reflectlite_rtype := by kernel_rfl
theorem oneK : ((List.range Tryd.prog.types.size).filter fun t => Tryd.prog.rowNamed t [101, 114, 114, 111, 114]) = [T.error] := by kernel_rfl
theorem hhK : typeHandle Tryd.prog T.error = hdl T.error := by kernel_rfl
theorem errT_of {W : World} (h : handlesMet Tryd.prog [("errors.errorType", Rows.laid_errors_errorType)] W) : errT.holds (fun k => k < W.heap.size) W := by
  obtain ⟨name, u, ty, e1, e2, e3, e4, e5⟩ := h _ (List.mem_singleton.2 rfl)
  have en : name = [101, 114, 114, 111, 114] := (Option.some.inj e1).symm
  subst en
  obtain rfl := Option.some.inj (rtK.symm.trans e2)
  have hm : ty ∈ (List.range Tryd.prog.types.size).filter fun t => Tryd.prog.rowNamed t [101, 114, 114, 111, 114] := List.mem_filter.2 ⟨List.mem_range.2 e3, e4⟩
  rw [oneK] at hm
  obtain rfl := List.mem_singleton.1 hm
  rw [hhK] at e5
  have hc : W.cell? ⟨0, 0, none⟩ = some (rty T.error) := World.var?_cell (show Tryd.prog.globalNamed "errors.errorType" = some 0 by kernel_rfl) e5 0
  refine ⟨fun j v hv => ?_, fun _ => World.block_lt_of_cell? W _ hc⟩
  match j, hv with
  | 0, hv =>
    rw [← hv]
    exact hc
  | j + 1, hv => simp at hv
end Go.Proofs.YtiaiglgfangedaaDoor
