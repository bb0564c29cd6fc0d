/- The frame: what a call that only adds to memory and answers true gives of a statement; bytes that came in. -/
import Derived.Test.YtgagekffmamldaaGreatDoorKF
import Derived.Test.YtgagekffmamldaaGreatDoorCards
import Derived.Test.YtgagekffmamldaaGreatDoorTie
import Derived.WalkKit
import Derived.ProofKit
import Derived.OpenShut
import Derived.OpenVars
import Derived.Deep.DeepHandedRow
import Derived.LaidLaws
import Derived.LaidHandle
import Derived.Lib.LaidTab
import Derived.Test.YtgagekffmamldaaGreatDoorKT
import Derived.Test.YtgagekffmamldaaGreatDoorRows
set_option linter.unusedVariables false
set_option linter.unusedSimpArgs false
set_option linter.unusedSectionVars false
namespace Go.Proofs.YtgagekffmamldaaGreatDoor
open Go Go.Isk Go.RowKit Go.ChangeShapes Go.WideShapes Go.ChangeAt
section
variable {H : Type} {enc : TypeId × Value → H} {P : Program}
def rowsOk (P : Program) (ts : List TypeId) : Bool := ts.all fun t => P.readableRec t && decide (t < P.types.size)
theorem trodAll_stay (hl : laidOutB P = true) {W W' : World} (hb : Below W.heap.size W W') {sp : Nat → Bool} :
    ∀ {ts : List TypeId} {vs : List Value} {ds : List (DataW H)} {ps : List MemPlace}, rowsOk P ts = true → DataW.TrodAll enc P W 0 (fun _ => true) true ts vs ds ps →
      (∀ x ∈ ps, x.block < W.heap.size) → (∀ p ∈ ps, sp p.block = true) → DataW.TrodAll enc P W' 0 sp true ts vs ds ps
  | [], _, _, _, _, h, _, _ => by
    obtain ⟨rfl, rfl, rfl⟩ := trodAll_nil h
    exact trodAll_mk0
  | t :: ts, _, _, _, hr, h, hlt, hs => by
    obtain ⟨v, vs, d, ds, p, q, rfl, rfl, rfl, h1, h2⟩ := trodAll_cons h
    simp only [rowsOk, List.all_cons, Bool.and_eq_true, decide_eq_true_eq] at hr
    exact ⟨p, q, WideElems.Trod_stays hl hr.1.1 hr.1.2 h1 (fun x hx => hb.same (hlt x (by simp [hx]))) (fun x hx => hs x (by simp [hx])),
      trodAll_stay hl hb hr.2 h2 (fun x hx => hlt x (by simp [hx])) (fun x hx => hs x (by simp [hx])), rfl⟩
/-- a call that adds to memory alone and answers true -/
theorem post_true {f : Func} {s : ChangeSpec} {apart fresh handsOn again : Bool} {W W' : World} {args : Array Value} {ds gs : List (DataW H)} {before : List MemPlace} {tb : TypeId}
    (hW : DataW.Whole enc P f.params.toList s.vars apart W args.toList ds gs before) (hl : laidOutB P = true) (hv : s.vars = []) (hf : s.fn H ds = { results := [.lit (.bool true)], args := ds })
    (ht : f.resultTypes = #[tb]) (hb : P.underlying tb = some .bool) (hr : rowsOk P f.params.toList = true) (hu : Ext W W') :
    s.post enc P f apart fresh handsOn again W args (.bool true) W' := by
  have hW' := hW
  have hlt : ∀ x ∈ before, x.block < W.heap.size := fun x hx => by simpa using hW.lt x hx
  obtain ⟨p, q, hA, hV, rfl, hz, hn⟩ := hW
  rw [hv] at hV
  obtain ⟨rfl, rfl⟩ := trodVars_none hV
  simp only [List.append_nil] at hlt hz hn hW'
  have hargs : ∀ sp : Nat → Bool, (∀ x ∈ p, sp x.block = true) → DataW.TrodAll enc P W' 0 sp true f.params.toList args.toList ds p := fun sp hs => trodAll_stay hl hu.below hr hA hlt hs
  have hres : ∀ (b : Nat) (sp : Nat → Bool) (hd : Bool), DataW.TrodAll enc P W' b sp hd f.resultTypes.toList ((Value.bool true).resultList f.resultTypes.size) [.lit (.bool true)] [] := fun b sp hd => by
    rw [ht]
    exact trodAll_cons_mk (shut_bool hb _) trodAll_mk0
  have hvars : ∀ sp : Nat → Bool, DataW.TrodVars enc P W' sp s.vars [] [] := fun sp => by rw [hv]; rfl
  have hf' : s.fn H (ds ++ []) = { results := [.lit (.bool true)], args := ds } := by rw [List.append_nil]; exact hf
  refine ⟨ds, [], p, [], p, [], hW', ?_, ?_, ?_, hu.below.frame _, fun _ => ⟨ok_one ht rfl (okWide_bool_mk hb _), [.lit (.bool true)] ++ ds, [], p, ⟨p, [], ?_, ?_, by simp, ?_, hn⟩, fun x hx _ => hx⟩⟩
  · rw [hf']; exact hres _ _ _
  · rw [hf']; exact hargs _ fun x hx => by simpa using hlt x hx
  · rw [hf']; exact hvars _
  · exact trodAll_append (p := []) (hargs (fun _ => true) fun _ _ => rfl) (hres _ _ _)
  · exact hvars _
  · intro b off hp
    rw [hu.below.frozen (p := ⟨b, off, none⟩) (hlt _ hp)]
    exact hz b off hp
/-- bytes that came in -/
theorem open_by' {W : World} {T E : TypeId} {a1 : Option Addr} {len cap fuel : Nat} {x : DataW H × List MemPlace} (hT : P.underlying T = some (.slice E)) (hE : P.underlying E = some (.int .u8)) (hc : P.cellsOf E = 1)
    (hf : DataW.trod enc P W 0 (fun _ => true) true fuel T [.slice a1 len cap] = some x) :
    ∃ l : List UInt8, (byF (.slice a1 len cap) l).holds (fun k => k < W.heap.size) W ∧ ((x.1 = .nil ∧ l = []) ∨ ∃ es sp, x.1 = .slice es sp ∧ es.length = l.length) := by
  rcases open_ints hT hE hc hf with ⟨hcs, hx⟩ | ⟨a, len', cap', zs, hcs, _, hl, hm, hz, hx, hcell, hwz⟩
  · simp only [List.cons.injEq, Value.slice.injEq, and_true] at hcs
    obtain ⟨rfl, rfl, rfl⟩ := hcs
    subst hx
    exact ⟨[], ⟨Sl.nil 1, fun hn => absurd hn (by simp)⟩, .inl ⟨rfl, rfl⟩⟩
  · simp only [List.cons.injEq, Value.slice.injEq, and_true] at hcs
    obtain ⟨rfl, rfl, rfl⟩ := hcs
    subst hx
    simp only [if_true] at hz
    have hlen : ((zs.take len).map fun n => UInt8.ofNat n.toNat).length = len := by simp; omega
    have hrange : 0 < len → ∃ g o, a = ⟨g, o, none⟩ ∧ W.rangeAt g o (u8s ((zs.take len).map fun n => UInt8.ofNat n.toNat)) := fun hn => by
      obtain ⟨ab, ao, spot⟩ := a
      have hspot : spot = none := by simpa [Addr.add] using World.cell?_spot (hcell 0 (by omega))
      subst hspot
      refine ⟨ab, ao, rfl, fun j v hv => ?_⟩
      have hj : j < len := by
        have := (List.getElem?_eq_some_iff.1 hv).1
        rw [u8s, List.length_map, hlen] at this
        exact this
      have hcj := hcell j (by omega)
      rw [Addr.add_lit] at hcj
      rw [hcj, ← hv]
      have hb := range_u8 hwz j
      simp only [u8s, List.map_map, List.getElem?_map, List.getElem?_take, if_pos hj, List.getD]
      rw [List.getElem?_eq_getElem (show j < zs.length by omega)] at hb ⊢
      simp only [Option.getD_some] at hb ⊢
      simp only [Option.map_some, Function.comp, UInt8.toNat_ofNat', Option.some.injEq, Value.int.injEq, true_and]
      omega
    refine ⟨(zs.take len).map fun n => UInt8.ofNat n.toNat, ?_, .inr ⟨_, _, rfl, by simp [lits]⟩⟩
    show SlS _ _ _ _ _ _
    rw [hlen]
    refine ⟨⟨_, _, rfl, hl, by rw [u8s, List.length_map, hlen, Nat.mul_one], fun hn => ?_⟩, fun hn k hk => ?_⟩
    · obtain ⟨g, o, rfl, hr⟩ := hrange (by omega)
      exact ⟨g, o, rfl, hr⟩
    · obtain ⟨g, o, rfl, hr⟩ := hrange (by omega)
      simp only [Value.ownBlock, Option.some.injEq] at hk
      subst hk
      exact range_lt hr (by rw [u8s, List.length_map, hlen]; omega)
theorem sep_start {W : World} {fs : List Fact} (h : ∀ f ∈ fs, f.holds (fun k => k < W.heap.size) W) : Sep ⟨W, fun _ => False⟩ W (fs.map Fact.it) := by
  have hm : ∀ k, ¬ Mine (fs.map Fact.it) k := by
    rintro k ⟨I, h1, h2⟩
    obtain ⟨f, _, rfl⟩ := List.mem_map.1 h1
    cases h2
  refine ⟨Upd.refl, fun k hk => absurd hk (hm k), ?_, fun I hI => ?_⟩
  · refine List.pairwise_of_forall_mem_list fun I hI J _ k hk => ?_
    exact absurd ⟨I, hI, hk⟩ (hm k)
  · obtain ⟨f, h1, rfl⟩ := List.mem_map.1 hI
    exact f.mono (h f h1) fun k hk _ => ⟨hk, hm k⟩
end
/-! ### this program -/
theorem ownK : ownKnob Tryz.prog.godebug = none := by kernel_rfl
theorem laidK : laidOutB Tryz.prog = true := by kernel_rfl
theorem rtK : (Tryz.prog.cutTypes.find? (·.1 == "internal/reflectlite.rtype")).map (·.2) = some T.reflectlite_rtype := by kernel_rfl
theorem oneK : ((List.range Tryz.prog.types.size).filter fun t => Tryz.prog.rowNamed t [101, 114, 114, 111, 114]) = [T.error] := by kernel_rfl
theorem hhK : typeHandle Tryz.prog T.error = hdl T.error := by kernel_rfl
theorem errT_of {W : World} (h : handlesMet Tryz.prog [("errors.errorType", Rows.laid_errors_errorType)] W) : errT.holds (fun k => k < W.heap.size) W := by
  obtain ⟨name, u, ty, e1, e2, e3, e4, e5⟩ := h _ (List.mem_singleton.2 rfl)
  have en : name = [101, 114, 114, 111, 114] := (Option.some.inj e1).symm
  subst en
  obtain rfl := Option.some.inj (rtK.symm.trans e2)
  have hm : ty ∈ (List.range Tryz.prog.types.size).filter fun t => Tryz.prog.rowNamed t [101, 114, 114, 111, 114] := List.mem_filter.2 ⟨List.mem_range.2 e3, e4⟩
  rw [oneK] at hm
  obtain rfl := List.mem_singleton.1 hm
  rw [hhK] at e5
  have hc : W.cell? ⟨0, 0, none⟩ = some (rty T.error) := World.var?_cell (show Tryz.prog.globalNamed "errors.errorType" = some 0 by kernel_rfl) e5 0
  refine ⟨fun j v hv => ?_, fun _ => World.block_lt_of_cell? W _ hc⟩
  match j, hv with
  | 0, hv =>
    rw [← hv]
    exact hc
  | j + 1, hv => simp at hv
end Go.Proofs.YtgagekffmamldaaGreatDoor
set_option linter.unusedVariables false
set_option linter.unusedSimpArgs false
set_option linter.unusedSectionVars false
namespace Go.Proofs.YtgagekffmamldaaGreatDoor
open Go Go.Isk Go.RowKit Go.ChangeShapes Go.WideShapes Go.ChangeAt
theorem some_any {β : Type} {o : Option β} {p : β → Bool} (h : o.any p = true) : ∃ x, o = some x ∧ p x = true := by
  cases o with
  | none => cases h
  | some x => exact ⟨x, rfl, h⟩
theorem bulk_pos {H : Type} (d : DataW H) : 1 ≤ Rows.uptoBulk d := by
  cases d with
  | lit l => cases l <;> simp [Rows.uptoBulk]
  | nil => simp [Rows.uptoBulk]
  | ptr d => simp [Rows.uptoBulk]
  | slice elems spare => simp [Rows.uptoBulk]
  | agg parts => simp [Rows.uptoBulk]
  | iface t d => simp [Rows.uptoBulk]
  | map entries => simp [Rows.uptoBulk]
  | held h => simp [Rows.uptoBulk]
theorem bulk_app {H : Type} (l r : List (DataW H)) : Rows.uptoBulkAll (l ++ r) = Rows.uptoBulkAll l + Rows.uptoBulkAll r := by
  induction l with
  | nil => simp [Rows.uptoBulkAll]
  | cons x l ih => simp only [List.cons_append, Rows.uptoBulkAll, ih]; omega
theorem bulk_len {H : Type} (l : List (DataW H)) : l.length ≤ Rows.uptoBulkAll l := by
  induction l with
  | nil => simp
  | cons x r ih => have := bulk_pos x; simp only [Rows.uptoBulkAll, List.length_cons]; omega
theorem bulk_mem {H : Type} {d : DataW H} {l : List (DataW H)} (h : d ∈ l) : Rows.uptoBulk d ≤ Rows.uptoBulkAll l := by
  induction l with
  | nil => cases h
  | cons x r ih =>
    simp only [Rows.uptoBulkAll]
    rcases List.mem_cons.1 h with rfl | h
    · omega
    · have := ih h; omega
section
variable {α : Type} {P : Program} {W : World} {cs : List Value}
abbrev Old (W : World) : Nat → Prop := fun k => k < W.heap.size
/-- whatever reads at type t is a thing of F, and no greater than what it reads as -/
def Opn (P : Program) (W : World) (t : TypeId) (F : Fam α) (μ : α → Nat) : Prop :=
  ∀ {H : Type} {enc : TypeId × Value → H} {fuel : Nat} {cs : List Value} {x : DataW H × List MemPlace}, DataW.trod enc P W 0 (fun _ => true) true fuel t cs = some x → ∃ a, (F cs a).holds (Old W) W ∧ μ a ≤ Rows.uptoBulk x.1
def i64F : Fam Int := fun cs n => pureF (cs = [.int .i64 n] ∧ I64 n)
def strF : Fam Bytes := fun cs l => pureF (cs = [str l] ∧ l.length ≤ maxLen)
def hashF : Fam Bytes := fun cs l => pureF (cs = u8s l ∧ l.length = 32)
theorem opn_i64 {t : TypeId} (ht : P.underlying t = some (.int .i64)) : Opn P W t i64F fun _ => 1 := by
  intro H enc fuel cs x h
  obtain ⟨n, rfl, rfl, hw⟩ := DataW.trod_int ht h
  refine ⟨n, ⟨rfl, ?_⟩, bulk_pos _⟩
  simp [Lit.wf, IntKind.min, IntKind.max, IntKind.signed, IntKind.bits] at hw
  exact hw
theorem opn_bytes {T E : TypeId} (hT : P.underlying T = some (.slice E)) (hE : P.underlying E = some (.int .u8)) (hc : P.cellsOf E = 1) : Opn P W T bytesF fun l => l.length + 1 := by
  intro H enc fuel cs x h
  have hsh : ∃ v, cs = [v] ∧ ∃ a len cap, v = .slice a len cap := by
    rcases DataW.trod_slice hT h with ⟨rfl, _⟩ | ⟨a, len, cap, _, _, _, _, rfl, _⟩
    · exact ⟨_, rfl, _, _, _, rfl⟩
    · exact ⟨_, rfl, _, _, _, rfl⟩
  obtain ⟨v, rfl, a, len, cap, rfl⟩ := hsh
  obtain ⟨l, h1, h2⟩ := open_by' hT hE hc h
  refine ⟨l, ⟨_, rfl, h1⟩, ?_⟩
  rcases h2 with ⟨e, rfl⟩ | ⟨es, sp, e, he⟩
  · rw [e]; exact bulk_pos _
  · rw [e]
    show l.length + 1 ≤ _
    have := bulk_len es
    simp only [Rows.uptoBulk]
    omega
def slcF (F : Fam α) (sz : Nat) : Fam (List α) := fun cs ls => ⟨fun S w => ∃ sv, cs = [sv] ∧ (listF F sz sv ls).holds S w,
  fun ⟨sv, e, h⟩ hu hd => ⟨sv, e, (listF F sz sv ls).keep h hu hd⟩, fun ⟨sv, e, h⟩ hs => ⟨sv, e, (listF F sz sv ls).mono h hs⟩⟩
theorem opn_list {T E : TypeId} {F : Fam α} {μ : α → Nat} {sz : Nat} (hT : P.underlying T = some (.slice E)) (hF : Opn P W E F μ) (hc : P.cellsOf E = sz) (h0 : 0 < sz) :
    Opn P W T (slcF F sz) fun ls => (ls.map μ).sum + 1 := by
  intro H enc fuel cs x h
  rcases DataW.trod_slice hT h with ⟨rfl, rfl⟩ | ⟨a, len, cap, elems, rest, n, _, rfl, rfl, _, hlc, hm, hlen, hel, -, -⟩
  · exact ⟨[], ⟨_, rfl, [], allF.nil, by simp, SlS.nil sz⟩, by simpa using bulk_pos _⟩
  rw [hc] at hel
  have each : ∀ i, i < len → ∃ (y : DataW H × List MemPlace) (ci : List Value) (b : α), elems[i]? = some y ∧ ci.length = sz ∧ (∀ j, j < sz → W.cell? ((a.add (i * sz)).add j) = ci[j]?) ∧ (F ci b).holds (Old W) W ∧ μ b ≤ Rows.uptoBulk y.1 := fun i hi => by
    have h1 := hel i hi
    rw [List.getElem?_eq_getElem (show i < elems.length by omega), Option.bind_eq_some_iff] at h1
    obtain ⟨ci, h2, h3⟩ := h1
    obtain ⟨_, h4, h5⟩ := World.cells?_some h2
    obtain ⟨b, h6, h7⟩ := hF h3
    exact ⟨_, ci, b, List.getElem?_eq_getElem (by omega), h4, h5, h6, h7⟩
  by_cases hz : len = 0
  · subst hz
    refine ⟨[], ⟨_, rfl, [], allF.nil, by simp, ⟨⟨_, _, rfl, Nat.zero_le _, by simp, fun hn => absurd hn (by simp)⟩, fun hn => absurd hn (by simp)⟩⟩, ?_⟩
    simpa using bulk_pos _
  obtain ⟨g, o, spot⟩ := a
  have hspot : spot = none := by
    obtain ⟨y, ci, b, h1, h2, h3, h4, h5⟩ := each 0 (by omega)
    have h6 := h3 0 h0
    rw [List.getElem?_eq_getElem (by omega)] at h6
    simpa [Addr.add] using World.cell?_spot h6
  subst hspot
  have build : ∀ k, k ≤ len → ∃ (xss : List (List Value)) (ls : List α), ls.length = k ∧ allF F xss ls (Old W) W ∧ (∀ x ∈ xss, x.length = sz) ∧ xss.flatten.length = k * sz ∧ W.rangeAt g o xss.flatten ∧ (ls.map μ).sum ≤ Rows.uptoBulkAll ((elems.take k).map (·.1)) := by
    intro k
    induction k with
    | zero => exact fun _ => ⟨[], [], rfl, allF.nil, by simp, by simp, fun j v hv => by simp at hv, by simp⟩
    | succ k ih =>
      intro hk
      obtain ⟨xss, ls, e1, e2, e3, e4, e5, e6⟩ := ih (by omega)
      obtain ⟨y, ci, b, h1, h2, h3, h4, h5⟩ := each k (by omega)
      refine ⟨xss ++ [ci], ls ++ [b], by simp [e1], e2.push h4, ?_, ?_, ?_, ?_⟩
      · intro x hx
        rcases List.mem_append.1 hx with hx | hx
        · exact e3 x hx
        · rw [List.mem_singleton.1 hx]; exact h2
      · simp only [List.flatten_append, List.flatten_cons, List.flatten_nil, List.append_nil, List.length_append, e4, h2, Nat.add_mul, Nat.one_mul]
      · intro j v hv
        simp only [List.flatten_append, List.flatten_cons, List.flatten_nil, List.append_nil] at hv
        rcases Nat.lt_or_ge j xss.flatten.length with hlt | hge
        · rw [List.getElem?_append_left hlt] at hv
          exact e5 j v hv
        · rw [List.getElem?_append_right hge, e4] at hv
          have hj : j - k * sz < sz := by
            have := (List.getElem?_eq_some_iff.1 hv).1
            omega
          have h6 := h3 (j - k * sz) hj
          rw [hv, Addr.add_lit, Addr.add_lit] at h6
          rw [e4] at hge
          rw [← h6]
          congr 2
          omega
      · have hk' : k < elems.length := by omega
        rw [List.getElem?_eq_getElem hk'] at h1
        simp only [Option.some.injEq] at h1
        rw [List.take_succ_eq_append_getElem hk', List.map_append, List.map_append, bulk_app, List.sum_append, h1]
        simp only [List.map_cons, List.map_nil, List.sum_cons, List.sum_nil, Rows.uptoBulkAll]
        omega
  obtain ⟨xss, ls, e1, e2, e3, e4, e5, e6⟩ := build len (Nat.le_refl _)
  refine ⟨ls, ⟨_, rfl, xss, e2, e3, ?_⟩, ?_⟩
  · rw [e1]
    refine ⟨⟨_, _, rfl, hlc, e4, fun _ => ⟨g, o, rfl, e5⟩⟩, fun hn k hk => ?_⟩
    simp only [Value.ownBlock, Option.some.injEq] at hk
    subst hk
    exact range_lt e5 (by omega)
  · rw [List.take_of_length_le (by omega)] at e6
    simp only [Rows.uptoBulk]
    omega
theorem piece {o s o' : Nat} {p q : List Value} (h : (cs.drop o).take s = p) (hq : cs.drop o' = q) (he : o + s = o') : cs.drop o = p ++ q := by
  subst he
  rw [← h, ← hq, ← List.drop_drop, List.take_append_drop]
/-- a field -/
def stF (P : Program) (t : TypeId) : Array Field := match P.underlying t with | some (.struct fs) => fs | _ => #[]
def isSt (P : Program) (t : TypeId) : Bool := match P.underlying t with | some (.struct _) => true | _ => false
theorem isSt.eq {t : TypeId} (h : isSt P t = true) : P.underlying t = some (.struct (stF P t)) := by
  unfold isSt at h
  unfold stF
  split at h
  · rename_i fs e; rw [e]
  · cases h
theorem fld {F : Fam α} {μ : α → Nat} {H : Type} {enc : TypeId × Value → H} {fs : Array Field} {xs : List (DataW H × List MemPlace)} {n i sz off ty : Nat} (hF : Opn P W ty F μ) (hi : (fs[i]?).map (fun f => (f.type, f.offset)) = some (ty, off)) (hx : xs.length = fs.size)
    (hf : ∀ (i : Nat) (f : Field), fs[i]? = some f → DataW.trod enc P W 0 (fun _ => true) true n f.type ((cs.drop f.offset).take (P.cellsOf f.type)) = xs[i]?) (hc : P.cellsOf ty = sz) :
    ∃ a, (F ((cs.drop off).take sz) a).holds (Old W) W ∧ μ a ≤ Rows.uptoBulkAll (xs.map (·.1)) := by
  obtain ⟨f, hj, e⟩ := Option.map_eq_some_iff.1 hi
  simp only [Prod.mk.injEq] at e
  obtain ⟨rfl, rfl⟩ := e
  have h1 := hf i f hj
  have hlt : i < xs.length := by rw [hx]; exact (Array.getElem?_eq_some_iff.1 hj).1
  rw [List.getElem?_eq_getElem hlt, hc] at h1
  obtain ⟨a, h2, h3⟩ := hF h1
  exact ⟨a, h2, Nat.le_trans h3 (bulk_mem (List.mem_map.2 ⟨_, List.getElem_mem hlt, rfl⟩))⟩
theorem opn_agg {H : Type} {enc : TypeId × Value → H} {t : TypeId} {F : Fam α} {μ : α → Nat} {base : Nat} {v : Value} {d : DataW H} {p : List MemPlace} (ho : Opn P W t F μ) (hst : isSt P t = true)
    (hv : Value.okWide P W .any base t v) (h : DataW.Trod enc P W 0 (fun _ => true) true t v d p) : ∃ cs a, v = .agg cs.toArray ∧ (F cs a).holds (Old W) W ∧ μ a ≤ Rows.uptoBulk d := by
  obtain ⟨cs, rfl, _⟩ := okWide_struct (isSt.eq hst) hv
  obtain ⟨fuel, hf⟩ := h
  obtain ⟨a, h1, h2⟩ := ho (x := (d, p)) (by simpa [Value.cells] using hf)
  exact ⟨cs.toList, a, by simp, h1, h2⟩
def isSlc (P : Program) (t : TypeId) : Bool := match P.underlying t with | some (.slice _) => true | _ => false
theorem opn_slc {H : Type} {enc : TypeId × Value → H} {t : TypeId} {F : Fam α} {μ : α → Nat} {base : Nat} {v : Value} {d : DataW H} {p : List MemPlace} (ho : Opn P W t F μ) (hst : isSlc P t = true)
    (hv : Value.okWide P W .any base t v) (h : DataW.Trod enc P W 0 (fun _ => true) true t v d p) : ∃ a, (F [v] a).holds (Old W) W ∧ μ a ≤ Rows.uptoBulk d := by
  unfold isSlc at hst
  split at hst
  · rename_i e he
    obtain ⟨a, len, cap, rfl⟩ := okWide_slice he hv
    obtain ⟨fuel, hf⟩ := h
    exact ho (x := (d, p)) (by simpa [Value.cells] using hf)
  · cases hst
def isI64 (P : Program) (t : TypeId) : Bool := match P.underlying t with | some (.int .i64) => true | _ => false
end
set_option maxRecDepth 20000
/-! ### this program's things -/
variable {W : World}
theorem cI : Tryz.prog.cellsOf T.int = 1 := by kernel_rfl
theorem oI : Opn Tryz.prog W T.int i64F fun _ => 1 := opn_i64 (by kernel_rfl)
theorem oB : Opn Tryz.prog W T.sl_uint8 bytesF fun l => l.length + 1 := opn_bytes (E := T.uint8) (by kernel_rfl) (by kernel_rfl) (by kernel_rfl)
end Go.Proofs.YtgagekffmamldaaGreatDoor
