/- pool: the order of two that wait, to the world; sorting by the kit's contract. -/
import Derived.Test.YtgagekffmamldaaGreatDoorP4
import Derived.Shelf.SlSortCmp.WholeK
import Derived.Shelf.Lay
import Derived.Ground.SlsfProg
set_option linter.unusedVariables false
set_option linter.unusedSimpArgs false
set_option linter.unusedSectionVars false
namespace Go.Isk
open Go Go.RowKit
section
variable {P : Program} {W w : World} {k : Value → World → Prop} {g t : Nat} {cs : List Value}
/-- draws and blocks behind W, nothing else -/
def GrownX (W w : World) : Prop := ∃ q os, w = Sort.grow (W.drewN q) os
theorem GrownX.refl : GrownX W W := ⟨0, #[], by rw [Sort.grow_empty]; rfl⟩
theorem GrownX.drew (h : GrownX W w) : GrownX W w.drew := by
  obtain ⟨q, os, rfl⟩ := h
  exact ⟨q + 1, os, rfl⟩
theorem GrownX.alloc (h : GrownX W w) (o : Obj) : GrownX W (w.alloc o) := by
  obtain ⟨q, os, rfl⟩ := h
  exact ⟨q, os ++ #[o], by rw [Sort.alloc_eq_grow, Sort.grow_grow]⟩
theorem gr_box {v : Value} (hG : GrownX W w) (hv : v.cells = cs.toArray) (h : ∀ g w', GrownX W w' → Blk w' g t cs → Ext w w' → k (.pointer (some ⟨g, 0, none⟩)) w') : o1 P (Instr.box t v) w k := by
  refine st_of (v := .pointer (some ⟨w.heap.size, 0, none⟩)) (w' := w.alloc (.cells cs.toArray t)) ?_ (h _ _ (hG.alloc _) Blk.new (upd_alloc _))
  simp [Instr.box, newVar, newRow, newObj, Sem.run, hv, ← World.alloc_eq]
theorem gr_bslice {T E by_ n : Nat} {parts : Array (Nat × Value)} (hG : GrownX W w) (hT : slT P T E 1 by_ = true) (vs : List Value) (hp : parts.toList = (vs.zipIdx 0).map fun p => (p.2, p.1)) (hs : ∀ v ∈ vs, v.cells.size = 1) (hn : vs.length = n) (hpos : 0 < n) (hsm : n * 1 ≤ 16777216)
    (hk : ∀ g w', GrownX W w' → Blk w' g E (vs.map (·.cells.toList)).flatten → Ext w w' → k (.slice (some ⟨g, 0, none⟩) n n) w') : o1 P (Instr.buildSlice T n parts) w k := by
  obtain ⟨h1, hsz, j, z, hj, hz, hs1, hs2, hs3⟩ := slT.spec hT
  have hc := cont_row 1 vs 0 hs
  rw [Nat.zero_mul] at hc
  have hsum := sum_row 1 vs hs
  have hf := fill_run (fun i => some (i * 1, 1)) vs 0 0 [] ((Array.range (n * 1)).map (z.cells[· % z.cells.size]!)).toList rfl hc (by rw [hsum, hn]; simp)
  rw [hsum, hn, List.drop_of_length_le (by simp), List.append_nil, List.nil_append, List.nil_append, Array.toArray_toList] at hf
  refine st_of (run_buildSlice w T E n parts _ j z h1 hj hz (by rw [hs1]; omega) (by rw [hs1]; exact Nat.ne_of_gt (Nat.mul_pos hpos (by decide))) (by rw [hs1, hp]; exact hf)) ?_
  exact hk _ _ (hG.alloc _) Blk.new (upd_alloc _)
end
end Go.Isk
namespace Go.Proofs.YtgagekffmamldaaGreatDoor
open Go Go.Isk Go.RowKit
set_option maxRecDepth 20000
section
variable {b : Base} {W w : World} {L R : List It} {g g3 : Nat} {v sv lv kv : Value} {cs : List Value} {x y : Int} {k : Value → World → Prop}
def cmpI (x y : Int) : Int := if x < y then -1 else if y < x then 1 else 0
theorem cmp_isNaN_int : C Tryz.prog N.cmp_isNaN_int #[.int .i64 x] w fun r w' => r = .bool false ∧ w' = w := by
  refine C.cmp_isNaN_int ?_
  unfold F.cmp_isNaN_int
  repeat (first
   | (with_reducible (first | refine st_nels ?_ | refine mv.mk ?_))
   | (with_reducible ((first | apply st_bin); intro k' hk; simp [go_sem, thenR_ok, bin]; refine hk _ _ ?_; clear hk k')))
  refine ⟨?_, rfl⟩
  simp
theorem cmp_Compare_int : C Tryz.prog N.cmp_Compare_int #[.int .i64 x, .int .i64 y] w fun r w' => r = .int .i64 (cmpI x y) ∧ w' = w := by
  refine C.cmp_Compare_int ?_
  unfold F.cmp_Compare_int
  repeat with_reducible refine mv.mk ?_
  refine cl cmp_isNaN_int ?_
  rintro _ _ ⟨rfl, rfl⟩
  repeat with_reducible refine mv.mk ?_
  refine cl cmp_isNaN_int ?_
  rintro _ _ ⟨rfl, rfl⟩
  unfold cmpI
  by_cases h1 : x < y
  · repeat (first
     | (with_reducible (first | refine mv.mk ?_ | refine br_t ?_ | refine br_f ?_))
     | (with_reducible ((first | apply st_bin); intro k' hk; simp [go_sem, thenR_ok, bin]; refine hk _ _ ?_; clear hk k')))
    rw [decide_eq_true h1, if_pos h1]
    repeat (first
     | (with_reducible (first | refine mv.mk ?_ | refine br_t ?_ | refine br_f ?_))
     | (with_reducible ((first | apply st_bin); intro k' hk; simp [go_sem, thenR_ok, bin]; refine hk _ _ ?_; clear hk k')))
    exact ⟨rfl, rfl⟩
  by_cases h2 : y < x
  · repeat (first
     | (with_reducible (first | refine mv.mk ?_ | refine br_t ?_ | refine br_f ?_))
     | (with_reducible ((first | apply st_bin); intro k' hk; simp [go_sem, thenR_ok, bin]; refine hk _ _ ?_; clear hk k')))
    rw [decide_eq_false h1, if_neg h1, if_pos h2]
    repeat (first
     | (with_reducible (first | refine mv.mk ?_ | refine br_t ?_ | refine br_f ?_))
     | (with_reducible ((first | apply st_bin); intro k' hk; simp [go_sem, thenR_ok, bin]; refine hk _ _ ?_; clear hk k')))
    rw [decide_eq_true h2]
    repeat (first
     | (with_reducible (first | refine mv.mk ?_ | refine br_t ?_ | refine br_f ?_))
     | (with_reducible ((first | apply st_bin); intro k' hk; simp [go_sem, thenR_ok, bin]; refine hk _ _ ?_; clear hk k')))
    exact ⟨rfl, rfl⟩
  · repeat (first
     | (with_reducible (first | refine mv.mk ?_ | refine br_t ?_ | refine br_f ?_))
     | (with_reducible ((first | apply st_bin); intro k' hk; simp [go_sem, thenR_ok, bin]; refine hk _ _ ?_; clear hk k')))
    rw [decide_eq_false h1, if_neg h1, if_neg h2]
    repeat (first
     | (with_reducible (first | refine mv.mk ?_ | refine br_t ?_ | refine br_f ?_))
     | (with_reducible ((first | apply st_bin); intro k' hk; simp [go_sem, thenR_ok, bin]; refine hk _ _ ?_; clear hk k')))
    rw [decide_eq_false h2]
    repeat (first
     | (with_reducible (first | refine mv.mk ?_ | refine br_t ?_ | refine br_f ?_))
     | (with_reducible ((first | apply st_bin); intro k' hk; simp [go_sem, thenR_ok, bin]; refine hk _ _ ?_; clear hk k')))
    exact ⟨rfl, rfl⟩
def orI (x y : Int) : Int := if x ≠ 0 then x else y
theorem slIT : slT Tryz.prog T.sl_int T.int 1 8 = true := by kernel_rfl
theorem cmp_Or_int (hr : w.rangeAt g 0 [.int .i64 x, .int .i64 y]) : C Tryz.prog N.cmp_Or_int #[.slice (some ⟨g, 0, none⟩) 2 2] w fun r w' => r = .int .i64 (orI x y) ∧ w' = w := by
  refine C.cmp_Or_int ?_
  unfold F.cmp_Or_int
  repeat (first
   | (with_reducible (first | refine st_lens ?_ | refine st_nels ?_ | refine mv.mk ?_ | refine br_t ?_ | refine br_f ?_))
   | (with_reducible ((first | apply st_bin | apply st_len); intro k' hk; simp [go_sem, thenR_ok, bin]; refine hk _ _ ?_; clear hk k')))
  refine lp_by (fun us w' => ∃ (i : Nat) (y1 y2 : Value), us = [y1, y2, .int .i64 (i : Int)] ∧ i ≤ 2 ∧ (0 < i → x = 0) ∧ (1 < i → y = 0) ∧ w' = w) (fun us _ => match us with | [_, _, .int _ m] => 2 - m.toNat | _ => 0) ⟨0, _, _, rfl, by omega, by omega, by omega, rfl⟩ ?_
  rintro x1 w1 ⟨i, y1, y2, hx1, hi, h0, h1, hw⟩
  have hr : w1.rangeAt g 0 [.int .i64 x, .int .i64 y] := by rw [hw]; exact hr
  simp only [List.cons.injEq, and_true] at hx1
  simp only [hx1.1, hx1.2.1, hx1.2.2]
  repeat (first
   | (with_reducible (first | refine st_lens ?_ | refine st_nels ?_ | refine mv.mk ?_ | refine br_t ?_ | refine br_f ?_))
   | (with_reducible ((first | apply st_bin | apply st_len); intro k' hk; simp [go_sem, thenR_ok, bin]; refine hk _ _ ?_; clear hk k')))
  refine br_split (fun hq => ?_) (fun hq => ?_)
  · have hi' : i < 2 := by have := of_decide_eq_true hq; omega
    refine sx_sl slIT i rfl hi' ?_
    have step : ∀ a : Int, (i = 0 → a = x) → (i = 1 → a = y) → w1.cell? ⟨g, 0 + i, none⟩ = some (.int .i64 a) := fun a ha hc => by
      match i, hi' with
      | 0, _ => rw [ha rfl]; exact hr 0 _ rfl
      | 1, _ => rw [hc rfl]; exact hr 1 _ rfl
    obtain ⟨a, ha, hc⟩ : ∃ a : Int, (i = 0 → a = x) ∧ (i = 1 → a = y) := ⟨if i = 0 then x else y, fun h => by rw [if_pos h], fun h => by rw [if_neg (by omega)]⟩
    refine st_of (load_one (by kernel_rfl) (step a ha hc)) ?_
    by_cases hz : a = 0
    · subst hz
      repeat (first
       | (with_reducible (first | refine st_lens ?_ | refine st_nels ?_ | refine mv.mk ?_ | refine br_t ?_ | refine br_f ?_))
       | (with_reducible ((first | apply st_bin | apply st_len); intro k' hk; simp [go_sem, thenR_ok, bin]; refine hk _ _ ?_; clear hk k')))
      rw [i64_succ (by omega)]
      refine ⟨⟨i + 1, _, _, rfl, hi', fun _ => ?_, fun h => ?_, hw⟩, by simp; omega⟩
      · rcases Nat.eq_zero_or_pos i with h | h
        · exact (ha h).symm
        · exact h0 h
      · exact (hc (by omega)).symm
    · repeat (first
       | (with_reducible (first | refine st_lens ?_ | refine st_nels ?_ | refine mv.mk ?_ | refine br_t ?_ | refine br_f ?_))
       | (with_reducible ((first | apply st_bin | apply st_len); intro k' hk; simp [go_sem, thenR_ok, bin]; refine hk _ _ ?_; clear hk k')))
      rw [show (a != 0) = true by simpa using hz]
      repeat (first
       | (with_reducible (first | refine st_lens ?_ | refine st_nels ?_ | refine mv.mk ?_ | refine br_t ?_ | refine br_f ?_))
       | (with_reducible ((first | apply st_bin | apply st_len); intro k' hk; simp [go_sem, thenR_ok, bin]; refine hk _ _ ?_; clear hk k')))
      refine ⟨?_, hw⟩
      unfold orI
      rcases Nat.eq_zero_or_pos i with h | h
      · rw [← ha h, if_pos hz]
      · rw [h0 h, if_neg (by simp), ← hc (by omega)]
  · obtain rfl : i = 2 := by have := of_decide_eq_false hq; omega
    repeat (first
     | (with_reducible (first | refine st_lens ?_ | refine st_nels ?_ | refine mv.mk ?_ | refine br_t ?_ | refine br_f ?_))
     | (with_reducible ((first | apply st_bin | apply st_len); intro k' hk; simp [go_sem, thenR_ok, bin]; refine hk _ _ ?_; clear hk k')))
    refine ⟨?_, hw⟩
    rw [orI, h0 (by decide), h1 (by decide), if_neg (by simp)]
def cfI (x y : ItemD) : Int := orI (cmpI y.fee x.fee) (cmpI x.came y.came)
theorem pool_before {x y : ItemD} {bv cv : Value} : C Tryz.prog N.pool_item_before #[.agg (itemV x bv).toArray, .agg (itemV y cv).toArray] W fun r w' => r = .int .i64 (cfI x y) ∧ GrownX W w' := by
  refine C.pool_item_before ?_
  unfold F.pool_item_before
  refine gr_box GrownX.refl rfl fun g2 w hG hb2 hu2 => ?_
  refine gr_box hG rfl fun g3 w hG hb3 hu3 => ?_
  have hb2 := hb2.ext hu3
  have hx := hB_len x.b
  have hy := hB_len y.b
  repeat with_reducible refine mv.mk ?_
  refine dr_by (fun w' => Ext w w') upd_drew ?_
  refine pitem.t2 (by rw [u8s_length, hy]) (fun w' h => hb3.ext h) ?_
  refine pitem.t2 (by rw [u8s_length, hx]) (fun w' h => hb2.ext h) ?_
  refine pitem.t3 (by rw [u8s_length, hx]) (fun w' h => hb2.ext h) ?_
  refine pitem.t3 (by rw [u8s_length, hy]) (fun w' h => hb3.ext h) ?_
  refine cl cmp_Compare_int ?_
  rintro _ _ ⟨rfl, rfl⟩
  refine ⟨upd_drew, ?_⟩
  refine cl cmp_Compare_int ?_
  rintro _ _ ⟨rfl, rfl⟩
  refine ⟨upd_drew, ?_⟩
  refine gr_bslice hG.drew slIT [.int .i64 (cmpI y.fee x.fee), .int .i64 (cmpI x.came y.came)] rfl (fun v hv => by
    simp only [List.mem_cons, List.not_mem_nil, or_false] at hv
    rcases hv with rfl | rfl <;> rfl) rfl (by decide) (by decide) fun g4 w' hG4 hb4 hu4 => ?_
  refine ⟨upd_drew.trans hu4 fun _ _ h => h, ?_⟩
  refine cl (cmp_Or_int (x := cmpI y.fee x.fee) (y := cmpI x.came y.came) ?_) ?_
  · intro j v hv
    rw [Nat.zero_add, hb4.cell]
    exact hv
  rintro _ _ ⟨rfl, rfl⟩
  refine ⟨upd_drew.trans hu4 fun _ _ h => h, ?_⟩
  repeat with_reducible refine mv.mk ?_
  exact ⟨rfl, hG4⟩
end
end Go.Proofs.YtgagekffmamldaaGreatDoor
set_option linter.unusedVariables false
set_option linter.unusedSimpArgs false
set_option linter.unusedSectionVars false
namespace Go.Proofs
open Go Go.Isk Go.RowKit Go.Shelf
shelf_lay_g SlLaysF0.n6 Slsf 6 at Tryz 32 as Tryz.sortIt
end Go.Proofs
namespace Go.Proofs.YtgagekffmamldaaGreatDoor
open Go Go.Isk Go.RowKit Go.Sort
set_option maxRecDepth 20000
structure PIt where
  x : ItemD
  bv : Value
  ok : bv.cells = #[bv] ∧ bv.oneCell' = true
instance : Inhabited PIt := ⟨⟨⟨[], 0, 0⟩, .slice none 0 0, ⟨rfl, rfl⟩⟩⟩
def encI (p : PIt) : List Value := itemV p.x p.bv
theorem encI_len (p : PIt) : (encI p).length = 35 := by
  have h := hB_len p.x.b
  simp [encI, pitemC, u8s_length, h]
theorem encI_one (p : PIt) : ∀ v ∈ encI p, v.oneCell' = true := pitemC_one p.ok.2 (u8s_one _) rfl rfl
def cfP (p q : PIt) : Int := cfI p.x q.x
def ltI (x y : ItemD) : Prop := y.fee < x.fee ∨ (x.fee = y.fee ∧ x.came < y.came)
theorem cfI_lt (x y : ItemD) : cfI x y < 0 ↔ ltI x y := by
  unfold cfI orI cmpI ltI
  by_cases h1 : y.fee < x.fee
  · simp [h1]
  · by_cases h2 : x.fee < y.fee
    · have : ¬ x.fee = y.fee := by omega
      simp [h1, h2, this]
    · have : x.fee = y.fee := by omega
      by_cases h3 : x.came < y.came
      · simp [h1, h2, this, h3]
      · by_cases h4 : y.came < x.came <;> simp [h1, h2, this, h3, h4]
theorem ltP (p q : PIt) : ltOf cfP p q = true ↔ ltI p.x q.x := by
  rw [← cfI_lt]
  unfold ltOf cfP
  simp
theorem swoP : SWO (ltOf cfP) where
  irrefl p := by
    rw [Bool.eq_false_iff, Ne, ltP]
    unfold ltI
    omega
  trans p q r h1 h2 := by
    rw [ltP] at *
    unfold ltI at *
    omega
  ntrans p q r h1 h2 := by
    rw [Bool.eq_false_iff, Ne, ltP] at *
    unfold ltI at *
    omega
theorem itAgg (w : World) : (isAgg T.pool_item).run Tryz.prog w = .ok true w := by
  obtain ⟨d, h1, h2, h3⟩ := aggT.spec (P := Tryz.prog) (t := T.pool_item) (n := 35) (by kernel_rfl)
  unfold isAgg
  rw [Sem.run_bind, run_underlying h1 w]
  cases d <;> first | (cases h2; done) | simp
theorem itSize (w : World) : (Go.sizeOf T.pool_item).run Tryz.prog w = .ok 35 w := by
  obtain ⟨d, h1, h2, h3⟩ := aggT.spec (P := Tryz.prog) (t := T.pool_item) (n := 35) (by kernel_rfl)
  obtain ⟨i, h4, h5⟩ := Option.map_eq_some_iff.1 h3
  simp [Go.sizeOf, typeInfo, h4, h5]
theorem sort_raw {g off cap : Nat} {d : Array PIt} {w : World} (hH : HoldsK encI 35 w g off d) (hg : g < w.heap.size) (hsz : d.size < 4611686018427387904) :
    C Tryz.prog N.slices_SortFunc_pool_item_pool_item #[.slice (some ⟨g, off, none⟩) d.size cap, .func (.func N.pool_item_before) #[] #[]] w fun r w' => r = .tuple #[] ∧ ∃ d' n os, PermIn 0 d.size d d' ∧ SortedIn (ltOf cfP) 0 d.size d' ∧ w' = sortWorldK encI 35 w g off n d' os := by
  have eg : ∀ args w, (callFunc N.pool_item_before args).run Tryz.prog w = .ok (.enter N.pool_item_before args) w := enters_of Tryz.func33 (by kernel_rfl) rfl
  have hc : CmpLays Tryz.prog N.pool_item_before #[] encI 35 cfP g off d.size w := fun m os dk hs x y => by
    have h := (pool_before (W := sortWorldK encI 35 w g off m dk os) (x := x.x) (y := y.x) (bv := x.bv) (cv := y.bv)).out
    refine Calls.mono h ?_
    rintro _ w' ⟨v, rfl, rfl, hG⟩
    exact ⟨rfl, hG⟩
  have hcon := AnyQ.slices_SortFunc Tryz.sortIt 35 itAgg itSize encI encI_len encI_one cfP swoP N.pool_item_before #[] g off cap d w eg hc hH hg hsz
  refine ⟨Calls.mono hcon ?_⟩
  rintro e w' ⟨rfl, d', n, os, h1, h2, h3⟩
  exact ⟨_, rfl, rfl, d', n, os, h1, h2, h3⟩
end Go.Proofs.YtgagekffmamldaaGreatDoor
set_option linter.unusedVariables false
set_option linter.unusedSimpArgs false
set_option linter.unusedSectionVars false
namespace Go.Proofs.YtgagekffmamldaaGreatDoor
open Go Go.Isk Go.RowKit Go.Sort
set_option maxRecDepth 20000
theorem flat_at : ∀ (ps : List PIt) (j : Nat), j < ps.length * 35 → ((ps.map encI).flatten)[j]? = some ((encI ps[j / 35]!)[j % 35]!)
  | [], j, h => by simp at h
  | p :: ps, j, h => by
    simp only [List.map_cons, List.flatten_cons]
    have hl := encI_len p
    by_cases h1 : j < 35
    · rw [List.getElem?_append_left (by omega), Nat.div_eq_of_lt h1, Nat.mod_eq_of_lt h1]
      rw [List.getElem?_eq_getElem (by omega)]
      simp [getElem!_pos, hl, h1]
    · rw [List.getElem?_append_right (by omega), hl, flat_at ps (j - 35) (by simp only [List.length_cons] at h; omega)]
      have e1 : j / 35 = (j - 35) / 35 + 1 := by omega
      have e2 : j % 35 = (j - 35) % 35 := by omega
      rw [e1, e2]
      simp
theorem flat_len (ps : List PIt) : ((ps.map encI).flatten).length = ps.length * 35 := by
  induction ps with
  | nil => rfl
  | cons p ps ih => simp only [List.map_cons, List.flatten_cons, List.length_append, ih, encI_len, List.length_cons]; omega
theorem pits {S : Nat → Prop} {w : World} {xss : List (List Value)} {ls : List ItemD} (h : allF itemF xss ls S w) : ∃ ps : List PIt, ps.map encI = xss ∧ ps.map (·.x) = ls ∧ ∀ p ∈ ps, (byF p.bv p.x.b).holds S w := by
  have hex : ∀ i : Fin ls.length, ∃ p : PIt, xss[i.1]? = some (encI p) ∧ p.x = ls[i.1] ∧ (byF p.bv p.x.b).holds S w := fun i => by
    have hi : i.1 < xss.length := by rw [h.1]; exact i.2
    obtain ⟨bv, h1, h2⟩ : ItemS S w xss[i.1] ls[i.1] := h.2 i.1 i.2 _ (List.getElem?_eq_getElem hi)
    obtain ⟨A, c, h3, _⟩ := h2.1
    exact ⟨⟨ls[i.1], bv, by rw [h3]; exact ⟨rfl, rfl⟩⟩, by rw [List.getElem?_eq_getElem hi, h1]; rfl, rfl, h2⟩
  refine ⟨List.ofFn fun i => Classical.choose (hex i), ?_, ?_, ?_⟩
  · apply List.ext_getElem?
    intro i
    by_cases hi : i < ls.length
    · have := (Classical.choose_spec (hex ⟨i, hi⟩)).1
      rw [this]
      simp [hi]
    · rw [List.getElem?_eq_none (by simp; omega), List.getElem?_eq_none (by rw [h.1]; omega)]
  · apply List.ext_getElem
    · simp
    · intro i hi hj
      simp only [List.getElem_map, List.getElem_ofFn]
      exact (Classical.choose_spec (hex ⟨i, hj⟩)).2.1
  · intro p hp
    obtain ⟨i, rfl⟩ := List.mem_ofFn.1 hp
    exact (Classical.choose_spec (hex i)).2.2
theorem pits_all {S : Nat → Prop} {w : World} {ps : List PIt} (h : ∀ p ∈ ps, (byF p.bv p.x.b).holds S w) : allF itemF (ps.map encI) (ps.map (·.x)) S w :=
  ⟨by simp, fun i hi x hx => by
    have hi' : i < ps.length := by simpa using hi
    rw [List.getElem?_map, List.getElem?_eq_getElem hi'] at hx
    simp only [Option.map_some, Option.some.injEq] at hx
    subst hx
    rw [List.getElem_map]
    exact ⟨ps[i].bv, rfl, h _ (List.getElem_mem hi')⟩⟩
theorem sort_upd {g n : Nat} {d : Array PIt} {w : World} {os : Array Obj} : Upd (fun k => k = g) w (sortWorldK encI 35 w g 0 n d os) := by
  unfold sortWorldK putRowK putRow mapBlock grow Go.Sort.ahead
  refine ⟨rfl, rfl, rfl, by simp, fun k hk hn => ?_⟩
  simp only
  rw [Array.getElem?_append_left (by simpa using hk), Array.getElem?_modify, if_neg (fun e => hn e.symm)]
theorem sort_blk {g n E : Nat} {ps : List PIt} {cur : List Value} {w : World} {os : Array Obj} (hb : Blk w g E cur) (hl : ps.length * 35 ≤ cur.length) :
    ∃ cur', Blk (sortWorldK encI 35 w g 0 n ps.toArray os) g E cur' ∧ cur'.length = cur.length ∧ cur'.take (ps.length * 35) = (ps.map encI).flatten := by
  refine ⟨(putCells id 0 (flatK encI 35 ps.toArray) cur.toArray).toList, ?_, by simp [putCells], ?_⟩
  · unfold Blk
    have hlt := hb.lt
    unfold Blk at hb
    unfold sortWorldK putRowK putRow mapBlock grow Go.Sort.ahead
    simp only
    rw [Array.getElem?_append_left (by simpa using hlt), Array.getElem?_modify, if_pos rfl, hb]
    simp [onCells]
  · apply List.ext_getElem?
    intro j
    by_cases hj : j < ps.length * 35
    · rw [flat_at ps j hj, List.getElem?_take, if_pos hj]
      have hf := get_flatK encI 35 ps.toArray j (by simpa using hj)
      simp only [Array.getElem?_toList, putCells, Array.getElem?_mapIdx, Nat.zero_le, true_and, Nat.zero_add, Nat.sub_zero, size_flatK, List.size_toArray, if_pos hj, id_eq]
      rw [List.getElem?_toArray, List.getElem?_eq_getElem (by omega)]
      simp only [Option.map_some]
      rw [hf]
      simp
    · rw [List.getElem?_eq_none (by rw [List.length_take]; omega), List.getElem?_eq_none (by rw [flat_len]; omega)]
section
variable {b : Base} {w : World} {L R : List It} {g : Nat} {v : Value} {ls : List ItemD}
theorem sortItems (hs : Isk.Sep b w L) (hm : Has L (growI itemF T.pool_item 35 v ls) R) (hn : 0 < ls.length) (hsz : ls.length < 4611686018427387904) :
    C Tryz.prog N.slices_SortFunc_pool_item_pool_item #[v, .func (.func N.pool_item_before) #[] #[]] w fun r w' => r = .tuple #[] ∧ ∃ ls', ls'.Perm ls ∧ ls'.Pairwise (fun x y => ¬ ltI y x) ∧ Isk.Sep b w' (growI itemF T.pool_item 35 v ls' :: R) := by
  obtain ⟨xss, q1, q2, q3⟩ := hs.get hm.ins
  obtain ⟨ps, rfl, rfl, hby⟩ := pits q1
  rw [List.length_map] at hn hsz q3
  obtain ⟨h1, ⟨rfl, h0⟩ | ⟨g, cap, cur, rfl, hB, hb, hc, hmx, hcs, htk⟩⟩ := q3
  · omega
  have hblk : Blk w g T.pool_item cur.toList := by unfold Blk; rw [hb]
  have hcl : cur.toList.length = cap * 35 := by rw [Array.length_toList, hcs]
  have hcap : ps.length * 35 ≤ cur.toList.length := by rw [hcl]; exact Nat.mul_le_mul_right _ hc
  have hH : HoldsK encI 35 w g 0 ps.toArray := by
    intro j hj
    rw [size_flatK, List.size_toArray] at hj
    refine ⟨?_, hblk.frozen _⟩
    rw [Nat.zero_add, hblk.cell, get_flatK _ _ _ _ (by simpa using hj)]
    have h2 := flat_at ps j hj
    rw [← htk, List.getElem?_take, if_pos hj] at h2
    rw [h2]
    simp
  have hS : ∀ k, Stb w L k → ¬ k = g := fun k hk e => hk.2 ⟨_, hm.ins.mem, by simp [growI, Value.ownBlock, e]⟩
  refine (sort_raw (cap := cap) hH hblk.lt (by simpa using hsz)).mono ?_
  rintro _ w' ⟨rfl, d', n, os, ⟨p1, p2, p3⟩, hsrt, rfl⟩
  have hds : d'.size = ps.length := by simpa using p1
  have hperm : d'.toList.Perm ps := by
    have e1 : d'.extract 0 ps.toArray.size = d' := by rw [← p1]; simp
    have e2 : ps.toArray.extract 0 ps.toArray.size = ps.toArray := by simp
    rw [e1, e2] at p3
    simpa using p3
  have hu : Upd (fun k => k = g) w (sortWorldK encI 35 w g 0 n d' os) := sort_upd
  obtain ⟨cur', hb', hl', ht'⟩ := sort_blk (n := n) (os := os) (ps := d'.toList) hblk (by rw [Array.length_toList, hds]; exact hcap)
  rw [Array.toArray_toList] at hb'
  rw [Array.length_toList, hds] at ht'
  refine ⟨rfl, d'.toList.map (·.x), hperm.map _, ?_, ?_⟩
  · rw [List.pairwise_map, List.pairwise_iff_getElem]
    intro i j hi hj hij
    have hi' : i < d'.size := by simpa using hi
    have hj' : j < d'.size := by simpa using hj
    have h3 := hsrt i j (Nat.zero_le _) hij (by simp; omega)
    rw [getElem!_pos d' j hj', getElem!_pos d' i hi'] at h3
    rw [Array.getElem_toList, Array.getElem_toList, ← ltP, h3]
    simp
  · have hby' : ∀ p ∈ d'.toList, (byF p.bv p.x.b).holds (Stb w L) w := fun p hp => hby p (hperm.mem_iff.1 hp)
    refine hs.turn hm hu (fun k _ e => by simp [growI, Value.ownBlock, e]) (fun k hk => ?_) ?_
    · have : k = g := by simpa [growI, Value.ownBlock, eq_comm] using hk
      subst this
      exact ⟨hb'.lt, .inl (by simp [growI, Value.ownBlock])⟩
    · refine ⟨d'.toList.map encI, ((pits_all hby').keep hu hS).mono fun k hk _ => ⟨Nat.lt_of_lt_of_le hk.1 hu.size, fun hmm => ?_⟩, fun y hy => ?_, ?_⟩
      · rcases mine_app.1 (show Mine ([growI itemF T.pool_item 35 (.slice (some ⟨g, 0, none⟩) ps.length cap) (d'.toList.map (·.x))] ++ R) k from hmm) with h5 | h5
        · have h5 : k = g := by simpa [growI, Value.ownBlock] using mine_one.1 h5
          exact hS k hk h5
        · exact hk.2 ((mine_perm hm.perm k).2 (mine_app.2 (.inr h5) : Mine ([growI itemF T.pool_item 35 (.slice (some ⟨g, 0, none⟩) ps.length cap) (ps.map (·.x))] ++ R) k))
      · obtain ⟨p, _, rfl⟩ := List.mem_map.1 hy
        exact encI_len p
      · have hdl : d'.toList.length = ps.length := by rw [Array.length_toList, hds]
        rw [List.length_map, hdl]
        refine ⟨by rw [flat_len, Array.length_toList, hds], .inr ⟨g, cap, cur'.toArray, rfl, Nat.zero_le _, hb', hc, hmx, by rw [List.size_toArray, hl', hcl], ?_⟩⟩
        exact ht'
end
end Go.Proofs.YtgagekffmamldaaGreatDoor
