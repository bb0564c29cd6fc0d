/- pool: PoolBounds, what it needs. -/
import Derived.Test.YtgagekffmamldaaGreatDoorPG
import Derived.Test.YtgagekffmamldaaGreatDoorKR
set_option linter.unusedVariables false
set_option linter.unusedSimpArgs false
set_option linter.unusedSectionVars false
namespace Go.Proofs.YtgagekffmamldaaGreatDoor
open Go Go.Isk Go.RowKit
set_option maxRecDepth 20000
structure Act8 where
  kind : Int
  fee : Int
  n : Int
  tx : Bytes
  list : List Bytes
abbrev act8V (x : Act8) (tv lv : Value) : List Value := act8C (.int .i64 x.kind) (.int .i64 x.fee) (.int .i64 x.n) tv lv
def Act8S (S : Nat → Prop) (w : World) (cs : List Value) (x : Act8) : Prop := ∃ tv lv, cs = act8V x tv lv ∧ (I64 x.kind ∧ I64 x.fee ∧ I64 x.n) ∧ (byF tv x.tx).holds S w ∧ (listF bytesF 1 lv x.list).holds S w
theorem Act8S.keep {S D : Nat → Prop} {w w' : World} {cs : List Value} {x : Act8} (h : Act8S S w cs x) (hu : Upd D w w') (hd : ∀ k, S k → ¬ D k) : Act8S S w' cs x := by
  obtain ⟨dv, kv, rfl, hok, h1, h2⟩ := h
  exact ⟨dv, kv, rfl, hok, (byF _ _).keep h1 hu hd, (listF bytesF 1 kv _).keep h2 hu hd⟩
theorem Act8S.mono {S S' : Nat → Prop} {w : World} {cs : List Value} {x : Act8} (h : Act8S S w cs x) (hs : ∀ k, S k → k < w.heap.size → S' k) : Act8S S' w cs x := by
  obtain ⟨dv, kv, rfl, hok, h1, h2⟩ := h
  exact ⟨dv, kv, rfl, hok, (byF _ _).mono h1 hs, (listF bytesF 1 kv _).mono h2 hs⟩
def act8F : Fam Act8 := fun cs x => ⟨fun S w => Act8S S w cs x, Act8S.keep, Act8S.mono⟩
def nF : Fam Int := fun cs n => pureF (cs = [.int .i64 n])
theorem a8T : slT Tryz.prog T.sl_isthmuslaw18_Act T.isthmuslaw18_Act 5 72 = true := by kernel_rfl
/-! ### plain -/
def BInv (p : PoolD) (SF : List (Bytes × Int)) : Prop := ∀ y ∈ p.l, ∀ q ∈ SF, q.1 = hB y.b → q.2 = y.fee
def nextSF (h : Bytes) (fee : Int) (SF : List (Bytes × Int)) : List (Bytes × Int) := (SF.filter fun q => !decide (q.1 = h)) ++ [(h, fee)]
theorem BInv.next {p : PoolD} {SF : List (Bytes × Int)} {bts : Bytes} {fee : Int} {m : Nat} {kn : List Bytes} {c : Int} (h : BInv p SF) (h2 : ¬ knowsP p (hB bts) = true) :
    BInv { p with l := insP ⟨bts, fee, p.came⟩ (p.l.take m), known := kn, came := c } (nextSF (hB bts) fee SF) := by
  intro y hy q hq e
  rcases List.mem_append.1 hq with hq | hq
  · obtain ⟨hq1, hq2⟩ := List.mem_filter.1 hq
    rcases insP_mem hy with rfl | hy
    · simp [e] at hq2
    · exact h y (List.mem_of_mem_take hy) q hq1 e
  · simp only [List.mem_cons, List.not_mem_nil, or_false] at hq
    subst hq
    rcases insP_mem hy with rfl | hy
    · rfl
    · exact absurd e.symm (hasP_false h2 y (List.mem_of_mem_take hy))
section
variable {b : Base} {w : World} {L R : List It} {g g3 g8 : Nat} {v sv lv kv bv cv e : Value} {cs : List Value} {x : Act8} {n : Int}
theorem act8_open (hs : Isk.Sep b w L) (hm : Ins L (act8F cs x).it) : ∃ A c lv, cs = act8V x (.slice A x.tx.length c) lv ∧ Isk.Sep b w ((listF bytesF 1 lv x.list).it :: (byF (.slice A x.tx.length c) x.tx).it :: L) := by
  obtain ⟨tv, lv, rfl, _, h1, h2⟩ : Act8S _ _ cs x := hs.get hm
  obtain ⟨A, c, rfl, _⟩ := h1.1
  have hs2 := hs.fact (f := byF (.slice A x.tx.length c) x.tx) h1
  obtain ⟨tv, lv', e, _, _, h4⟩ : Act8S _ _ _ x := hs2.get (.tl hm)
  have : lv' = lv := by
    have := congrArg (fun l : List Value => l[4]?) e
    simpa [act8C] using this.symm
  subst this
  exact ⟨A, c, lv', rfl, hs2.fact h4⟩
end
end Go.Proofs.YtgagekffmamldaaGreatDoor
set_option linter.unusedVariables false
set_option linter.unusedSimpArgs false
set_option linter.unusedSectionVars false
namespace Go.Proofs.YtgagekffmamldaaGreatDoor
open Go Go.Isk Go.RowKit Go.ChangeShapes Go.WideShapes Go.ChangeAt
set_option maxRecDepth 20000
structure Size8 where
  a : Int
  c : Int
  d : Int
def size8F : Fam Size8 := fun cs x => pureF (cs = size8C (.int .i64 x.a) (.int .i64 x.c) (.int .i64 x.d))
variable {W : World}
theorem opn_Size8 : Opn Tryz.prog W T.isthmuslaw18_Size size8F fun _ => 1 := by
  intro H enc fuel cs x h
  obtain ⟨xs, n, _, rfl, hl, hx, hf⟩ := DataW.trod_struct (isSt.eq (P := Tryz.prog) (t := T.isthmuslaw18_Size) (by kernel_rfl)) h
  obtain ⟨a0, h0, _⟩ := fld oI (i := 0) (off := 0) (by kernel_rfl) hx hf cI
  obtain ⟨a1, h1, _⟩ := fld oI (i := 1) (off := 1) (by kernel_rfl) hx hf cI
  obtain ⟨a2, h2, _⟩ := fld oI (i := 2) (off := 2) (by kernel_rfl) hx hf cI
  have he : cs.drop 3 = [] := List.drop_eq_nil_of_le (Nat.le_of_eq (hl.trans (by kernel_rfl)))
  have e := piece h0.1 (piece h1.1 (piece h2.1 he (by omega)) (by omega)) (by omega)
  refine ⟨⟨a0, a1, a2⟩, (show cs = size8C (.int .i64 a0) (.int .i64 a1) (.int .i64 a2) by simpa [size8C] using e), ?_⟩
  exact bulk_pos _
abbrev act8M (x : Act8) : Nat := max (x.tx.length + 1) ((x.list.map fun l => l.length + 1).sum + 1)
theorem opn_Act8 : Opn Tryz.prog W T.isthmuslaw18_Act act8F act8M := by
  intro H enc fuel cs x h
  obtain ⟨xs, n, _, rfl, hl, hx, hf⟩ := DataW.trod_struct (isSt.eq (P := Tryz.prog) (t := T.isthmuslaw18_Act) (by kernel_rfl)) h
  obtain ⟨a0, h0, _⟩ := fld oI (i := 0) (off := 0) (by kernel_rfl) hx hf cI
  obtain ⟨a1, h1, _⟩ := fld oI (i := 1) (off := 1) (by kernel_rfl) hx hf cI
  obtain ⟨a2, h2, _⟩ := fld oI (i := 2) (off := 2) (by kernel_rfl) hx hf cI
  obtain ⟨a4, ⟨dv, h4, h5⟩, b4⟩ := fld oB (i := 3) (off := 3) (by kernel_rfl) hx hf (sz := 1) (by kernel_rfl)
  obtain ⟨a5, ⟨kv, h6, h7⟩, b5⟩ := fld (opn_list (T := T.sl_sl_uint8) (by kernel_rfl) oB (sz := 1) (by kernel_rfl) (by decide)) (i := 4) (off := 4) (by kernel_rfl) hx hf (sz := 1) (by kernel_rfl)
  have he : cs.drop 5 = [] := List.drop_eq_nil_of_le (Nat.le_of_eq (hl.trans (by kernel_rfl)))
  have e := piece h0.1 (piece h1.1 (piece h2.1 (piece h4 (piece h6 he (by omega)) (by omega)) (by omega)) (by omega)) (by omega)
  refine ⟨⟨a0, a1, a2, a4, a5⟩, ⟨dv, kv, by simpa [act8C] using e, ⟨h0.2, h1.2, h2.2⟩, h5, h7⟩, ?_⟩
  simp only [Rows.uptoBulk]
  exact Nat.le_succ_of_le (Nat.max_le.2 ⟨b4, b5⟩)
theorem act8_small {l : List Act8} (h : (l.map act8M).sum + 1 ≤ 1048576) : ∀ x ∈ l, act8M x ≤ 1048576 := fun x hx => by
  have h1 : act8M x ≤ (l.map act8M).sum := by
    clear h
    induction l with
    | nil => cases hx
    | cons y l ih =>
      simp only [List.map_cons, List.sum_cons]
      rcases List.mem_cons.1 hx with rfl | hx
      · omega
      · have := ih hx
        omega
  omega
end Go.Proofs.YtgagekffmamldaaGreatDoor
