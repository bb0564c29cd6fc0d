/- Commits counted: the power of those that signed. -/
import Derived.Test.YtlfelmikcdmkhaaGreatDoorY5
import Derived.Test.YtlfelmikcdmkhaaGreatDoorKP
set_option linter.unusedVariables false
set_option linter.unusedSimpArgs false
set_option linter.unusedSectionVars false
namespace Go.Proofs.YtlfelmikcdmkhaaGreatDoor
open Go Go.Isk Go.RowKit
/-- a sum -/
def Sf (f : Nat → Int) : Nat → Int
  | 0 => 0
  | n + 1 => Sf f n + f n
/-- the power of the i-th -/
def pwr (l : List Validator) (i : Nat) : Int := match l[i]? with | some x => x.power | none => 0
def hasV (vs : List Vote) (i : Nat) : Bool := vs.any fun v => decide (v.validator = (i : Int))
/-- the votes are by validators below n, one above the other -/
def Asc (n : Nat) : Int → List Vote → Prop
  | _, [] => True
  | last, v :: r => last < v.validator ∧ v.validator < n ∧ Asc n v.validator r
def sumV (f : Nat → Int) : List Vote → Int
  | [] => 0
  | v :: r => f v.validator.toNat + sumV f r
/-- the power of those that are in both -/
def thirdIn (l : List Validator) (u : Int) (p : Int) (vs : List Vote) : Int := vs.foldl (fun p v => if u = v.validator ∧ 0 ≤ u ∧ u < l.length then IntKind.i64.wrap (p + powerOf l u) else p) p
def third (l : List Validator) (xs ys : List Vote) : Int := xs.foldl (fun p u => thirdIn l u.validator p ys) 0
end Go.Proofs.YtlfelmikcdmkhaaGreatDoor
set_option linter.unusedVariables false
set_option linter.unusedSimpArgs false
set_option linter.unusedSectionVars false
namespace Go.Proofs.YtlfelmikcdmkhaaGreatDoor
open Go Go.Isk Go.RowKit Go.ChangeShapes Go.WideShapes Go.ChangeAt
set_option maxRecDepth 20000
structure CaseD where
  chain : Bytes
  set : List Validator
  dg : Int
  dp : Int
abbrev caseV (c : CaseD) (sv : Value) : List Value := caseC (str c.chain) sv [.int .i64 c.dg, .int .i64 c.dp]
def CaseS (S : Nat → Prop) (w : World) (cs : List Value) (c : CaseD) : Prop := ∃ sv, cs = caseV c sv ∧ (I64 c.dg ∧ I64 c.dp) ∧ (listF valiF 34 sv c.set).holds S w
theorem CaseS.keep {S D : Nat → Prop} {w w' : World} {cs : List Value} {x : CaseD} (h : CaseS S w cs x) (hu : Upd D w w') (hd : ∀ k, S k → ¬ D k) : CaseS S w' cs x := by
  obtain ⟨sv, rfl, hok, h⟩ := h
  exact ⟨sv, rfl, hok, (listF valiF 34 sv _).keep h hu hd⟩
theorem CaseS.mono {S S' : Nat → Prop} {w : World} {cs : List Value} {x : CaseD} (h : CaseS S w cs x) (hs : ∀ k, S k → k < w.heap.size → S' k) : CaseS S' w cs x := by
  obtain ⟨sv, rfl, hok, h⟩ := h
  exact ⟨sv, rfl, hok, (listF valiF 34 sv _).mono h hs⟩
def caseF : Fam CaseD := fun cs c => ⟨fun S w => CaseS S w cs c, CaseS.keep, CaseS.mono⟩
def paraF : Fam (Int × Int) := fun cs p => pureF (cs = [.int .i64 p.1, .int .i64 p.2] ∧ I64 p.1 ∧ I64 p.2)
section
variable {W : World}
theorem opn_Params : Opn Tryz.prog W T.api_Params paraF fun _ => 1 := by
  intro H enc fuel cs x h
  obtain ⟨xs, n, _, rfl, hl, hx, hf⟩ := DataW.trod_struct (isSt.eq (P := Tryz.prog) (t := T.api_Params) (by kernel_rfl)) h
  obtain ⟨a0, h0, _⟩ := fld oI (i := 0) (off := 0) (by kernel_rfl) hx hf cI
  obtain ⟨a1, h1, _⟩ := fld oI (i := 1) (off := 1) (by kernel_rfl) hx hf cI
  have he : cs.drop 2 = [] := List.drop_eq_nil_of_le (Nat.le_of_eq (hl.trans (by kernel_rfl)))
  have e := piece h0.1 (piece h1.1 he (by omega)) (by omega)
  exact ⟨(a0, a1), ⟨by simpa using e, h0.2, h1.2⟩, bulk_pos _⟩
theorem opn_Case : Opn Tryz.prog W T.isthmuslaw11_Case caseF fun x => max (x.chain.length + 1) ((x.set.map fun v => v.name.length + 1).sum + 1) := by
  intro H enc fuel cs x h
  obtain ⟨xs, n, _, rfl, hl, hx, hf⟩ := DataW.trod_struct (isSt.eq (P := Tryz.prog) (t := T.isthmuslaw11_Case) (by kernel_rfl)) h
  obtain ⟨a0, h0, hb0⟩ := fld oS (i := 0) (off := 0) (by kernel_rfl) hx hf (sz := 1) (by kernel_rfl)
  obtain ⟨a1, ⟨sv, h1, h2⟩, hb1⟩ := fld (opn_list (T := T.sl_api_Validator) (by kernel_rfl) opn_Validator (sz := 34) (by kernel_rfl) (by decide)) (i := 1) (off := 1) (by kernel_rfl) hx hf (sz := 1) (by kernel_rfl)
  obtain ⟨a2, h3, _⟩ := fld opn_Params (i := 2) (off := 2) (by kernel_rfl) hx hf (sz := 2) (by kernel_rfl)
  have he : cs.drop 4 = [] := List.drop_eq_nil_of_le (Nat.le_of_eq (hl.trans (by kernel_rfl)))
  have e := piece h0.1 (piece h1 (piece h3.1 he rfl) rfl) rfl
  refine ⟨⟨a0, a1, a2.1, a2.2⟩, ⟨sv, by simpa [caseC] using e, h3.2, h2⟩, ?_⟩
  simp only [Rows.uptoBulk]
  exact Nat.le_succ_of_le (Nat.max_le.2 ⟨hb0, hb1⟩)
end
section
variable {b : Base} {w : World} {L R : List It} {cs : List Value} {dg dp : Int}
def cutD (dp : Int) : Int := if 3 < dp ∧ dp ≤ 10 then dp % 4 else dp
theorem isthmuslaw11_cut (hs : Isk.Sep b w L) : C Tryz.prog N.isthmuslaw11_cut #[.agg #[.int .i64 dg, .int .i64 dp]] w fun r w' => r = .agg #[.int .i64 dg, .int .i64 (cutD dp)] ∧ Isk.Sep b w' L := by
  refine C.isthmuslaw11_cut ?_
  unfold F.isthmuslaw11_cut
  refine sp_box (cs := paraC (.int .i64 dg) (.int .i64 dp)) hs rfl fun g1 w hs => ?_
  refine sp_newr hs (by kernel_rfl) fun g2 w hs => ?_
  repeat (first
   | (with_reducible refine para.a1 ?_)
   | ((with_reducible apply para.r1 hs); (· (with_reducible (repeat (first | exact .blk | exact .rng | apply Rng.tl)))))
   | (with_reducible (first | refine mv.mk ?_ | refine gd_u ?_ | refine gd_ft ?_ | refine gd_tf ?_ | refine gd_i ?_ | refine pk_t ?_ | refine pk_f ?_ | refine br_t ?_ | refine br_f ?_ | refine sp_boxa hs fun g w hs => ?_))
   | (with_reducible ((first | apply st_bin); intro k' hk; simp [go_sem, thenR_ok, bin]; refine hk _ _ ?_; clear hk k'))
   | ((with_reducible apply sp_newr hs); (· kernel_rfl); intro g w hs))
  have hend : ∀ (n : Int) (w : World), n = cutD dp → Isk.Sep b w (resI Tryz.prog g2 T.api_Params :: blkI g1 T.api_Params (paraC (.int .i64 dg) (.int .i64 n)) :: L) →
      o1 Tryz.prog (Instr.loadAt T.api_Params (.pointer (some ⟨g1, 0, none⟩))) w fun t15 w => o0 Tryz.prog (Instr.storeAt T.api_Params (.pointer (some ⟨g2, 0, none⟩)) t15) w fun _ w =>
        rc Tryz.prog T.api_Params (.pointer (some ⟨g2, 0, none⟩)) w fun r => r = .agg #[.int .i64 dg, .int .i64 (cutD dp)] ∧ Isk.Sep b w L := by
    intro n w e hs
    subst e
    refine sp_loadall hs (.tl .hd) (by kernel_rfl) rfl ?_
    refine sp_ret (ds := paraC (.int .i64 dg) (.int .i64 (cutD dp))) (K := fun r w => r = .agg #[.int .i64 dg, .int .i64 (cutD dp)] ∧ Isk.Sep b w L) hs (by first | ((repeat (first | with_reducible exact Has.hd | with_reducible apply Has.tl)); done) | (repeat (first | exact Has.hd | with_reducible apply Has.tl))) (by kernel_rfl) rfl (by simp [paraC, Value.oneCell']) fun w hs => ⟨rfl, hs.drop .hd⟩
  by_cases c1 : 3 < dp
  rotate_left
  · rw [show decide (3 < dp) = false from decide_eq_false c1]
    repeat (first
     | (with_reducible (first | refine mv.mk ?_ | refine gd_u ?_ | refine gd_ft ?_ | refine gd_tf ?_ | refine gd_i ?_ | refine pk_t ?_ | refine pk_f ?_ | refine br_t ?_ | refine br_f ?_ | refine sp_boxa hs fun g w hs => ?_))
     | (with_reducible ((first | apply st_bin); intro k' hk; simp [go_sem, thenR_ok, bin]; refine hk _ _ ?_; clear hk k'))
     | ((with_reducible apply sp_newr hs); (· kernel_rfl); intro g w hs))
    refine jn_by (fun _ w' => Isk.Sep b w' (resI Tryz.prog g2 T.api_Params :: blkI g1 T.api_Params (paraC (.int .i64 dg) (.int .i64 dp)) :: L)) (br_f hs) ?_
    rintro _ w hs
    exact hend dp w (by rw [cutD, if_neg (fun h => c1 h.1)]) hs
  rw [show decide (3 < dp) = true from decide_eq_true c1]
  repeat (first
   | (with_reducible refine para.a1 ?_)
   | ((with_reducible apply para.r1 hs); (· (with_reducible (repeat (first | exact .blk | exact .rng | apply Rng.tl)))))
   | (with_reducible (first | refine mv.mk ?_ | refine gd_u ?_ | refine gd_ft ?_ | refine gd_tf ?_ | refine gd_i ?_ | refine pk_t ?_ | refine pk_f ?_ | refine br_t ?_ | refine br_f ?_ | refine sp_boxa hs fun g w hs => ?_))
   | (with_reducible ((first | apply st_bin); intro k' hk; simp [go_sem, thenR_ok, bin]; refine hk _ _ ?_; clear hk k'))
   | ((with_reducible apply sp_newr hs); (· kernel_rfl); intro g w hs))
  by_cases c2 : dp ≤ 10
  rotate_left
  · rw [show decide (dp ≤ 10) = false from decide_eq_false c2]
    repeat (first
     | (with_reducible (first | refine mv.mk ?_ | refine gd_u ?_ | refine gd_ft ?_ | refine gd_tf ?_ | refine gd_i ?_ | refine pk_t ?_ | refine pk_f ?_ | refine br_t ?_ | refine br_f ?_ | refine sp_boxa hs fun g w hs => ?_))
     | (with_reducible ((first | apply st_bin); intro k' hk; simp [go_sem, thenR_ok, bin]; refine hk _ _ ?_; clear hk k'))
     | ((with_reducible apply sp_newr hs); (· kernel_rfl); intro g w hs))
    refine jn_by (fun _ w' => Isk.Sep b w' (resI Tryz.prog g2 T.api_Params :: blkI g1 T.api_Params (paraC (.int .i64 dg) (.int .i64 dp)) :: L)) (br_f hs) ?_
    rintro _ w hs
    exact hend dp w (by rw [cutD, if_neg (fun h => c2 h.2)]) hs
  rw [show decide (dp ≤ 10) = true from decide_eq_true c2]
  repeat (first
   | (with_reducible refine para.a1 ?_)
   | ((with_reducible apply para.r1 hs); (· (with_reducible (repeat (first | exact .blk | exact .rng | apply Rng.tl)))))
   | (with_reducible (first | refine mv.mk ?_ | refine gd_u ?_ | refine gd_ft ?_ | refine gd_tf ?_ | refine gd_i ?_ | refine pk_t ?_ | refine pk_f ?_ | refine br_t ?_ | refine br_f ?_ | refine sp_boxa hs fun g w hs => ?_))
   | (with_reducible ((first | apply st_bin); intro k' hk; simp [go_sem, thenR_ok, bin]; refine hk _ _ ?_; clear hk k'))
   | ((with_reducible apply sp_newr hs); (· kernel_rfl); intro g w hs))
  refine jn_by (fun _ w' => Isk.Sep b w' (resI Tryz.prog g2 T.api_Params :: blkI g1 T.api_Params (paraC (.int .i64 dg) (.int .i64 (dp % 4))) :: L)) (br_t ?_) ?_
  · repeat (first
     | (with_reducible refine para.a1 ?_)
     | ((with_reducible apply para.r1 hs); (· (with_reducible (repeat (first | exact .blk | exact .rng | apply Rng.tl)))))
     | (with_reducible (first | refine mv.mk ?_ | refine gd_u ?_ | refine gd_ft ?_ | refine gd_tf ?_ | refine gd_i ?_ | refine pk_t ?_ | refine pk_f ?_ | refine br_t ?_ | refine br_f ?_ | refine sp_boxa hs fun g w hs => ?_))
     | (with_reducible ((first | apply st_bin); intro k' hk; simp [go_sem, thenR_ok, bin]; refine hk _ _ ?_; clear hk k'))
     | ((with_reducible apply sp_newr hs); (· kernel_rfl); intro g w hs))
    refine sx_st (p := 1) hs (.tl .hd) (by kernel_rfl) ⟨rfl, rfl⟩ (by simp [paraC]) fun w' hs => ?_
    rw [Int.tmod_eq_emod_of_nonneg (by omega)] at hs
    exact hs.sbl (.cons (.tl .hd) (.cons .hd .all))
  · rintro _ w hs
    exact hend _ w (by rw [cutD, if_pos ⟨c1, c2⟩]) hs
end
end Go.Proofs.YtlfelmikcdmkhaaGreatDoor
