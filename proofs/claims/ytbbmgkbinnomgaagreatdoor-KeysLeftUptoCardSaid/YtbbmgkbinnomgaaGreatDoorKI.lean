/- errors.Is walked: is the error at a chain's end a number. -/
import Derived.Test.YtbbmgkbinnomgaaGreatDoorKF
import Derived.LaidEql
set_option linter.unusedVariables false
set_option linter.unusedSimpArgs false
set_option linter.unusedSectionVars false
namespace Go.Proofs.YtbbmgkbinnomgaaGreatDoor
open Go Go.Isk Go.RowKit Go.Extern
set_option maxRecDepth 20000
section
variable {b : Base} {w : World} {L R : List It} {v : Value} {n m : Int} {t : Nat}
theorem e_compN (w : World) : (ReflectliteType.method (fun t => do Rtype.noPackHeld "Comparable" t; pure (.bool (← typeInfo t).comparable)) #[.agg #[hdl EN]]).run Tryz.prog w = .ok (.bool true) w := by kernel_rfl
theorem is_eqN (o1 o2 : Operand) (w : World) : (bin .eql T.error o1 o2 (.iface EN (.int .i64 n)) (.iface EN (.int .i64 m))).run Tryz.prog w = .ok (.bool (decide (n = m))) w := by
  have hi : Tryz.prog.underlying T.error = some (.interface (Tryz.prog.methodsAt T.error)) := by kernel_rfl
  obtain ⟨i, hc, hcc⟩ : ∃ i, Tryz.prog.info? EN = some i ∧ i.comparable = true := by
    have : (Tryz.prog.info? EN).map (·.comparable) = some true := by kernel_rfl
    obtain ⟨i, h1, h2⟩ := Option.map_eq_some_iff.1 this
    exact ⟨i, h1, h2⟩
  have hu : Tryz.prog.underlying EN = some (.int .i64) := by kernel_rfl
  have h1 : (eqGuard .eql T.error o1 o2 (.iface EN (.int .i64 n)) (.iface EN (.int .i64 m))).run Tryz.prog w = .ok () w := by simp [go_sem]
  rw [bin_run h1]
  have h2 : (Op.equalIn 10000 T.error (.iface EN (.int .i64 n)) (.iface EN (.int .i64 m))).run Tryz.prog w = .ok (n == m) w := by
    rw [show (10000 : Nat) = 9998 + 1 + 1 from rfl, Op.equalIn]
    simp [run_underlying hi, typeInfo, hc, hcc, run_equalIn_int w 9998 EN .i64 .i64 n m hu]
  show ((do pure (.bool (← Op.equal T.error (.iface EN (.int .i64 n)) (.iface EN (.int .i64 m)))) : Sem Value).run Tryz.prog w) = _
  simp [Op.equal, Op.maxDepth, h2]
  by_cases h : n = m <;> simp [h]
theorem is_eqF (o1 o2 : Operand) (p : Value) (w : World) : (bin .eql T.error o1 o2 (.iface T.p_api_Fault p) (.iface EN (.int .i64 m))).run Tryz.prog w = .ok (.bool false) w := by
  have hi : Tryz.prog.underlying T.error = some (.interface (Tryz.prog.methodsAt T.error)) := by kernel_rfl
  have hne : T.p_api_Fault ≠ EN := by decide
  have h1 : (eqGuard .eql T.error o1 o2 (.iface T.p_api_Fault p) (.iface EN (.int .i64 m))).run Tryz.prog w = .ok () w := by simp [go_sem]
  rw [bin_run h1]
  have h2 : (Op.equalIn 10000 T.error (.iface T.p_api_Fault p) (.iface EN (.int .i64 m))).run Tryz.prog w = .ok false w := by
    rw [show (10000 : Nat) = 9999 + 1 from rfl, Op.equalIn]
    simp [run_underlying hi, hne]
  show ((do pure (.bool (← Op.equal T.error (.iface T.p_api_Fault p) (.iface EN (.int .i64 m)))) : Sem Value).run Tryz.prog w) = _
  simp [Op.equal, Op.maxDepth, h2]
theorem is_eq0 (o1 o2 : Operand) (w : World) : (bin .eql T.error o1 o2 .nilIface (.iface EN (.int .i64 m))).run Tryz.prog w = .ok (.bool false) w := by
  have hi : Tryz.prog.underlying T.error = some (.interface (Tryz.prog.methodsAt T.error)) := by kernel_rfl
  have h1 : (eqGuard .eql T.error o1 o2 .nilIface (.iface EN (.int .i64 m))).run Tryz.prog w = .ok () w := by simp [go_sem]
  rw [bin_run h1]
  exact run_eql_iface_nil_left w EN _ hi
theorem errors_is (hn : n ≠ 0) (hs : Isk.Sep b w L) {d : Nat} (hv : Ins L (errDF d v n).it) :
    C Tryz.prog N.errors_is #[v, .iface EN (.int .i64 m), .bool true] w fun r w' => r = .bool (decide (n = m)) ∧ Isk.Sep b w' L := by
  refine C.errors_is ?_
  unfold F.errors_is
  repeat with_reducible refine mv.mk ?_
  have h0 : ErrD _ w d v n := hs.get hv
  refine lp_by (fun vs w' => ∃ d' v' x2 x3 x4 x5 x6 x7 x8, w' = w ∧ vs = [v', .bool false, x2, x3, x4, x5, x6, x7, x8] ∧ Isk.Sep b w ((errDF d' v' n).it :: L)) (fun vs w' => match vs with | v' :: _ => errDepth w' v' | _ => 0)
    ⟨d, v, _, _, _, _, _, _, _, rfl, rfl, hs.fact h0⟩ ?_
  rintro x w ⟨d', v', x2, x3, x4, x5, x6, x7, x8, rfl, hx, hs⟩
  simp only [List.cons.injEq] at hx
  rw [hx.1]
  repeat with_reducible refine mv.mk ?_
  have hd : ErrD _ w d' v' n := hs.get .hd
  have hdd := errDepth_eq (hd.mono fun _ _ _ => trivial)
  cases d' with
  | zero =>
    rcases hd with ⟨_, e⟩ | ⟨rfl, _, _, _⟩
    · exact absurd e hn
    repeat (first
     | (with_reducible (first | refine st_lens ?_ | refine st_eqls ?_ | refine mv.mk ?_ | refine gd_u ?_ | refine gd_ft ?_ | refine gd_tf ?_ | refine gd_i ?_ | refine pk_t ?_ | refine pk_f ?_ | refine br_t ?_ | refine br_f ?_))
     | (with_reducible ((first | apply st_bin | apply st_ext | apply st_len); intro k' hk; simp [go_sem, thenR_ok, bin]; refine hk _ _ ?_; clear hk k')))
    refine st_of (is_eqN _ _ _) ?_
    by_cases hnm : n = m
    · rw [decide_eq_true hnm]
      repeat (first
       | (with_reducible (first | refine st_lens ?_ | refine st_eqls ?_ | refine mv.mk ?_ | refine gd_u ?_ | refine gd_ft ?_ | refine gd_tf ?_ | refine gd_i ?_ | refine pk_t ?_ | refine pk_f ?_ | refine br_t ?_ | refine br_f ?_))
       | (with_reducible ((first | apply st_bin | apply st_ext | apply st_len); intro k' hk; simp [go_sem, thenR_ok, bin]; refine hk _ _ ?_; clear hk k')))
      exact ⟨rfl, hs.drop .hd⟩
    rw [decide_eq_false hnm]
    repeat (first
     | (with_reducible (first | refine st_lens ?_ | refine st_eqls ?_ | refine mv.mk ?_ | refine gd_u ?_ | refine gd_ft ?_ | refine gd_tf ?_ | refine gd_i ?_ | refine pk_t ?_ | refine pk_f ?_ | refine br_t ?_ | refine br_f ?_))
     | (with_reducible ((first | apply st_bin | apply st_ext | apply st_len); intro k' hk; simp [go_sem, thenR_ok, bin]; refine hk _ _ ?_; clear hk k')))
    refine st_of (ass_lacks (by kernel_rfl)) ?_
    repeat (first
     | (with_reducible (first | refine st_lens ?_ | refine st_eqls ?_ | refine mv.mk ?_ | refine gd_u ?_ | refine gd_ft ?_ | refine gd_tf ?_ | refine gd_i ?_ | refine pk_t ?_ | refine pk_f ?_ | refine br_t ?_ | refine br_f ?_))
     | (with_reducible ((first | apply st_bin | apply st_ext | apply st_len); intro k' hk; simp [go_sem, thenR_ok, bin]; refine hk _ _ ?_; clear hk k')))
    refine st_of (ass_lacks (by kernel_rfl)) ?_
    repeat (first
     | (with_reducible (first | refine st_lens ?_ | refine st_eqls ?_ | refine mv.mk ?_ | refine gd_u ?_ | refine gd_ft ?_ | refine gd_tf ?_ | refine gd_i ?_ | refine pk_t ?_ | refine pk_f ?_ | refine br_t ?_ | refine br_f ?_))
     | (with_reducible ((first | apply st_bin | apply st_ext | apply st_len); intro k' hk; simp [go_sem, thenR_ok, bin]; refine hk _ _ ?_; clear hk k')))
    refine st_of (ass_lacks (by kernel_rfl)) ?_
    repeat (first
     | (with_reducible (first | refine st_lens ?_ | refine st_eqls ?_ | refine mv.mk ?_ | refine gd_u ?_ | refine gd_ft ?_ | refine gd_tf ?_ | refine gd_i ?_ | refine pk_t ?_ | refine pk_f ?_ | refine br_t ?_ | refine br_f ?_))
     | (with_reducible ((first | apply st_bin | apply st_ext | apply st_len); intro k' hk; simp [go_sem, thenR_ok, bin]; refine hk _ _ ?_; clear hk k')))
    exact ⟨rfl, hs.drop .hd⟩
  | succ d' =>
    obtain ⟨g, s, v2, rfl, _, hr, hd2⟩ := hd
    repeat (first
     | (with_reducible (first | refine st_lens ?_ | refine st_eqls ?_ | refine mv.mk ?_ | refine gd_u ?_ | refine gd_ft ?_ | refine gd_tf ?_ | refine gd_i ?_ | refine pk_t ?_ | refine pk_f ?_ | refine br_t ?_ | refine br_f ?_))
     | (with_reducible ((first | apply st_bin | apply st_ext | apply st_len); intro k' hk; simp [go_sem, thenR_ok, bin]; refine hk _ _ ?_; clear hk k')))
    refine st_of (is_eqF _ _ _ _) ?_
    repeat (first
     | (with_reducible (first | refine st_lens ?_ | refine st_eqls ?_ | refine mv.mk ?_ | refine gd_u ?_ | refine gd_ft ?_ | refine gd_tf ?_ | refine gd_i ?_ | refine pk_t ?_ | refine pk_f ?_ | refine br_t ?_ | refine br_f ?_))
     | (with_reducible ((first | apply st_bin | apply st_ext | apply st_len); intro k' hk; simp [go_sem, thenR_ok, bin]; refine hk _ _ ?_; clear hk k')))
    refine st_of (ass_lacks (by kernel_rfl)) ?_
    repeat (first
     | (with_reducible (first | refine st_lens ?_ | refine st_eqls ?_ | refine mv.mk ?_ | refine gd_u ?_ | refine gd_ft ?_ | refine gd_tf ?_ | refine gd_i ?_ | refine pk_t ?_ | refine pk_f ?_ | refine br_t ?_ | refine br_f ?_))
     | (with_reducible ((first | apply st_bin | apply st_ext | apply st_len); intro k' hk; simp [go_sem, thenR_ok, bin]; refine hk _ _ ?_; clear hk k')))
    refine st_of (ass_has (by kernel_rfl)) ?_
    repeat (first
     | (with_reducible (first | refine st_lens ?_ | refine st_eqls ?_ | refine mv.mk ?_ | refine gd_u ?_ | refine gd_ft ?_ | refine gd_tf ?_ | refine gd_i ?_ | refine pk_t ?_ | refine pk_f ?_ | refine br_t ?_ | refine br_f ?_))
     | (with_reducible ((first | apply st_bin | apply st_ext | apply st_len); intro k' hk; simp [go_sem, thenR_ok, bin]; refine hk _ _ ?_; clear hk k')))
    refine iv_fn (f := N.api_Fault_Unwrap) (r := .pointer (some ⟨g, 0, none⟩)) (by kernel_rfl) (by kernel_rfl) ?_
    have hd3 := hd2
    replace hs := hs.fact (f := errDF d' v2 n) hd2
    have hr' := hs.fact (f := rngF g 0 [str s, v2]) ((rngF g 0 _).mono hr fun k hk _ => ⟨hk.1, fun hm => hk.2 (mine_fact.1 hm)⟩)
    refine cl (api_Fault_Unwrap hr' (by repeat (first | with_reducible exact Rng.blk | with_reducible exact Rng.rng | with_reducible apply Rng.tl))) ?_
    rintro r1 w1 ⟨e1, e2⟩
    subst e2; subst e1
    repeat with_reducible refine mv.mk ?_
    have hnn : ∃ ty u, r1 = .iface ty u := by
      cases d' with
      | zero =>
        rcases hd2 with ⟨_, e⟩ | ⟨rfl, _⟩
        · exact absurd e hn
        · exact ⟨_, _, rfl⟩
      | succ d' =>
        obtain ⟨g4, s4, v4, rfl, _⟩ := hd2
        exact ⟨_, _, rfl⟩
    obtain ⟨ty, u, rfl⟩ := hnn
    repeat (first
     | (with_reducible (first | refine st_lens ?_ | refine st_eqls ?_ | refine mv.mk ?_ | refine gd_u ?_ | refine gd_ft ?_ | refine gd_tf ?_ | refine gd_i ?_ | refine pk_t ?_ | refine pk_f ?_ | refine br_t ?_ | refine br_f ?_))
     | (with_reducible ((first | apply st_bin | apply st_ext | apply st_len); intro k' hk; simp [go_sem, thenR_ok, bin]; refine hk _ _ ?_; clear hk k')))
    have hdd2 := errDepth_eq (hd3.mono fun _ _ _ => trivial)
    refine ⟨⟨d', _, _, _, _, _, _, _, _, rfl, by rw [hx.2.1], hs.sbl (by repeat (first | with_reducible exact Sbl.all | with_reducible exact Sbl.nil | refine Sbl.cons (by first | ((repeat (first | with_reducible exact Has.hd | with_reducible apply Has.tl)); done) | (repeat (first | exact Has.hd | with_reducible apply Has.tl))) ?_ | refine Sbl.drop ?_))⟩, by simp only []; rw [hdd, hdd2]; omega⟩
theorem errors_Is (hs : Isk.Sep b w L) (hv : Ins L (errF v n).it) (hm : m ≠ 0) :
    C Tryz.prog N.errors_Is #[v, .iface EN (.int .i64 m)] w fun r w' => r = .bool (decide (n = m)) ∧ Isk.Sep b w' L := by
  obtain ⟨d, h0⟩ := hs.get hv
  refine C.errors_Is ?_
  unfold F.errors_Is
  by_cases hn : n = 0
  · have hv0 : v = .nilIface := by
      cases d with
      | zero =>
        rcases h0 with ⟨rfl, _⟩ | ⟨_, h, _⟩
        · rfl
        · exact absurd hn h
      | succ d' =>
        obtain ⟨_, _, _, _, h, _⟩ := h0
        exact absurd hn h
    subst hv0
    repeat (first
     | (with_reducible (first | refine st_eqls ?_ | refine mv.mk ?_ | refine gd_u ?_ | refine gd_ft ?_ | refine gd_tf ?_ | refine gd_i ?_ | refine pk_t ?_ | refine pk_f ?_ | refine br_t ?_ | refine br_f ?_))
     | (with_reducible ((first | apply st_bin); intro k' hk; simp [go_sem, thenR_ok, bin]; refine hk _ _ ?_; clear hk k')))
    refine st_of (is_eq0 _ _ _) ?_
    repeat with_reducible refine mv.mk ?_
    exact ⟨by rw [decide_eq_false]; rw [hn]; exact fun e => hm e.symm, hs⟩
  have hnn : ∃ ty u, v = .iface ty u := by
    cases d with
    | zero =>
      rcases h0 with ⟨_, e⟩ | ⟨rfl, _⟩
      · exact absurd e hn
      · exact ⟨_, _, rfl⟩
    | succ d' =>
      obtain ⟨g4, s4, v4, rfl, _⟩ := h0
      exact ⟨_, _, rfl⟩
  obtain ⟨ty, u, rfl⟩ := hnn
  repeat (first
   | (with_reducible (first | refine st_eqls ?_ | refine mv.mk ?_ | refine gd_u ?_ | refine gd_ft ?_ | refine gd_tf ?_ | refine gd_i ?_ | refine pk_t ?_ | refine pk_f ?_ | refine br_t ?_ | refine br_f ?_))
   | (with_reducible ((first | apply st_bin); intro k' hk; simp [go_sem, thenR_ok, bin]; refine hk _ _ ?_; clear hk k')))
  refine oN_ext (by kernel_rfl) (e_typeOfN _ _) ?_
  refine iv_ext (f := N.internal_reflectlite_rtype_Comparable) (by kernel_rfl) (by kernel_rfl) (e_compN _) ?_
  repeat with_reducible refine mv.mk ?_
  refine cl (errors_is (d := d) hn (hs.fact (f := errDF d _ n) h0) .hd) ?_
  rintro _ w ⟨rfl, hs⟩
  repeat with_reducible refine mv.mk ?_
  exact ⟨rfl, hs.drop .hd⟩
end
end Go.Proofs.YtbbmgkbinnomgaaGreatDoor
