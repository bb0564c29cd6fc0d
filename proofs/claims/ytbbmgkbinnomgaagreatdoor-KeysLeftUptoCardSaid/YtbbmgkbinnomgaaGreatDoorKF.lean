/- errors.As walked. -/
import Derived.Test.YtbbmgkbinnomgaaGreatDoorKG
import Derived.Test.YtbbmgkbinnomgaaGreatDoorTF
import Derived.Below
set_option linter.unusedVariables false
set_option linter.unusedSimpArgs false
set_option linter.unusedSectionVars false
namespace Go.Proofs.YtbbmgkbinnomgaaGreatDoor
open Go Go.Isk Go.RowKit Go.Extern
theorem setCell_blk {w : World} {t T : Nat} {old u : Value} (h : Blk w t T [old]) : Blk (w.setCell ⟨t, 0, none⟩ u) t T [u] ∧ Upd (fun k => k = t) w (w.setCell ⟨t, 0, none⟩ u) := by
  refine ⟨?_, rfl, rfl, rfl, by simp [World.setCell], fun k _ hn => Below.heap_setCell w _ u k hn⟩
  unfold Blk at h ⊢
  simp [World.setCell, Array.getElem?_modify, h]
section
variable {b : Base} {w : World} {L R : List It} {v : Value} {n : Int} {t : Nat}
theorem api_Fault_Unwrap {g : Nat} {s : List UInt8} (hs : Sep b w L) (hm : Rng L g 0 [str s, v]) : C Tryz.prog N.api_Fault_Unwrap #[.pointer (some ⟨g, 0, none⟩)] w fun r w' => r = v ∧ w' = w := by
  refine C.api_Fault_Unwrap ?_
  unfold F.api_Fault_Unwrap
  repeat with_reducible refine mv.mk ?_
  refine nk_p ?_
  repeat with_reducible refine mv.mk ?_
  refine sp_f1 (off := 1) (cs := [str s, v]) (by kernel_rfl) (by kernel_rfl) rfl hs hm ?_
  repeat with_reducible refine mv.mk ?_
  exact ⟨rfl, rfl⟩
theorem errors_as {d : Nat} {old : Value} {a1 : Value} (hn : n ≠ 0) (hs : Sep b w L) (hm : Has L (blkI t EN [old]) R) (hv : Ins R (errDF d v n).it) {a : Nat} (ha : Rng R a 0 [.pointer (some ⟨t, 0, none⟩)]) :
    C Tryz.prog N.errors_as #[v, a1, .agg #[hdl EP, .pointer (some ⟨a, 0, none⟩), .int .u64 150], rty EN] w fun r w' => r = .bool true ∧ Sep b w' (blkI t EN [.int .i64 n] :: R) := by
  replace hs := hs.perm hm.perm
  refine C.errors_as ?_
  unfold F.errors_as
  refine sp_box hs rfl fun g6 w0 hs => mv.mk ?_
  have h0 : ErrD _ w0 d v n := hs.get (.tl (.tl hv))
  refine lp_by (fun vs w' => ∃ d' v' x1 x2 x3 x4 x5 x6 x7 x8, w' = w0 ∧ vs = [v', x1, x2, x3, x4, x5, x6, x7, x8] ∧ Sep b w0 ((errDF d' v' n).it :: blkI g6 T.reflectlite_Value [hdl EP, .pointer (some ⟨a, 0, none⟩), .int .u64 150] :: blkI t EN [old] :: R)) (fun vs _ => match vs with | v :: _ => errDepth w0 v | _ => 0)
    ⟨d, v, _, _, _, _, _, _, _, _, rfl, rfl, hs.fact h0⟩ ?_
  rintro x w ⟨d', v', x1, x2, x3, x4, x5, x6, x7, x8, rfl, hx, hs⟩
  simp only [List.cons.injEq, and_true] at hx
  rw [hx.1]
  repeat with_reducible refine mv.mk ?_
  have hd : ErrD _ w d' v' n := hs.get .hd
  have hdd := errDepth_eq (hd.mono fun _ _ _ => trivial)
  cases d' with
  | zero =>
    rcases hd with ⟨_, e⟩ | ⟨rfl, _, _, _⟩
    · exact absurd e hn
    refine oN_ext (by kernel_rfl) (e_typeOfN _ _) ?_
    repeat with_reducible refine mv.mk ?_
    refine iv_ext (f := N.internal_reflectlite_rtype_AssignableTo) (by kernel_rfl) (by kernel_rfl) (e_assignN _) (br_t ?_)
    refine sp_loadall hs (by first | ((repeat (first | with_reducible exact Has.hd | with_reducible apply Has.tl)); done) | (repeat (first | exact Has.hd | with_reducible apply Has.tl))) (by kernel_rfl) rfl ?_
    have hac := hs.rng (.tl (.tl (.tl ha))) 0 _ rfl
    refine oN_ext (by kernel_rfl) (e_elemV _ _ _ hac) ?_
    repeat with_reducible refine mv.mk ?_
    have hb := hs.blk (g := t) (t := EN) (by first | ((repeat (first | with_reducible exact Has.hd | with_reducible apply Has.tl)); done) | (repeat (first | exact Has.hd | with_reducible apply Has.tl)))
    have ht := hb.cell 0
    refine oN_ext (e := fun args => ReflectliteValue.unpack (args.getD 0 (.tuple #[]))) (by kernel_rfl) (e_valueOfN n w) ?_
    have hu1 : Ext w (w.alloc (.cells #[.int .i64 n] EN)) := upd_alloc _
    have hb1 : Blk (w.alloc (.cells #[.int .i64 n] EN)) w.heap.size EN [.int .i64 n] := Blk.new
    have ht1 := hb.ext hu1
    refine oN_ext (by kernel_rfl) (e_set ⟨t, 0, none⟩ ⟨w.heap.size, 0, none⟩ n old _ (hb1.cell 0) (ht1.cell 0) (ht1.frozen 0)) ?_
    have hq := setCell_blk (u := .int .i64 n) ht1
    replace hs := (hs.ext hu1).reblk (g := t) (t := EN) (by first | ((repeat (first | with_reducible exact Has.hd | with_reducible apply Has.tl)); done) | (repeat (first | exact Has.hd | with_reducible apply Has.tl))) hq.2 hq.1
    repeat with_reducible refine mv.mk ?_
    exact ⟨rfl, hs.sbl (by repeat (first | with_reducible exact Sbl.all | with_reducible exact Sbl.nil | refine Sbl.cons (by first | ((repeat (first | with_reducible exact Has.hd | with_reducible apply Has.tl)); done) | (repeat (first | exact Has.hd | with_reducible apply Has.tl))) ?_ | refine Sbl.drop ?_))⟩
  | succ d' =>
    obtain ⟨g, s, v2, rfl, _, hr, hd2⟩ := hd
    refine oN_ext (by kernel_rfl) (e_typeOfF _ _) ?_
    repeat with_reducible refine mv.mk ?_
    refine iv_ext (f := N.internal_reflectlite_rtype_AssignableTo) (by kernel_rfl) (by kernel_rfl) (e_assignF _) (br_f ?_)
    repeat with_reducible refine mv.mk ?_
    refine st_of (ass_lacks (by kernel_rfl)) ?_
    repeat with_reducible refine mv.mk ?_
    refine st1 fun k' hk => ?_; simp [go_sem, thenR_ok, bin]; refine hk _ _ ?_; clear hk k'
    refine st1 fun k' hk => ?_; simp [go_sem, thenR_ok, bin]; refine hk _ _ ?_; clear hk k'
    repeat (first | (with_reducible refine mv.mk ?_) | (with_reducible refine gd_ft ?_) | (with_reducible refine pk_f ?_) | (with_reducible refine br_f ?_))
    refine st_of (ass_has (by kernel_rfl)) ?_
    refine st1 fun k' hk => ?_; simp [go_sem, thenR_ok, bin]; refine hk _ _ ?_; clear hk k'
    refine st1 fun k' hk => ?_; simp [go_sem, thenR_ok, bin]; refine hk _ _ ?_; clear hk k'
    repeat (first | (with_reducible refine mv.mk ?_) | (with_reducible refine gd_ft ?_) | (with_reducible refine br_t ?_))
    refine iv_fn (f := N.api_Fault_Unwrap) (r := .pointer (some ⟨g, 0, none⟩)) (by kernel_rfl) (by kernel_rfl) ?_
    have hd3 := hd2
    replace hs := hs.fact (f := errDF d' v2 n) hd2
    have hr' := hs.fact (f := rngF g 0 [str s, v2]) ((rngF g 0 _).mono hr fun k hk _ => ⟨hk.1, fun hm => hk.2 (mine_fact.1 hm)⟩)
    refine cl (api_Fault_Unwrap hr' (by repeat (first | with_reducible exact Rng.blk | with_reducible exact Rng.rng | with_reducible apply Rng.tl))) ?_
    rintro r1 w1 ⟨e1, e2⟩
    subst e2; subst e1
    repeat with_reducible refine mv.mk ?_
    have hnn : ∃ ty u, r1 = .iface ty u := by
      cases d' with
      | zero =>
        rcases hd2 with ⟨_, e⟩ | ⟨rfl, _⟩
        · exact absurd e hn
        · exact ⟨_, _, rfl⟩
      | succ d' =>
        obtain ⟨g4, s4, v4, rfl, _⟩ := hd2
        exact ⟨_, _, rfl⟩
    obtain ⟨ty, u, rfl⟩ := hnn
    repeat (first
      | (refine st1 fun k' hk => ?_; simp [go_sem, thenR_ok, bin]; refine hk _ _ ?_; clear hk k')
      | (with_reducible refine mv.mk ?_) | (with_reducible refine nk_p ?_) | (with_reducible refine gd_u ?_) | (with_reducible refine gd_ft ?_) | (with_reducible refine gd_tf ?_) | (with_reducible refine gd_i ?_) | (with_reducible refine pk_t ?_) | (with_reducible refine pk_f ?_) | (with_reducible refine br_t ?_) | (with_reducible refine br_f ?_))
    have hdd2 := errDepth_eq (hd3.mono fun _ _ _ => trivial)
    exact ⟨⟨d', _, _, _, _, _, _, _, _, _, rfl, rfl, hs.sbl (by repeat (first | with_reducible exact Sbl.all | with_reducible exact Sbl.nil | refine Sbl.cons (by first | ((repeat (first | with_reducible exact Has.hd | with_reducible apply Has.tl)); done) | (repeat (first | exact Has.hd | with_reducible apply Has.tl))) ?_ | refine Sbl.drop ?_))⟩, by simp only []; rw [hdd, hdd2]; omega⟩
theorem errors_As {d : Nat} {old : Value} (hn : n ≠ 0) (hs : Sep b w L) (hm : Has L (blkI t EN [old]) R) (hv : Ins R (errDF d v n).it) (hT : Ins R errT.it) :
    C Tryz.prog N.errors_As #[v, .iface EP (.pointer (some ⟨t, 0, none⟩))] w fun r w' => r = .bool true ∧ Sep b w' (blkI t EN [.int .i64 n] :: R) := by
  replace hs := hs.perm hm.perm
  have h0 : ErrD _ w d v n := hs.get (.tl hv)
  have hnn : ∃ ty u, v = .iface ty u := by
    cases d with
    | zero =>
      rcases h0 with ⟨_, e⟩ | ⟨rfl, _⟩
      · exact absurd e hn
      · exact ⟨_, _, rfl⟩
    | succ d' =>
      obtain ⟨g4, s4, v4, rfl, _⟩ := h0
      exact ⟨_, _, rfl⟩
  obtain ⟨ty, u, rfl⟩ := hnn
  refine C.errors_As ?_
  unfold F.errors_As
  repeat (first
    | (refine st1 fun k' hk => ?_; simp [go_sem, thenR_ok, bin]; refine hk _ _ ?_; clear hk k')
    | (with_reducible refine mv.mk ?_) | (with_reducible refine nk_p ?_) | (with_reducible refine gd_u ?_) | (with_reducible refine gd_ft ?_) | (with_reducible refine gd_tf ?_) | (with_reducible refine gd_i ?_) | (with_reducible refine pk_t ?_) | (with_reducible refine pk_f ?_) | (with_reducible refine br_t ?_) | (with_reducible refine br_f ?_))
  refine jn_in ?_
  repeat (first
    | (refine st1 fun k' hk => ?_; simp [go_sem, thenR_ok, bin]; refine hk _ _ ?_; clear hk k')
    | (with_reducible refine mv.mk ?_) | (with_reducible refine nk_p ?_) | (with_reducible refine gd_u ?_) | (with_reducible refine gd_ft ?_) | (with_reducible refine gd_tf ?_) | (with_reducible refine gd_i ?_) | (with_reducible refine pk_t ?_) | (with_reducible refine pk_f ?_) | (with_reducible refine br_t ?_) | (with_reducible refine br_f ?_))
  rintro - -
  repeat with_reducible refine mv.mk ?_
  refine oN_ext (e := fun args => ReflectliteValue.unpack (args.getD 0 (.tuple #[]))) (by kernel_rfl) (e_valueOf ⟨t, 0, none⟩ w) ?_
  have hu1 : Ext w (w.alloc (.cells #[.pointer (some ⟨t, 0, none⟩)] EP)) := upd_alloc _
  have hb1 : Blk (w.alloc (.cells #[.pointer (some ⟨t, 0, none⟩)] EP)) w.heap.size EP [.pointer (some ⟨t, 0, none⟩)] := Blk.new
  replace hs := hs.add (I := blkI w.heap.size EP [.pointer (some ⟨t, 0, none⟩)]) hu1 (by simp [blkI]) hb1
  generalize hg : w.heap.size = g1 at *
  refine sp_var (ds := [hdl EP, .pointer (some ⟨g1, 0, none⟩), .int .u64 150]) hs (by kernel_rfl) (by kernel_rfl) rfl (by simp [Value.oneCell']) fun g5 w hs => ?_
  refine sp_loadall hs (by first | ((repeat (first | with_reducible exact Has.hd | with_reducible apply Has.tl)); done) | (repeat (first | exact Has.hd | with_reducible apply Has.tl))) (by kernel_rfl) rfl ?_
  refine oN_ext (by kernel_rfl) (e_type _ _) ?_
  repeat with_reducible refine mv.mk ?_
  refine iv_ext (f := N.internal_abi_Type_Kind) (by kernel_rfl) (by kernel_rfl) (e_kindP _) ?_
  repeat (first
    | (refine st1 fun k' hk => ?_; simp [go_sem, thenR_ok, bin]; refine hk _ _ ?_; clear hk k')
    | (with_reducible refine mv.mk ?_) | (with_reducible refine nk_p ?_) | (with_reducible refine gd_u ?_) | (with_reducible refine gd_ft ?_) | (with_reducible refine gd_tf ?_) | (with_reducible refine gd_i ?_) | (with_reducible refine pk_t ?_) | (with_reducible refine pk_f ?_) | (with_reducible refine br_t ?_) | (with_reducible refine br_f ?_))
  refine sp_loadall hs (by first | ((repeat (first | with_reducible exact Has.hd | with_reducible apply Has.tl)); done) | (repeat (first | exact Has.hd | with_reducible apply Has.tl))) (by kernel_rfl) rfl ?_
  refine gd_i ?_
  have hc1 := (hs.blk (g := g1) (t := EP) (by first | ((repeat (first | with_reducible exact Has.hd | with_reducible apply Has.tl)); done) | (repeat (first | exact Has.hd | with_reducible apply Has.tl)))).cell 0
  refine oN_ext (by kernel_rfl) (e_isNil _ _ _ hc1) ?_
  repeat (first
    | (refine st1 fun k' hk => ?_; simp [go_sem, thenR_ok, bin]; refine hk _ _ ?_; clear hk k')
    | (with_reducible refine mv.mk ?_) | (with_reducible refine nk_p ?_) | (with_reducible refine gd_u ?_) | (with_reducible refine gd_ft ?_) | (with_reducible refine gd_tf ?_) | (with_reducible refine gd_i ?_) | (with_reducible refine pk_t ?_) | (with_reducible refine pk_f ?_) | (with_reducible refine br_t ?_) | (with_reducible refine br_f ?_))
  refine jn_in ?_
  repeat (first
    | (refine st1 fun k' hk => ?_; simp [go_sem, thenR_ok, bin]; refine hk _ _ ?_; clear hk k')
    | (with_reducible refine mv.mk ?_) | (with_reducible refine nk_p ?_) | (with_reducible refine gd_u ?_) | (with_reducible refine gd_ft ?_) | (with_reducible refine gd_tf ?_) | (with_reducible refine gd_i ?_) | (with_reducible refine pk_t ?_) | (with_reducible refine pk_f ?_) | (with_reducible refine br_t ?_) | (with_reducible refine br_f ?_))
  rintro - -
  repeat with_reducible refine mv.mk ?_
  refine iv_ext (f := N.internal_reflectlite_rtype_Elem) (by kernel_rfl) (by kernel_rfl) (e_elemT _) ?_
  repeat with_reducible refine mv.mk ?_
  refine iv_ext (f := N.internal_abi_Type_Kind) (by kernel_rfl) (by kernel_rfl) (e_kindN _) ?_
  repeat (first
    | (refine st1 fun k' hk => ?_; simp [go_sem, thenR_ok, bin]; refine hk _ _ ?_; clear hk k')
    | (with_reducible refine mv.mk ?_) | (with_reducible refine nk_p ?_) | (with_reducible refine gd_u ?_) | (with_reducible refine gd_ft ?_) | (with_reducible refine gd_tf ?_) | (with_reducible refine gd_i ?_) | (with_reducible refine pk_t ?_) | (with_reducible refine pk_f ?_) | (with_reducible refine br_t ?_) | (with_reducible refine br_f ?_))
  have hg0 := (hs.get (I := errT.it) (.tl (.tl (.tl hT)))).1 0 _ rfl
  refine st_of (load_one (by kernel_rfl) hg0) ?_
  refine gd_i ?_
  refine iv_ext (f := N.internal_reflectlite_rtype_Implements) (by kernel_rfl) (by kernel_rfl) (e_implements _) ?_
  repeat (first
    | (refine st1 fun k' hk => ?_; simp [go_sem, thenR_ok, bin]; refine hk _ _ ?_; clear hk k')
    | (with_reducible refine mv.mk ?_) | (with_reducible refine nk_p ?_) | (with_reducible refine gd_u ?_) | (with_reducible refine gd_ft ?_) | (with_reducible refine gd_tf ?_) | (with_reducible refine gd_i ?_) | (with_reducible refine pk_t ?_) | (with_reducible refine pk_f ?_) | (with_reducible refine br_t ?_) | (with_reducible refine br_f ?_))
  refine jn_in ?_
  repeat (first
    | (refine st1 fun k' hk => ?_; simp [go_sem, thenR_ok, bin]; refine hk _ _ ?_; clear hk k')
    | (with_reducible refine mv.mk ?_) | (with_reducible refine nk_p ?_) | (with_reducible refine gd_u ?_) | (with_reducible refine gd_ft ?_) | (with_reducible refine gd_tf ?_) | (with_reducible refine gd_i ?_) | (with_reducible refine pk_t ?_) | (with_reducible refine pk_f ?_) | (with_reducible refine br_t ?_) | (with_reducible refine br_f ?_))
  rintro - -
  repeat with_reducible refine mv.mk ?_
  refine sp_loadall hs (by first | ((repeat (first | with_reducible exact Has.hd | with_reducible apply Has.tl)); done) | (repeat (first | exact Has.hd | with_reducible apply Has.tl))) (by kernel_rfl) rfl ?_
  repeat with_reducible refine mv.mk ?_
  refine cl (errors_as (d := d) (old := old) (t := t) (a := g1) hn hs (by first | ((repeat (first | with_reducible exact Has.hd | with_reducible apply Has.tl)); done) | (repeat (first | exact Has.hd | with_reducible apply Has.tl))) (.tl (.tl hv)) (by repeat (first | with_reducible exact Rng.blk | with_reducible exact Rng.rng | with_reducible apply Rng.tl))) ?_
  rintro _ w ⟨rfl, hs⟩
  repeat with_reducible refine mv.mk ?_
  exact ⟨rfl, hs.sbl (by repeat (first | with_reducible exact Sbl.all | with_reducible exact Sbl.nil | refine Sbl.cons (by first | ((repeat (first | with_reducible exact Has.hd | with_reducible apply Has.tl)); done) | (repeat (first | exact Has.hd | with_reducible apply Has.tl))) ?_ | refine Sbl.drop ?_))⟩
theorem num_call {F : (Value → World → Prop) → Value → World → Prop} {k : Value → World → Prop} (hs : Sep b w L) (hT : Ins L errT.it) (hv : Ins L (errF v n).it)
    (hF : ∀ k a0 w, F k a0 w = (mv (.int .i64 0) fun t2 =>
      o1 Tryz.prog (Instr.alloc T.api_Errno true (.tuple #[])) w fun t3 w =>
      mv a0 fun t4 =>
      o1 Tryz.prog (bin .eql T.error (.tmp 4) (.const .nilIface) t4 .nilIface) w fun t5 w =>
      br t5 (fun _ =>
      mv (.int .i64 0) fun t2_1 =>
      k t2_1 w) (fun _ =>
      mv a0 fun t6 =>
      o1 Tryz.prog (Instr.makeInterface T.p_api_Errno t3) w fun t7 w =>
      C Tryz.prog N.errors_As #[t6, t7] w fun t8 w =>
      br t8 (fun _ =>
      o1 Tryz.prog (Instr.loadAt T.api_Errno t3) w fun t9 w =>
      mv t9 fun t2_2 =>
      k t2_2 w) (fun _ =>
      mv (.int .i64 (-1)) fun t2_3 =>
      k t2_3 w))))
    (hk : ∀ w', Sep b w' L → k (.int .i64 n) w') : F k v w := by
  rw [hF]
  repeat with_reducible refine mv.mk ?_
  refine sp_alloc (cs := [.int .i64 0]) hs (zeroT_of (by kernel_rfl)) fun g w hs => ?_
  repeat with_reducible refine mv.mk ?_
  obtain ⟨d, hd⟩ := hs.get (.tl hv)
  by_cases hn : n = 0
  · have hv0 : v = .nilIface := by
      cases d with
      | zero =>
        rcases hd with ⟨e, _⟩ | ⟨_, e, _⟩
        · exact e
        · exact absurd hn e
      | succ d' =>
        obtain ⟨_, _, _, _, e, _⟩ := hd
        exact absurd hn e
    subst hv0; subst hn
    repeat (first
      | (refine st1 fun k' hk => ?_; simp [go_sem, thenR_ok, bin]; refine hk _ _ ?_; clear hk k')
      | (with_reducible refine mv.mk ?_) | (with_reducible refine nk_p ?_) | (with_reducible refine gd_u ?_) | (with_reducible refine gd_ft ?_) | (with_reducible refine gd_tf ?_) | (with_reducible refine gd_i ?_) | (with_reducible refine pk_t ?_) | (with_reducible refine pk_f ?_) | (with_reducible refine br_t ?_) | (with_reducible refine br_f ?_))
    exact hk _ (hs.sbl (by repeat (first | with_reducible exact Sbl.all | with_reducible exact Sbl.nil | refine Sbl.cons (by first | ((repeat (first | with_reducible exact Has.hd | with_reducible apply Has.tl)); done) | (repeat (first | exact Has.hd | with_reducible apply Has.tl))) ?_ | refine Sbl.drop ?_)))
  · have hnn : ∃ ty u, v = .iface ty u := by
      cases d with
      | zero =>
        rcases hd with ⟨_, e⟩ | ⟨rfl, _⟩
        · exact absurd e hn
        · exact ⟨_, _, rfl⟩
      | succ d' =>
        obtain ⟨g4, s4, v4, rfl, _⟩ := hd
        exact ⟨_, _, rfl⟩
    obtain ⟨ty, u, rfl⟩ := hnn
    repeat (first
      | (refine st1 fun k' hk => ?_; simp [go_sem, thenR_ok, bin]; refine hk _ _ ?_; clear hk k')
      | (with_reducible refine mv.mk ?_) | (with_reducible refine nk_p ?_) | (with_reducible refine gd_u ?_) | (with_reducible refine gd_ft ?_) | (with_reducible refine gd_tf ?_) | (with_reducible refine gd_i ?_) | (with_reducible refine pk_t ?_) | (with_reducible refine pk_f ?_) | (with_reducible refine br_t ?_) | (with_reducible refine br_f ?_))
    replace hs := hs.fact (f := errDF d (.iface ty u) n) hd
    refine cl (errors_As (d := d) (old := .int .i64 0) (t := g) hn hs (by first | ((repeat (first | with_reducible exact Has.hd | with_reducible apply Has.tl)); done) | (repeat (first | exact Has.hd | with_reducible apply Has.tl))) .hd (.tl hT)) ?_
    rintro _ w ⟨rfl, hs⟩
    refine br_t (sp_ldv hs (by repeat (first | with_reducible exact Rng.blk | with_reducible exact Rng.rng | with_reducible apply Rng.tl)) (by kernel_rfl) rfl ?_)
    repeat with_reducible refine mv.mk ?_
    exact hk _ (hs.sbl (by repeat (first | with_reducible exact Sbl.all | with_reducible exact Sbl.nil | refine Sbl.cons (by first | ((repeat (first | with_reducible exact Has.hd | with_reducible apply Has.tl)); done) | (repeat (first | exact Has.hd | with_reducible apply Has.tl))) ?_ | refine Sbl.drop ?_)))
end
end Go.Proofs.YtbbmgkbinnomgaaGreatDoor
