/- Layer 11's law TypesTrust, walked. -/
import Derived.Test.YtlfelmikcdmkhaaDoorL7
import Derived.Test.YtlfelmikcdmkhaaDoorM4
set_option linter.unusedVariables false
set_option linter.unusedSimpArgs false
set_option linter.unusedSectionVars false
namespace Go.Proofs.YtlfelmikcdmkhaaDoor
open Go Go.Isk Go.RowKit
set_option maxRecDepth 20000
/-- a number's last bit turned -/
def xorI (a : Int) : Int := IntKind.i64.wrap (((BitVec.ofInt 64 a ^^^ BitVec.ofInt 64 1 : BitVec 64).toNat : Nat) : Int)
theorem wrap_i64 (n : Int) : I64 (IntKind.i64.wrap n) := by
  have e : IntKind.i64.wrap n = if (true && decide (n % 2 ^ 64 ≥ 2 ^ (64 - 1))) = true then n % 2 ^ 64 - 2 ^ 64 else n % 2 ^ 64 := rfl
  rw [e]
  simp only [Bool.true_and, decide_eq_true_eq]
  unfold I64
  split <;> omega
theorem xorI_ne (a : Int) : xorI a ≠ a := by
  intro h
  have h1 : BitVec.ofInt 64 (xorI a) = BitVec.ofInt 64 a ^^^ BitVec.ofInt 64 1 := by
    unfold xorI
    generalize BitVec.ofInt 64 a ^^^ BitVec.ofInt 64 1 = x
    have hx := x.isLt
    apply BitVec.eq_of_toNat_eq
    rw [BitVec.toNat_ofInt]
    unfold IntKind.wrap
    simp only [IntKind.signed, IntKind.bits, Bool.true_and, decide_eq_true_iff]
    split <;> omega
  rw [h] at h1
  have h2 : BitVec.ofInt 64 a ^^^ BitVec.ofInt 64 a = BitVec.ofInt 64 a ^^^ (BitVec.ofInt 64 a ^^^ BitVec.ofInt 64 1) := by rw [← h1]
  rw [← BitVec.xor_assoc, BitVec.xor_self, BitVec.zero_xor] at h2
  exact absurd h2 (by decide)
section
variable {w : World} {k : Value → World → Prop} {x1 x2 : Operand}
theorem xor_i64 (a : Int) (w : World) : (bin .xor T.int x1 x2 (.int .i64 a) (.int .i64 1)).run Tryd.prog w = .ok (.int .i64 (xorI a)) w := by
  simp [go_sem, bin]
  rfl
theorem xor_u8 (c : UInt8) (w : World) : (bin .xor T.uint8 x1 x2 (.int .u8 c.toNat) (.int .u8 1)).run Tryd.prog w = .ok (.int .u8 (c ^^^ 1).toNat) w := by
  have h : ∀ c : Fin 256, IntKind.u8.wrap (((BitVec.ofInt 8 (c.val : Int) ^^^ BitVec.ofInt 8 1 : BitVec 8).toNat : Nat) : Int) = ((c.val ^^^ 1 : Nat) : Int) := by decide +kernel
  have h2 := h ⟨c.toNat, c.toNat_lt⟩
  simp [go_sem, bin]
  exact h2
end
def flip0 : Bytes → Bytes
  | [] => []
  | c :: r => (c ^^^ 1) :: r
theorem flip0_ne {l : Bytes} (h : l.length = 32) : flip0 l ≠ l := by
  cases l with
  | nil => cases h
  | cons c r =>
    intro e
    simp only [flip0, List.cons.injEq, and_true] at e
    have : ∀ c : Fin 256, (UInt8.ofNat c.val) ^^^ 1 ≠ UInt8.ofNat c.val := by decide +kernel
    refine this ⟨c.toNat, c.toNat_lt⟩ ?_
    simpa using e
theorem flip0_len (l : Bytes) : (flip0 l).length = l.length := by cases l <;> rfl
theorem encHeader_time (h : Header) : encHeader { h with time := xorI h.time } ≠ encHeader h ∨ ¬ I64 h.time := by
  by_cases ht : I64 h.time
  · left
    intro e
    simp only [encHeader, List.append_cancel_left_eq] at e
    have e2 := List.append_inj_left' e rfl
    have h1 := rI_enc (n := xorI h.time) (wrap_i64 _) []
    have h2 := rI_enc (n := h.time) ht []
    rw [e2, h2] at h1
    exact xorI_ne h.time (by simpa using h1.symm)
  · exact .inr ht
theorem encHeader_app {h : Header} (ha : h.app.length = 32) : encHeader { h with app := flip0 h.app } ≠ encHeader h := by
  intro e
  simp only [encHeader, List.append_cancel_left_eq] at e
  exact flip0_ne ha (List.append_inj_left' e rfl)
theorem encHeader_bd {x : Header} (h : x.ok) (hc : x.chain.length ≤ 1048576) : (encHeader x).length ≤ 1050000 := by
  have h1 := encI_len h.height
  have h2 := encI_len h.time
  have h3 := encI_len h.proposer
  have h4 := h.last
  have h5 := h.app
  have h6 := h.txs
  have h7 := h.validators
  have h8 := h.next
  have h9 := encB_len (l := x.chain) (by omega)
  simp only [encHeader, List.length_append]
  omega
def hdC (h : Header) : List Value := headC (str h.chain) (.int .i64 h.height) (.int .i64 h.time) (u8s h.last) (u8s h.app) (u8s h.txs) (u8s h.validators) (u8s h.next) (.int .i64 h.proposer)
theorem headC_35 {a0 a1 a2 a8 v : Value} {a3 a4 a5 a6 a7 : List Value} (h3 : a3.length = 32) (h4 : 0 < a4.length) : (headC a0 a1 a2 a3 a4 a5 a6 a7 a8).set 35 v = headC a0 a1 a2 a3 (a4.set 0 v) a5 a6 a7 a8 := by
  simp [headC, List.set_append, h3, h4]
section
variable {b : Base} {w : World} {L R : List It} {cs ds es : List Value} {c : CaseD} {x : Commit} {hd : Header}
theorem err_eql {e : Value} {n : Int} {i : Nat} (hs : Isk.Sep b w L) (hm : Ins L (errF e n).it) : (bin .eql T.error (.tmp i) (.const .nilIface) e .nilIface).run Tryd.prog w = .ok (.bool (decide (n = 0))) w := by
  obtain ⟨d, hd⟩ := hs.get hm
  cases d with
  | zero =>
    rcases hd with ⟨rfl, rfl⟩ | ⟨rfl, h0, _⟩
    · simp [go_sem, bin]
    · simp [go_sem, bin, h0]
  | succ d' =>
    obtain ⟨_, _, _, rfl, h0, _⟩ := hd
    simp [go_sem, bin, h0]
def F.isthmuslaw11_TypesTrust_r1 (k : Value → World → Prop) (t5 : Value) (w : World) : Prop :=
  o1 Tryd.prog (Instr.loadAt 25 t5) w fun t35 w =>
  o1 Tryd.prog (Instr.alloc 25 true (.tuple #[])) w fun t8 w =>
  o0 Tryd.prog (Instr.storeAt 25 t8 t35) w fun _ w =>
  o1 Tryd.prog (Instr.fieldAt 25 t8 2) w fun t36 w =>
  o1 Tryd.prog (Instr.loadAt 3 t36) w fun t37 w =>
  o1 Tryd.prog (bin .xor 3 (.tmp 37) (.const (.int .i64 1)) t37 (.int .i64 1)) w fun t38 w =>
  o1 Tryd.prog (Instr.fieldAt 25 t8 2) w fun t39 w =>
  o0 Tryd.prog (Instr.storeAt 3 t39 t38) w fun _ w =>
  o1 Tryd.prog (Instr.loadAt 25 t5) w fun t40 w =>
  o1 Tryd.prog (Instr.alloc 25 true (.tuple #[])) w fun t9 w =>
  o0 Tryd.prog (Instr.storeAt 25 t9 t40) w fun _ w =>
  o1 Tryd.prog (Instr.fieldAt 25 t9 4) w fun t41 w =>
  o1 Tryd.prog (Instr.indexAt 23 t41 (.int .i64 0)) w fun t42 w =>
  o1 Tryd.prog (Instr.loadAt 5 t42) w fun t43 w =>
  o1 Tryd.prog (bin .xor 5 (.tmp 43) (.const (.int .u8 1)) t43 (.int .u8 1)) w fun t44 w =>
  o1 Tryd.prog (Instr.fieldAt 25 t9 4) w fun t45 w =>
  o1 Tryd.prog (Instr.indexAt 23 t45 (.int .i64 0)) w fun t46 w =>
  o0 Tryd.prog (Instr.storeAt 5 t46 t44) w fun _ w =>
  dr w.drew fun S1 =>
  tk Tryd.prog S1 (Instr.loadAt 25 t8) fun t47 =>
  tk Tryd.prog S1 (Instr.loadAt 25 t5) fun t50 =>
  C Tryd.prog N.types_EncodeHeader #[t47] w.drew fun t48 w =>
  S1 w ∧
  nS S1 w fun S2 =>
  tk Tryd.prog S2 (convert 33 9 t48) fun t49 =>
  C Tryd.prog N.types_EncodeHeader #[t50] w fun t51 w =>
  S2 w ∧
  nS S2 w fun S3 =>
  tk Tryd.prog S3 (convert 33 9 t51) fun t52 =>
  tk Tryd.prog S3 (bin .neq 9 (.tmp 49) (.tmp 52) t49 t52) fun t53 =>
  mv t53 fun t54 =>
  gdT t54 true (fun k8 => tk Tryd.prog S3 (Instr.loadAt 25 t9) k8) fun t55 =>
  gdT t54 true (fun k9 => tk Tryd.prog S3 (Instr.loadAt 25 t5) k9) fun t58 =>
  gd t54 true (fun k10 => C Tryd.prog N.types_EncodeHeader #[t55] w k10) w fun t56 w =>
  S3 w ∧
  nS S3 w fun S4 =>
  gdT t54 true (fun k11 => tk Tryd.prog S4 (convert 33 9 t56) k11) fun t57 =>
  gd t54 true (fun k12 => C Tryd.prog N.types_EncodeHeader #[t58] w k12) w fun t59 w =>
  S4 w ∧
  nS S4 w fun S5 =>
  gdT t54 true (fun k13 => tk Tryd.prog S5 (convert 33 9 t59) k13) fun t60 =>
  gdT t54 true (fun k14 => tk Tryd.prog S5 (bin .neq 9 (.tmp 57) (.tmp 60) t57 t60) k14) fun t61 =>
  pk t54 t61 (.bool false) fun t62 =>
  mv t62 fun t63 =>
  gd t63 true (fun k15 => C Tryd.prog N.isthmuslaw11_sure #[] w k15) w fun t64 w =>
  S5 w ∧
  pk t63 t64 (.bool false) fun t65 =>
  mv t65 fun t6_3 =>
  k t6_3 w
theorem tt_r1 {g5 : Nat} (hs : Isk.Sep b w (blkI g5 T.api_Header (hdC hd) :: L)) (hT : Ins L errT.it) (hho : hd.ok) (hb4 : hd.chain.length ≤ 1048576) {K : Value → World → Prop} (hK : ∀ w', Isk.Sep b w' L → K (.bool true) w') :
    F.isthmuslaw11_TypesTrust_r1 K (.pointer (some ⟨g5, 0, none⟩)) w := by
  have p1 := u8s_len hho.last; have p2 := u8s_len hho.app; have p3 := u8s_len hho.txs; have p4 := u8s_len hho.validators; have p5 := u8s_len hho.next
  have hdl : ∀ (t : Value) (a : List Value), a.length = 32 → (headC (str hd.chain) (.int .i64 hd.height) t (u8s hd.last) a (u8s hd.txs) (u8s hd.validators) (u8s hd.next) (.int .i64 hd.proposer)).length = 164 := fun t a h => headC_len p1 h p3 p4 p5
  have hdo : ∀ (t : Value) (a : List Value), t.oneCell' = true → (∀ u ∈ a, u.oneCell' = true) → ∀ u ∈ headC (str hd.chain) (.int .i64 hd.height) t (u8s hd.last) a (u8s hd.txs) (u8s hd.validators) (u8s hd.next) (.int .i64 hd.proposer), u.oneCell' = true := fun t a h h' => headC_one rfl rfl h (u8s_one _) h' (u8s_one _) (u8s_one _) (u8s_one _) rfl
  unfold F.isthmuslaw11_TypesTrust_r1
  unfold hdC at hs
  refine sp_loadall hs .hd (by kernel_rfl) (hdl _ _ p2) ?_
  refine sp_newr hs (by kernel_rfl) fun g8 w hs => ?_
  refine sp_setr hs .hd (by kernel_rfl) (hdl _ _ p2) (hdo _ _ rfl (u8s_one _)) fun w hs => ?_
  refine head.a2 ?_
  refine head.r2 hs .blk ?_
  refine st_of (xor_i64 hd.time w) ?_
  refine head.s2 hs .hd p1 p2 p3 p4 p5 ⟨rfl, rfl⟩ fun w hs => ?_
  refine sp_loadall hs (.tl .hd) (by kernel_rfl) (hdl _ _ p2) ?_
  refine sp_newr hs (by kernel_rfl) fun g9 w hs => ?_
  refine sp_setr hs .hd (by kernel_rfl) (hdl _ _ p2) (hdo _ _ rfl (u8s_one _)) fun w hs => ?_
  obtain ⟨c0, ra, happ⟩ : ∃ c0 ra, hd.app = c0 :: ra := by
    have := hho.app
    cases hq : hd.app with
    | nil => rw [hq] at this; cases this
    | cons c0 ra => exact ⟨_, _, rfl⟩
  refine head.a4 ?_
  refine sx_arr (len := 32) (by kernel_rfl) 0 rfl (by decide) ?_
  refine sp_load1 (p := 35) hs .hd (by kernel_rfl) (x := .int .u8 c0.toNat) ?_ ?_
  · rw [happ]
    have q1 := hho.last
    simp [headC, List.getElem?_append, u8s, q1]
  refine st_of (xor_u8 c0 w) ?_
  refine head.a4 ?_
  refine sx_arr (len := 32) (by kernel_rfl) 0 rfl (by decide) ?_
  refine sp_store1 (p := 35) hs .hd (by kernel_rfl) ⟨rfl, rfl⟩ (by rw [hdl _ _ p2]; decide) fun w hs => ?_
  rw [headC_35 p1 (by omega), show (u8s hd.app).set 0 (Value.int .u8 (c0 ^^^ 1).toNat) = u8s (flip0 hd.app) by rw [happ]; rfl] at hs
  have h0 : HeadIs (headC (str hd.chain) (.int .i64 hd.height) (.int .i64 hd.time) (u8s hd.last) (u8s hd.app) (u8s hd.txs) (u8s hd.validators) (u8s hd.next) (.int .i64 hd.proposer)) hd := ⟨rfl, hho⟩
  have o1 : Header.ok { hd with time := xorI hd.time } := ⟨hho.height, wrap_i64 _, hho.last, hho.app, hho.txs, hho.validators, hho.next, hho.proposer⟩
  have o2 : Header.ok { hd with app := flip0 hd.app } := ⟨hho.height, hho.time, hho.last, (flip0_len _).trans hho.app, hho.txs, hho.validators, hho.next, hho.proposer⟩
  have h1 : HeadIs (headC (str hd.chain) (.int .i64 hd.height) (.int .i64 (xorI hd.time)) (u8s hd.last) (u8s hd.app) (u8s hd.txs) (u8s hd.validators) (u8s hd.next) (.int .i64 hd.proposer)) { hd with time := xorI hd.time } := ⟨rfl, o1⟩
  have h2 : HeadIs (headC (str hd.chain) (.int .i64 hd.height) (.int .i64 hd.time) (u8s hd.last) (u8s (flip0 hd.app)) (u8s hd.txs) (u8s hd.validators) (u8s hd.next) (.int .i64 hd.proposer)) { hd with app := flip0 hd.app } := ⟨rfl, o2⟩
  have l0 := encHeader_bd hho hb4
  have l1 := encHeader_bd o1 hb4
  have l2 := encHeader_bd o2 hb4
  have n1 : encHeader { hd with time := xorI hd.time } ≠ encHeader hd := (encHeader_time hd).resolve_right fun h => h hho.time
  have n2 := encHeader_app hho.app
  have pf : (u8s (flip0 hd.app)).length = 32 := u8s_len o2.app
  replace hs := hs.drew
  refine dr_can hs .all ?_
  refine tk_ldn hid (by repeat (first | with_reducible exact Rng.blk | with_reducible exact Rng.rng | with_reducible apply Rng.tl)) (by kernel_rfl) (hdl _ _ p2) ?_
  refine tk_ldn hid (by repeat (first | with_reducible exact Rng.blk | with_reducible exact Rng.rng | with_reducible apply Rng.tl)) (by kernel_rfl) (hdl _ _ p2) ?_
  refine cl (types_EncodeHeader h1 (by omega)) ?_
  rintro r1 w1 hN
  replace hs := newB_sep hs hN
  clear hN
  refine ⟨hs.mayr (.drop .all), ?_⟩
  refine nS_can hs .all (.drop .all) ?_
  refine tk_text hid (by repeat (first | with_reducible exact Rds.sl | with_reducible exact Rds.byt | with_reducible exact Rds.row | with_reducible apply Rds.tl)) ?_
  refine cl (types_EncodeHeader h0 (by omega)) ?_
  rintro r2 w2 hN
  replace hs := newB_sep hs hN
  clear hN
  refine ⟨hs.mayr (.drop .all), ?_⟩
  refine nS_can hs .all (.drop .all) ?_
  refine tk_text hid (v := r2) (by repeat (first | with_reducible exact Rds.sl | with_reducible exact Rds.byt | with_reducible exact Rds.row | with_reducible apply Rds.tl)) ?_
  refine tk_nels ?_
  rw [decide_eq_false n1, Bool.not_false]
  repeat with_reducible refine mv.mk ?_
  refine gdT_i ?_
  refine tk_ldn hid (by repeat (first | with_reducible exact Rng.blk | with_reducible exact Rng.rng | with_reducible apply Rng.tl)) (by kernel_rfl) (hdl _ _ pf) ?_
  refine gdT_i ?_
  refine tk_ldn hid (by repeat (first | with_reducible exact Rng.blk | with_reducible exact Rng.rng | with_reducible apply Rng.tl)) (by kernel_rfl) (hdl _ _ p2) ?_
  refine gd_i ?_
  refine cl (types_EncodeHeader h2 (by omega)) ?_
  rintro r3 w3 hN
  replace hs := newB_sep hs hN
  clear hN
  refine ⟨hs.mayr (.drop .all), ?_⟩
  refine nS_can hs .all (.drop .all) ?_
  refine gdT_i ?_
  refine tk_text hid (v := r3) (by repeat (first | with_reducible exact Rds.sl | with_reducible exact Rds.byt | with_reducible exact Rds.row | with_reducible apply Rds.tl)) ?_
  refine gd_i ?_
  refine cl (types_EncodeHeader h0 (by omega)) ?_
  rintro r4 w4 hN
  replace hs := newB_sep hs hN
  clear hN
  refine ⟨hs.mayr (.drop .all), ?_⟩
  refine nS_can hs .all (.drop .all) ?_
  refine gdT_i ?_
  refine tk_text hid (v := r4) (by repeat (first | with_reducible exact Rds.sl | with_reducible exact Rds.byt | with_reducible exact Rds.row | with_reducible apply Rds.tl)) ?_
  refine gdT_i ?_
  refine tk_nels ?_
  rw [decide_eq_false n2, Bool.not_false]
  repeat (first
   | (with_reducible (first | refine st_lens ?_ | refine st_eqls ?_ | refine st_nels ?_ | refine tk_eqls ?_ | refine tk_nels ?_ | refine mv.mk ?_ | refine nk_p ?_ | refine gdT_i ?_ | refine gdT_ft ?_ | refine gdT_tf ?_ | refine gdT_u ?_ | refine gd_u ?_ | refine gd_ft ?_ | refine gd_tf ?_ | refine gd_i ?_ | refine pk_t ?_ | refine pk_f ?_ | refine br_t ?_ | refine br_f ?_ | refine sp_boxa hs fun g w hs => ?_))
   | (with_reducible ((first | apply st_bin | apply st_ext | apply st_len | apply st_un | apply st_conv | apply st_mki | apply st_fld | apply st_cap | apply st_max | apply st_min | apply st_ixv | apply st_mkf); intro k' hk; simp [go_sem, thenR_ok, bin]; refine hk _ _ ?_; clear hk k'))
   | ((with_reducible (first | apply tk_bin | apply tk_ext | apply tk_len | apply tk_un)); (· intro w; simp [go_sem, bin]; rfl))
   | ((with_reducible apply sp_newr hs); (· kernel_rfl); intro g w hs))
  refine cl (isthmuslaw11_sure hs (.tl (.tl (.tl (.tl (.tl (.tl (.tl hT)))))))) ?_
  rintro _ w ⟨rfl, hs⟩
  refine ⟨hs.mayr .all, ?_⟩
  repeat (first
   | (with_reducible (first | refine st_lens ?_ | refine st_eqls ?_ | refine st_nels ?_ | refine tk_eqls ?_ | refine tk_nels ?_ | refine mv.mk ?_ | refine nk_p ?_ | refine gdT_i ?_ | refine gdT_ft ?_ | refine gdT_tf ?_ | refine gdT_u ?_ | refine gd_u ?_ | refine gd_ft ?_ | refine gd_tf ?_ | refine gd_i ?_ | refine pk_t ?_ | refine pk_f ?_ | refine br_t ?_ | refine br_f ?_ | refine sp_boxa hs fun g w hs => ?_))
   | (with_reducible ((first | apply st_bin | apply st_ext | apply st_len | apply st_un | apply st_conv | apply st_mki | apply st_fld | apply st_cap | apply st_max | apply st_min | apply st_ixv | apply st_mkf); intro k' hk; simp [go_sem, thenR_ok, bin]; refine hk _ _ ?_; clear hk k'))
   | ((with_reducible (first | apply tk_bin | apply tk_ext | apply tk_len | apply tk_un)); (· intro w; simp [go_sem, bin]; rfl))
   | ((with_reducible apply sp_newr hs); (· kernel_rfl); intro g w hs))
  exact hK w (hs.sbl (.drop (.drop (.drop (.drop (.drop (.drop (.drop .all))))))))
set_option maxHeartbeats 4000000 in
theorem isthmuslaw11_TypesTrust (hs : Isk.Sep b w L) (hT : Ins L errT.it) (hR : Ins L rndF.it) (hc : Ins L (caseF cs c).it) (hx : Ins L (commF ds x).it) (hh : Ins L (headF es hd).it)
    (hb1 : c.chain.length ≤ 1048576) (hb2 : (c.set.map fun v => v.name.length + 1).sum ≤ 1048576) (hb3 : (x.votes.map fun v => v.sign.length + 1).sum ≤ 1048576) (hb4 : hd.chain.length ≤ 1048576) :
    C Tryd.prog N.isthmuslaw11_TypesTrust #[.agg cs.toArray, .agg ds.toArray, .agg es.toArray] w fun r w' => r = .bool true ∧ Isk.Sep b w' L := by
  have hn1 := sumC_len (fun v : Validator => v.name.length) c.set
  have hn2 := sumC_len (fun v : Vote => v.sign.length) x.votes
  have hnm : ∀ v ∈ c.set, v.name.length ≤ 4611686018427387904 := fun v hv => by have := sumC_mem (fun v : Validator => v.name.length) hv; omega
  have hsx : ∀ v ∈ x.votes, v.sign.length ≤ 2147483648 := fun v hv => by have := sumC_mem (fun v : Vote => v.sign.length) hv; omega
  obtain ⟨rfl, hho⟩ : HeadIs es hd := hs.get hh
  obtain ⟨A1, k1, e1, i1, i2, hs⟩ := case_open hs hc
  obtain ⟨A2, k2, e2, hxo, hs⟩ := comm_open hs (.tl hx)
  subst e1 e2
  have hxb := hxo.block
  have hpl : ([.int .i64 c.dg, .int .i64 c.dp] : List Value).length = 2 := rfl
  have hxl := commC_len (a0 := .int .i64 x.height) (a1 := .int .i64 x.round) (a2 := u8s x.block) (a3 := .slice A2 x.votes.length k2) (u8s_len hxb)
  have p1 := u8s_len hho.last; have p2 := u8s_len hho.app; have p3 := u8s_len hho.txs; have p4 := u8s_len hho.validators; have p5 := u8s_len hho.next
  have hdl : ∀ (t : Value) (a : List Value), a.length = 32 → (headC (str hd.chain) (.int .i64 hd.height) t (u8s hd.last) a (u8s hd.txs) (u8s hd.validators) (u8s hd.next) (.int .i64 hd.proposer)).length = 164 := fun t a h => headC_len p1 h p3 p4 p5
  have hdo : ∀ (t : Value) (a : List Value), t.oneCell' = true → (∀ u ∈ a, u.oneCell' = true) → ∀ u ∈ headC (str hd.chain) (.int .i64 hd.height) t (u8s hd.last) a (u8s hd.txs) (u8s hd.validators) (u8s hd.next) (.int .i64 hd.proposer), u.oneCell' = true := fun t a h h' => headC_one rfl rfl h (u8s_one _) h' (u8s_one _) (u8s_one _) (u8s_one _) rfl
  refine C.isthmuslaw11_TypesTrust ?_
  unfold F.isthmuslaw11_TypesTrust
  refine sp_boxa hs fun g3 w hs => ?_
  refine sp_boxa hs fun g4 w hs => ?_
  refine sp_boxa hs fun g5 w hs => ?_
  repeat (first
   | (with_reducible refine case.a0 ?_)
   | ((with_reducible apply case.r0 hs); (· (with_reducible (repeat (first | exact .blk | exact .rng | apply Rng.tl)))))
   | (with_reducible refine case.c0 ?_)
   | ((with_reducible apply case.e0); (· first | exact hS | exact hid); (· (with_reducible (repeat (first | exact .blk | exact .rng | apply Rng.tl)))))
   | (with_reducible refine case.a1 ?_)
   | ((with_reducible apply case.r1 hs); (· (with_reducible (repeat (first | exact .blk | exact .rng | apply Rng.tl)))))
   | (with_reducible refine case.c1 ?_)
   | ((with_reducible apply case.e1); (· first | exact hS | exact hid); (· (with_reducible (repeat (first | exact .blk | exact .rng | apply Rng.tl)))))
   | (with_reducible refine case.a2 ?_)
   | ((with_reducible apply case.r2 hs); (· (with_reducible (repeat (first | exact .blk | exact .rng | apply Rng.tl)))); (· (with_reducible (first | assumption | exact z32 | exact u8s_len (by assumption)))))
   | (with_reducible refine case.c2 ?_)
   | ((with_reducible apply case.e2); (· first | exact hS | exact hid); (· (with_reducible (repeat (first | exact .blk | exact .rng | apply Rng.tl)))); (· (with_reducible (first | assumption | exact z32 | exact u8s_len (by assumption)))))
   | (with_reducible (first | refine st_lens ?_ | refine st_eqls ?_ | refine st_nels ?_ | refine tk_eqls ?_ | refine tk_nels ?_ | refine mv.mk ?_ | refine nk_p ?_ | refine gdT_i ?_ | refine gdT_ft ?_ | refine gdT_tf ?_ | refine gdT_u ?_ | refine gd_u ?_ | refine gd_ft ?_ | refine gd_tf ?_ | refine gd_i ?_ | refine pk_t ?_ | refine pk_f ?_ | refine br_t ?_ | refine br_f ?_ | refine sp_boxa hs fun g w hs => ?_))
   | (with_reducible ((first | apply st_bin | apply st_ext | apply st_len | apply st_un | apply st_conv | apply st_mki | apply st_fld | apply st_cap | apply st_max | apply st_min | apply st_ixv | apply st_mkf); intro k' hk; simp [go_sem, thenR_ok, bin]; refine hk _ _ ?_; clear hk k'))
   | ((with_reducible (first | apply tk_bin | apply tk_ext | apply tk_len | apply tk_un)); (· intro w; simp [go_sem, bin]; rfl))
   | ((with_reducible apply sp_newr hs); (· kernel_rfl); intro g w hs))
  refine cl (isthmuslaw11_cut hs) ?_
  rintro _ w ⟨rfl, hs⟩
  generalize hdp : cutD c.dp = dp at *
  refine sp_newr hs (by kernel_rfl) fun g7 w hs => ?_
  refine sp_setr (ds := [.int .i64 c.dg, .int .i64 dp]) hs .hd (by kernel_rfl) rfl (by simp [Value.oneCell']) fun w hs => ?_
  repeat (first
   | (with_reducible refine comm.a0 ?_)
   | ((with_reducible apply comm.r0 hs); (· (with_reducible (repeat (first | exact .blk | exact .rng | apply Rng.tl)))))
   | (with_reducible refine comm.c0 ?_)
   | ((with_reducible apply comm.e0); (· first | exact hS | exact hid); (· (with_reducible (repeat (first | exact .blk | exact .rng | apply Rng.tl)))))
   | (with_reducible refine comm.a1 ?_)
   | ((with_reducible apply comm.r1 hs); (· (with_reducible (repeat (first | exact .blk | exact .rng | apply Rng.tl)))))
   | (with_reducible refine comm.c1 ?_)
   | ((with_reducible apply comm.e1); (· first | exact hS | exact hid); (· (with_reducible (repeat (first | exact .blk | exact .rng | apply Rng.tl)))))
   | (with_reducible refine comm.a2 ?_)
   | ((with_reducible apply comm.r2 hs); (· (with_reducible (repeat (first | exact .blk | exact .rng | apply Rng.tl)))); (· (with_reducible (first | assumption | exact z32 | exact u8s_len (by assumption)))))
   | (with_reducible refine comm.c2 ?_)
   | ((with_reducible apply comm.e2); (· first | exact hS | exact hid); (· (with_reducible (repeat (first | exact .blk | exact .rng | apply Rng.tl)))); (· (with_reducible (first | assumption | exact z32 | exact u8s_len (by assumption)))))
   | (with_reducible refine comm.a3 ?_)
   | ((with_reducible apply comm.r3 hs); (· (with_reducible (repeat (first | exact .blk | exact .rng | apply Rng.tl)))); (· (with_reducible (first | assumption | exact z32 | exact u8s_len (by assumption)))))
   | (with_reducible refine comm.c3 ?_)
   | ((with_reducible apply comm.e3); (· first | exact hS | exact hid); (· (with_reducible (repeat (first | exact .blk | exact .rng | apply Rng.tl)))); (· (with_reducible (first | assumption | exact z32 | exact u8s_len (by assumption)))))
   | (with_reducible (first | refine st_lens ?_ | refine st_eqls ?_ | refine st_nels ?_ | refine tk_eqls ?_ | refine tk_nels ?_ | refine mv.mk ?_ | refine nk_p ?_ | refine gdT_i ?_ | refine gdT_ft ?_ | refine gdT_tf ?_ | refine gdT_u ?_ | refine gd_u ?_ | refine gd_ft ?_ | refine gd_tf ?_ | refine gd_i ?_ | refine pk_t ?_ | refine pk_f ?_ | refine br_t ?_ | refine br_f ?_ | refine sp_boxa hs fun g w hs => ?_))
   | (with_reducible ((first | apply st_bin | apply st_ext | apply st_len | apply st_un | apply st_conv | apply st_mki | apply st_fld | apply st_cap | apply st_max | apply st_min | apply st_ixv | apply st_mkf); intro k' hk; simp [go_sem, thenR_ok, bin]; refine hk _ _ ?_; clear hk k'))
   | ((with_reducible (first | apply tk_bin | apply tk_ext | apply tk_len | apply tk_un)); (· intro w; simp [go_sem, bin]; rfl))
   | ((with_reducible apply sp_newr hs); (· kernel_rfl); intro g w hs))
  by_cases c1 : 40 < x.votes.length
  · rw [show decide ((40 : Int) < (x.votes.length : Int)) = true by simp; omega]
    repeat (first
     | (with_reducible (first | refine st_lens ?_ | refine st_eqls ?_ | refine st_nels ?_ | refine tk_eqls ?_ | refine tk_nels ?_ | refine mv.mk ?_ | refine nk_p ?_ | refine gdT_i ?_ | refine gdT_ft ?_ | refine gdT_tf ?_ | refine gdT_u ?_ | refine gd_u ?_ | refine gd_ft ?_ | refine gd_tf ?_ | refine gd_i ?_ | refine pk_t ?_ | refine pk_f ?_ | refine br_t ?_ | refine br_f ?_ | refine sp_boxa hs fun g w hs => ?_))
     | (with_reducible ((first | apply st_bin | apply st_ext | apply st_len | apply st_un | apply st_conv | apply st_mki | apply st_fld | apply st_cap | apply st_max | apply st_min | apply st_ixv | apply st_mkf); intro k' hk; simp [go_sem, thenR_ok, bin]; refine hk _ _ ?_; clear hk k'))
     | ((with_reducible (first | apply tk_bin | apply tk_ext | apply tk_len | apply tk_un)); (· intro w; simp [go_sem, bin]; rfl))
     | ((with_reducible apply sp_newr hs); (· kernel_rfl); intro g w hs))
    refine cl (isthmuslaw11_sure hs (.tl (.tl (.tl (.tl (.tl (.tl hT))))))) ?_
    rintro _ w ⟨rfl, hs⟩
    repeat with_reducible refine mv.mk ?_
    exact ⟨rfl, hs.sbl (.drop (.drop (.drop (.drop (.drop (.drop .all))))))⟩
  rw [show decide ((40 : Int) < (x.votes.length : Int)) = false by simp; omega]
  repeat (first
   | (with_reducible refine case.a0 ?_)
   | ((with_reducible apply case.r0 hs); (· (with_reducible (repeat (first | exact .blk | exact .rng | apply Rng.tl)))))
   | (with_reducible refine case.c0 ?_)
   | ((with_reducible apply case.e0); (· first | exact hS | exact hid); (· (with_reducible (repeat (first | exact .blk | exact .rng | apply Rng.tl)))))
   | (with_reducible refine case.a1 ?_)
   | ((with_reducible apply case.r1 hs); (· (with_reducible (repeat (first | exact .blk | exact .rng | apply Rng.tl)))))
   | (with_reducible refine case.c1 ?_)
   | ((with_reducible apply case.e1); (· first | exact hS | exact hid); (· (with_reducible (repeat (first | exact .blk | exact .rng | apply Rng.tl)))))
   | (with_reducible refine case.a2 ?_)
   | ((with_reducible apply case.r2 hs); (· (with_reducible (repeat (first | exact .blk | exact .rng | apply Rng.tl)))); (· (with_reducible (first | assumption | exact z32 | exact u8s_len (by assumption)))))
   | (with_reducible refine case.c2 ?_)
   | ((with_reducible apply case.e2); (· first | exact hS | exact hid); (· (with_reducible (repeat (first | exact .blk | exact .rng | apply Rng.tl)))); (· (with_reducible (first | assumption | exact z32 | exact u8s_len (by assumption)))))
   | (with_reducible (first | refine st_lens ?_ | refine st_eqls ?_ | refine st_nels ?_ | refine tk_eqls ?_ | refine tk_nels ?_ | refine mv.mk ?_ | refine nk_p ?_ | refine gdT_i ?_ | refine gdT_ft ?_ | refine gdT_tf ?_ | refine gdT_u ?_ | refine gd_u ?_ | refine gd_ft ?_ | refine gd_tf ?_ | refine gd_i ?_ | refine pk_t ?_ | refine pk_f ?_ | refine br_t ?_ | refine br_f ?_ | refine sp_boxa hs fun g w hs => ?_))
   | (with_reducible ((first | apply st_bin | apply st_ext | apply st_len | apply st_un | apply st_conv | apply st_mki | apply st_fld | apply st_cap | apply st_max | apply st_min | apply st_ixv | apply st_mkf); intro k' hk; simp [go_sem, thenR_ok, bin]; refine hk _ _ ?_; clear hk k'))
   | ((with_reducible (first | apply tk_bin | apply tk_ext | apply tk_len | apply tk_un)); (· intro w; simp [go_sem, bin]; rfl))
   | ((with_reducible apply sp_newr hs); (· kernel_rfl); intro g w hs))
  refine sp_loadall hs .hd (by kernel_rfl) rfl ?_
  refine sp_loadall hs (.tl (.tl .hd)) (by kernel_rfl) hxl ?_
  refine cl (types_VerifyCommit (l := c.set) (c := x) (chain := c.chain) (dg := c.dg) (dp := dp) hs (.tl (.tl (.tl (.tl (.tl (.tl hR)))))) (by repeat (first | with_reducible exact Ins.hd | with_reducible apply Ins.tl)) (.tl (.tl (.tl (.tl (.tl (.tl hx)))))) (by omega) hnm (by omega) hsx hb1) ?_
  rintro e w hs
  refine st_of (err_eql hs .hd) ?_
  by_cases c3 : verifyCommit c.chain c.set c.dg dp x = 0
  · rw [decide_eq_true c3]
    have htr := trust_ok c3
    repeat (first
     | (with_reducible refine case.a0 ?_)
     | ((with_reducible apply case.r0 hs); (· (with_reducible (repeat (first | exact .blk | exact .rng | apply Rng.tl)))))
     | (with_reducible refine case.c0 ?_)
     | ((with_reducible apply case.e0); (· first | exact hS | exact hid); (· (with_reducible (repeat (first | exact .blk | exact .rng | apply Rng.tl)))))
     | (with_reducible refine case.a1 ?_)
     | ((with_reducible apply case.r1 hs); (· (with_reducible (repeat (first | exact .blk | exact .rng | apply Rng.tl)))))
     | (with_reducible refine case.c1 ?_)
     | ((with_reducible apply case.e1); (· first | exact hS | exact hid); (· (with_reducible (repeat (first | exact .blk | exact .rng | apply Rng.tl)))))
     | (with_reducible refine case.a2 ?_)
     | ((with_reducible apply case.r2 hs); (· (with_reducible (repeat (first | exact .blk | exact .rng | apply Rng.tl)))); (· (with_reducible (first | assumption | exact z32 | exact u8s_len (by assumption)))))
     | (with_reducible refine case.c2 ?_)
     | ((with_reducible apply case.e2); (· first | exact hS | exact hid); (· (with_reducible (repeat (first | exact .blk | exact .rng | apply Rng.tl)))); (· (with_reducible (first | assumption | exact z32 | exact u8s_len (by assumption)))))
     | (with_reducible (first | refine st_lens ?_ | refine st_eqls ?_ | refine st_nels ?_ | refine tk_eqls ?_ | refine tk_nels ?_ | refine mv.mk ?_ | refine nk_p ?_ | refine gdT_i ?_ | refine gdT_ft ?_ | refine gdT_tf ?_ | refine gdT_u ?_ | refine gd_u ?_ | refine gd_ft ?_ | refine gd_tf ?_ | refine gd_i ?_ | refine pk_t ?_ | refine pk_f ?_ | refine br_t ?_ | refine br_f ?_ | refine sp_boxa hs fun g w hs => ?_))
     | (with_reducible ((first | apply st_bin | apply st_ext | apply st_len | apply st_un | apply st_conv | apply st_mki | apply st_fld | apply st_cap | apply st_max | apply st_min | apply st_ixv | apply st_mkf); intro k' hk; simp [go_sem, thenR_ok, bin]; refine hk _ _ ?_; clear hk k'))
     | ((with_reducible (first | apply tk_bin | apply tk_ext | apply tk_len | apply tk_un)); (· intro w; simp [go_sem, bin]; rfl))
     | ((with_reducible apply sp_newr hs); (· kernel_rfl); intro g w hs))
    refine sp_loadall hs (.tl (.tl (.tl .hd))) (by kernel_rfl) hxl ?_
    refine gd_i ?_
    refine cl (types_VerifyTrust (old := c.set) (l := c.set) (c := x) hs (by repeat (first | with_reducible exact Ins.hd | with_reducible apply Ins.tl)) (by repeat (first | with_reducible exact Ins.hd | with_reducible apply Ins.tl)) (.tl (.tl (.tl (.tl (.tl (.tl (.tl hx))))))) (by omega) (by omega)) ?_
    rintro e2 w hs
    rw [htr] at hs
    refine gd_i ?_
    refine st_of (err_neq hs .hd) ?_
    rw [show (!decide ((0 : Int) = 0)) = false from rfl]
    repeat (first
     | (with_reducible (first | refine st_lens ?_ | refine st_eqls ?_ | refine st_nels ?_ | refine tk_eqls ?_ | refine tk_nels ?_ | refine mv.mk ?_ | refine nk_p ?_ | refine gdT_i ?_ | refine gdT_ft ?_ | refine gdT_tf ?_ | refine gdT_u ?_ | refine gd_u ?_ | refine gd_ft ?_ | refine gd_tf ?_ | refine gd_i ?_ | refine pk_t ?_ | refine pk_f ?_ | refine br_t ?_ | refine br_f ?_ | refine sp_boxa hs fun g w hs => ?_))
     | (with_reducible ((first | apply st_bin | apply st_ext | apply st_len | apply st_un | apply st_conv | apply st_mki | apply st_fld | apply st_cap | apply st_max | apply st_min | apply st_ixv | apply st_mkf); intro k' hk; simp [go_sem, thenR_ok, bin]; refine hk _ _ ?_; clear hk k'))
     | ((with_reducible (first | apply tk_bin | apply tk_ext | apply tk_len | apply tk_un)); (· intro w; simp [go_sem, bin]; rfl))
     | ((with_reducible apply sp_newr hs); (· kernel_rfl); intro g w hs))
    exact tt_r1 (hs.sbl (.cons (.tl (.tl (.tl .hd))) (.drop (.drop (.drop (.drop (.drop .all))))))) (.tl (.tl hT)) hho hb4 fun w hs => ⟨rfl, hs.sbl (.drop (.drop .all))⟩
  · rw [decide_eq_false c3]
    repeat (first
     | (with_reducible (first | refine st_lens ?_ | refine st_eqls ?_ | refine st_nels ?_ | refine tk_eqls ?_ | refine tk_nels ?_ | refine mv.mk ?_ | refine nk_p ?_ | refine gdT_i ?_ | refine gdT_ft ?_ | refine gdT_tf ?_ | refine gdT_u ?_ | refine gd_u ?_ | refine gd_ft ?_ | refine gd_tf ?_ | refine gd_i ?_ | refine pk_t ?_ | refine pk_f ?_ | refine br_t ?_ | refine br_f ?_ | refine sp_boxa hs fun g w hs => ?_))
     | (with_reducible ((first | apply st_bin | apply st_ext | apply st_len | apply st_un | apply st_conv | apply st_mki | apply st_fld | apply st_cap | apply st_max | apply st_min | apply st_ixv | apply st_mkf); intro k' hk; simp [go_sem, thenR_ok, bin]; refine hk _ _ ?_; clear hk k'))
     | ((with_reducible (first | apply tk_bin | apply tk_ext | apply tk_len | apply tk_un)); (· intro w; simp [go_sem, bin]; rfl))
     | ((with_reducible apply sp_newr hs); (· kernel_rfl); intro g w hs))
    exact tt_r1 (hs.sbl (.cons (.tl (.tl .hd)) (.drop (.drop (.drop (.drop .all)))))) (.tl (.tl hT)) hho hb4 fun w hs => ⟨rfl, hs.sbl (.drop (.drop .all))⟩
end
end Go.Proofs.YtlfelmikcdmkhaaDoor
