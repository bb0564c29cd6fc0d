/- What comes in, as things: layer 11. -/
import Derived.Test.YtbbmgkbinnomgaaGreatDoorKD
import Derived.Test.YtbbmgkbinnomgaaGreatDoorKG
import Derived.Test.YtbbmgkbinnomgaaGreatDoorSH
import Derived.Test.YtbbmgkbinnomgaaGreatDoorJ8
import Derived.Test.YtbbmgkbinnomgaaGreatDoorJ9
set_option linter.unusedVariables false
set_option linter.unusedSimpArgs false
set_option linter.unusedSectionVars false
namespace Go.Proofs.YtbbmgkbinnomgaaGreatDoor
open Go Go.Isk Go.RowKit Go.ChangeShapes Go.WideShapes Go.ChangeAt
set_option maxRecDepth 20000
variable {W : World}
theorem cH : Tryz.prog.cellsOf T.api_Hash = 32 := by kernel_rfl
theorem oH : Opn Tryz.prog W T.api_Hash hashF fun _ => 1 := opn_hash (e := T.uint8) (by kernel_rfl) (by kernel_rfl) (by kernel_rfl) cH
end Go.Proofs.YtbbmgkbinnomgaaGreatDoor
set_option linter.unusedVariables false
set_option linter.unusedSimpArgs false
set_option linter.unusedSectionVars false
namespace Go.Proofs.YtbbmgkbinnomgaaGreatDoor
open Go Go.Isk Go.RowKit Go.ChangeShapes Go.WideShapes Go.ChangeAt
theorem rnK : Tryz.prog.globalNamed "isthmus/sha.rounds" = some G.sha_rounds := by kernel_rfl
theorem rndLits : Rows.laid_isthmus_sha_rounds (H := Unit) = .agg (shaK.map fun k => .lit (.int .u32 k.toNat)) := by kernel_rfl
theorem rndF_of {W : World} (h : laidMet Tryz.prog [("isthmus/sha.rounds", Rows.laid_isthmus_sha_rounds)] W) : rndF.holds (fun k => k < W.heap.size) W := by
  obtain ⟨ps, hv, _, _⟩ := h
  unfold DataW.LaidVars at hv
  obtain ⟨g, t, cs, fuel, p, q, h1, h2, h3, h4, _, _⟩ := hv
  obtain rfl : g = G.sha_rounds := Option.some.inj (h1.symm.trans rnK)
  obtain rfl : t = T.arr64_uint32 := Option.some.inj (h2.symm.trans (show (Tryz.prog.globals[G.sha_rounds]?).map (·.type) = some T.arr64_uint32 by kernel_rfl))
  obtain ⟨xs, m, _, hx, hl, hxl, hi⟩ := DataW.trod_array (n := 64) (e := T.uint32) (by kernel_rfl) h4
  rw [show Tryz.prog.cellsOf T.uint32 = 1 by kernel_rfl] at hi
  have hlit : shaK.map (fun k => DataW.lit (.int .u32 k.toNat)) = xs.map (·.1) := by
    have := (Prod.mk.inj hx).1
    rw [rndLits] at this
    exact DataW.agg.inj this
  have hcell : ∀ j (hj : j < 64), W.cell? ⟨G.sha_rounds, j, none⟩ = some (u32v (shaK[j]'(by rw [shaK_len]; exact hj))) := fun j hj => by
    have h5 := hi j hj
    rw [List.getElem?_eq_getElem (show j < xs.length by omega), Nat.mul_one] at h5
    obtain ⟨n, h6, h7, _⟩ := DataW.trod_int (by kernel_rfl) h5
    have h8 : (xs.map (·.1))[j]? = some (.lit (.int .u32 (shaK[j]'(by rw [shaK_len]; exact hj)).toNat)) := by
      rw [← hlit, List.getElem?_map, List.getElem?_eq_getElem (by rw [shaK_len]; exact hj)]
      rfl
    rw [List.getElem?_map, List.getElem?_eq_getElem (show j < xs.length by omega), Option.map_some, h7] at h8
    have h9 : n = ((shaK[j]'(by rw [shaK_len]; exact hj)).toNat : Int) := by
      have := Option.some.inj h8
      injection this with this
      injection this
    rw [World.var?_cell rnK h3 j]
    have h10 := congrArg (fun l => l[0]?) h6
    simp only [List.getElem?_take, List.getElem?_drop, List.getElem?_cons_zero] at h10
    rw [h9] at h10
    simpa [u32v] using h10
  refine ⟨fun j v hv => ?_, fun _ => World.block_lt_of_cell? W _ (hcell 0 (by decide))⟩
  have hj : j < 64 := by
    have := (List.getElem?_eq_some_iff.1 hv).1
    rwa [w32s_len, shaK_len] at this
  rw [Nat.zero_add, hcell j hj]
  rw [w32s_get (by rw [shaK_len]; exact hj)] at hv
  exact hv
theorem laid_rounds {W : World} (h : (DataW.laidRun Tryz.prog W 40 ["isthmus/sha.rounds"]).map (·.1) = some [("isthmus/sha.rounds", Rows.laid_isthmus_sha_rounds)])
    (hr : (DataW.laidRun Tryz.prog W 40 ["isthmus/sha.rounds"]).map (fun x => decide x.2.Nodup && laidRowsB Tryz.prog W x.2) = some true) : laidMet Tryz.prog [("isthmus/sha.rounds", Rows.laid_isthmus_sha_rounds)] W :=
  laidMet_of_run' 40 h hr
end Go.Proofs.YtbbmgkbinnomgaaGreatDoor
set_option linter.unusedVariables false
set_option linter.unusedSimpArgs false
set_option linter.unusedSectionVars false
namespace Go.Proofs.YtbbmgkbinnomgaaGreatDoor
open Go Go.Isk Go.RowKit Go.ChangeShapes Go.WideShapes Go.ChangeAt
set_option maxRecDepth 20000
def paraF : Fam (Int × Int) := fun cs p => pureF (cs = [.int .i64 p.1, .int .i64 p.2] ∧ I64 p.1 ∧ I64 p.2)
def PairS (S : Nat → Prop) (w : World) (cs : List Value) (p : Bytes × Bytes) : Prop := ∃ b0 b1, cs = [b0, b1] ∧ (byF b0 p.1).holds S w ∧ (byF b1 p.2).holds S w
theorem PairS.keep {S D : Nat → Prop} {w w' : World} {cs : List Value} {x : Bytes × Bytes} (h : PairS S w cs x) (hu : Upd D w w') (hd : ∀ k, S k → ¬ D k) : PairS S w' cs x := by
  obtain ⟨b0, b1, rfl, h1, h2⟩ := h
  exact ⟨b0, b1, rfl, (byF _ _).keep h1 hu hd, (byF _ _).keep h2 hu hd⟩
theorem PairS.mono {S S' : Nat → Prop} {w : World} {cs : List Value} {x : Bytes × Bytes} (h : PairS S w cs x) (hs : ∀ k, S k → k < w.heap.size → S' k) : PairS S' w cs x := by
  obtain ⟨b0, b1, rfl, h1, h2⟩ := h
  exact ⟨b0, b1, rfl, (byF _ _).mono h1 hs, (byF _ _).mono h2 hs⟩
def pairF : Fam (Bytes × Bytes) := fun cs p => ⟨fun S w => PairS S w cs p, PairS.keep, PairS.mono⟩
section
variable {W : World}
theorem opn_Params : Opn Tryz.prog W T.api_Params paraF fun _ => 1 := by
  intro H enc fuel cs x h
  obtain ⟨xs, n, _, rfl, hl, hx, hf⟩ := DataW.trod_struct (isSt.eq (P := Tryz.prog) (t := T.api_Params) (by kernel_rfl)) h
  obtain ⟨a0, h0, _⟩ := fld oI (i := 0) (off := 0) (by kernel_rfl) hx hf cI
  obtain ⟨a1, h1, _⟩ := fld oI (i := 1) (off := 1) (by kernel_rfl) hx hf cI
  have he : cs.drop 2 = [] := List.drop_eq_nil_of_le (Nat.le_of_eq (hl.trans (by kernel_rfl)))
  have e := piece h0.1 (piece h1.1 he (by omega)) (by omega)
  exact ⟨(a0, a1), ⟨by simpa using e, h0.2, h1.2⟩, bulk_pos _⟩
theorem opn_pair : Opn Tryz.prog W T.arr2_sl_uint8 pairF fun p => max (p.1.length + 1) (p.2.length + 1) := by
  intro H enc fuel cs x h
  have ht : Tryz.prog.underlying T.arr2_sl_uint8 = some (.array 2 T.sl_uint8) := by kernel_rfl
  have hc : Tryz.prog.cellsOf T.sl_uint8 = 1 := by kernel_rfl
  have hn : Tryz.prog.cellsOf T.arr2_sl_uint8 = 2 := by kernel_rfl
  obtain ⟨xs, m, _, rfl, hl, hx, hi⟩ := DataW.trod_array ht h
  rw [hn] at hl
  obtain ⟨b0, b1, rfl⟩ : ∃ b0 b1, cs = [b0, b1] := by
    match cs, hl with
    | [b0, b1], _ => exact ⟨b0, b1, rfl⟩
  have h0 := hi 0 (by decide)
  have h1 := hi 1 (by decide)
  rw [hc] at h0 h1
  rw [List.getElem?_eq_getElem (show 0 < xs.length by omega)] at h0
  rw [List.getElem?_eq_getElem (show 1 < xs.length by omega)] at h1
  obtain ⟨l0, ⟨v0, e0, q0⟩, m0⟩ := oB (x := xs[0]) h0
  obtain ⟨l1, ⟨v1, e1, q1⟩, m1⟩ := oB (x := xs[1]) h1
  have e0 : b0 = v0 := by simpa using e0
  have e1 : b1 = v1 := by simpa using e1
  subst e0
  subst e1
  refine ⟨(l0, l1), ⟨b0, b1, rfl, q0, q1⟩, ?_⟩
  have k0 := bulk_mem (l := xs.map (·.1)) (List.mem_map.2 ⟨_, List.getElem_mem (show 0 < xs.length by omega), rfl⟩)
  have k1 := bulk_mem (l := xs.map (·.1)) (List.mem_map.2 ⟨_, List.getElem_mem (show 1 < xs.length by omega), rfl⟩)
  simp only [Rows.uptoBulk]
  exact Nat.le_succ_of_le (Nat.max_le.2 ⟨Nat.le_trans m0 k0, Nat.le_trans m1 k1⟩)
def isArr (P : Program) (t : TypeId) : Bool := match P.underlying t with | some (.array _ _) => true | _ => false
theorem opn_arr {α : Type} {P : Program} {H : Type} {enc : TypeId × Value → H} {t : TypeId} {F : Fam α} {μ : α → Nat} {base : Nat} {v : Value} {d : DataW H} {p : List MemPlace} (ho : Opn P W t F μ) (hst : isArr P t = true)
    (hv : Value.okWide P W .any base t v) (h : DataW.Trod enc P W 0 (fun _ => true) true t v d p) : ∃ cs a, v = .agg cs.toArray ∧ (F cs a).holds (Old W) W ∧ μ a ≤ Rows.uptoBulk d := by
  unfold isArr at hst
  split at hst
  · rename_i n e he
    simp only [Value.okWide, he] at hv
    obtain ⟨cs, rfl, _⟩ := hv
    obtain ⟨fuel, hf⟩ := h
    obtain ⟨a, h1, h2⟩ := ho (x := (d, p)) (by simpa [Value.cells] using hf)
    exact ⟨cs.toList, a, by simp, h1, h2⟩
  · cases hst
end
end Go.Proofs.YtbbmgkbinnomgaaGreatDoor
set_option linter.unusedVariables false
set_option linter.unusedSimpArgs false
set_option linter.unusedSectionVars false
namespace Go.Proofs.YtbbmgkbinnomgaaGreatDoor
open Go Go.Isk Go.RowKit
set_option maxRecDepth 20000
abbrev KVR (g4 g5 g7 g9 g13 : Nat) (rt : Bytes) (dg dp : Int) (b0 b1 : Value) (lf : Nat) (cv pv : Value) : List It := [blkI g13 T.isthmusref06_Signature (rsigC (.int .i64 (lf : Int)) cv pv), blkI g9 T.api_Hash (u8s rt), blkI g7 T.api_Hash (u8s rt), blkI g4 T.api_Params (paraC (.int .i64 dg) (.int .i64 dp)), blkI g5 T.arr2_sl_uint8 [b0, b1]]
abbrev KVB (g3 g4 g5 g7 g9 g13 : Nat) (seed rt l1 : Bytes) (dg dp : Int) (b0 b1 : Value) (cv pv e e2 : Value) (L : List It) : List It := blkI g13 T.isthmusref06_Signature (rsigC (.int .i64 ((readK l1).1.leaf : Int)) cv pv) :: (byF cv (readK l1).1.chain).it :: (listF hshF 32 pv (readK l1).1.path).it :: (errF e2 (readK l1).2).it :: blkI g9 T.api_Hash (u8s rt) :: blkI g7 T.api_Hash (u8s rt) :: (errF e (kCheck dg dp)).it :: blkI g4 T.api_Params (paraC (.int .i64 dg) (.int .i64 dp)) :: blkI g5 T.arr2_sl_uint8 [b0, b1] :: blkI g3 T.api_Hash (u8s seed) :: L
section
variable {b : Base} {w : World} {L R : List It} {g n leaf chain to : Nat} {v b0 b1 : Value} {seed l0 l1 : Bytes} {dg dp : Int}
theorem isthmuslaw06_KeysVerify (hs : Isk.Sep b w L) (hT : Ins L errT.it) (hR : Ins L rndF.it) (hsd : seed.length = 32) (hb0 : Ins L (byF b0 l0).it) (hb1 : Ins L (byF b1 l1).it) (hl0 : l0.length ≤ 2147483648) (hl1 : l1.length ≤ 2147483648) :
    C Tryz.prog N.isthmuslaw06_KeysVerify #[.agg (u8s seed).toArray, .agg #[.int .i64 dg, .int .i64 dp], .agg #[b0, b1]] w fun r w' => r = .bool true ∧ Isk.Sep b w' L := by
  have hsl : (u8s seed).length = 32 := (u8s_length _).trans hsd
  have hone : ∀ d : Int, ∀ u ∈ paraC (.int .i64 dg) (.int .i64 d), u.oneCell' = true := fun d u hu => by
    simp only [paraC, List.mem_cons, List.not_mem_nil, or_false] at hu
    rcases hu with rfl | rfl <;> rfl
  obtain ⟨A0, c0, rfl⟩ := bytesF_slice hs hb0
  obtain ⟨A1, c1, rfl⟩ := bytesF_slice hs hb1
  refine C.isthmuslaw06_KeysVerify ?_
  unfold F.isthmuslaw06_KeysVerify
  refine sp_boxa hs fun g3 w hs => ?_
  refine sp_box (cs := paraC (.int .i64 dg) (.int .i64 dp)) hs rfl fun g4 w hs => ?_
  refine sp_box (cs := [.slice A0 l0.length c0, .slice A1 l1.length c1]) hs rfl fun g5 w hs => ?_
  repeat with_reducible refine mv.mk ?_
  refine sp_loadall hs (.tl .hd) (by kernel_rfl) rfl ?_
  refine cl (isthmuslaw06_cut (dg := dg) (dp := dp) hs) ?_
  rintro _ w ⟨rfl, hs⟩
  generalize cutP dp = dq at *
  refine sp_stb (ds := paraC (.int .i64 dg) (.int .i64 dq)) hs (.tl .hd) (by kernel_rfl) rfl rfl (hone _) fun w hs => ?_
  refine sp_ldn hs (.tl (.tl .blk)) (by kernel_rfl) hsl ?_
  refine sp_loadall hs .hd (by kernel_rfl) rfl ?_
  refine cl (keys_Root (dg := dg) (dp := dq) hs (.tl (.tl (.tl hR))) hsd) ?_
  rintro _ w ⟨e, rfl, hs⟩
  have hrt : (if kCheck dg dq = 0 then rootK seed dg dq else zero32).length = 32 := by
    split
    · exact rootB_len _ rfl (leavesB_32 _ _ _)
    · rfl
  generalize hrt0 : (if kCheck dg dq = 0 then rootK seed dg dq else zero32) = rt at *
  have hrl : (u8s rt).length = 32 := (u8s_length _).trans hrt
  repeat with_reducible refine mv.mk ?_
  refine st_of (v := .agg (u8s rt).toArray) (w' := w) (by simp [go_sem]) ?_
  refine st_of (v := e) (w' := w) (by simp [go_sem]) ?_
  refine sp_newr hs (by kernel_rfl) fun g7 w hs => ?_
  refine sp_setr (ds := u8s rt) hs .hd (by kernel_rfl) hrl (u8s_one _) fun w hs => ?_
  repeat with_reducible refine mv.mk ?_
  refine sp_ldn hs (.tl (.tl (.tl (.tl .blk)))) (by kernel_rfl) hsl ?_
  refine sp_loadall hs (.tl (.tl .hd)) (by kernel_rfl) rfl ?_
  refine cl (isthmusref06_Root (dg := dg) (dp := dq) hs hsd) ?_
  rintro _ w ⟨rfl, hs⟩
  rw [hrt0]
  repeat with_reducible refine mv.mk ?_
  refine st_of (v := .agg (u8s rt).toArray) (w' := w) (by simp [go_sem]) ?_
  refine st_of (v := .int .i64 (kCheck dg dq)) (w' := w) (by simp [go_sem]) ?_
  refine sp_newr hs (by kernel_rfl) fun g9 w hs => ?_
  refine sp_setr (ds := u8s rt) hs .hd (by kernel_rfl) hrl (u8s_one _) fun w hs => ?_
  repeat with_reducible refine mv.mk ?_
  refine sx_arr (len := 2) (by kernel_rfl) 1 rfl (by decide) ?_
  refine sx_ld (o := 0) (p := 1) hs (.tl (.tl (.tl (.tl .blk)))) (by kernel_rfl) rfl ?_
  refine cl (keys_Leaf hs (.tl (.tl (.tl (.tl (.tl (.tl hb1)))))) hl1) ?_
  rintro _ w ⟨e2, rfl, hs⟩
  repeat with_reducible refine mv.mk ?_
  refine st_of (v := .int .i64 ((readK l1).1.leaf : Int)) (w' := w) (by simp [go_sem]) ?_
  refine st_of (v := e2) (w' := w) (by simp [go_sem]) ?_
  repeat with_reducible refine mv.mk ?_
  refine sx_arr (len := 2) (by kernel_rfl) 1 rfl (by decide) ?_
  refine sx_ld (o := 0) (p := 1) hs (.tl (.tl (.tl (.tl (.tl .blk))))) (by kernel_rfl) rfl ?_
  refine cl (isthmusref06_Parts hs (.tl (.tl (.tl (.tl (.tl (.tl (.tl hb1))))))) hl1) ?_
  rintro _ w ⟨cv, pv, rfl, hs⟩
  obtain ⟨A3, c3, rfl⟩ := bytesF_slice hs .hd
  obtain ⟨A4, c4, rfl⟩ := hs.lst_len (Ins.lst (.tl .hd))
  repeat with_reducible refine mv.mk ?_
  refine st_of (v := .agg (rsigC (.int .i64 ((readK l1).1.leaf : Int)) (.slice A3 (readK l1).1.chain.length c3) (.slice A4 (readK l1).1.path.length c4)).toArray) (w' := w) (by simp [go_sem, rsigC]) ?_
  refine st_of (v := .int .i64 (readK l1).2) (w' := w) (by simp [go_sem]) ?_
  refine sp_newr hs (by kernel_rfl) fun g13 w hs => ?_
  refine sp_setr (ds := rsigC (.int .i64 ((readK l1).1.leaf : Int)) (.slice A3 (readK l1).1.chain.length c3) (.slice A4 (readK l1).1.path.length c4)) hs .hd (by kernel_rfl) rfl (fun u hu => ?_) fun w hs => ?_
  · simp only [rsigC, List.mem_cons, List.not_mem_nil, or_false] at hu
    rcases hu with rfl | rfl | rfl <;> rfl
  repeat with_reducible refine mv.mk ?_
  have hM : ∀ {w : World}, Isk.Sep b w (KVB g3 g4 g5 g7 g9 g13 seed rt l1 dg dq (.slice A0 l0.length c0) (.slice A1 l1.length c1) (.slice A3 (readK l1).1.chain.length c3) (.slice A4 (readK l1).1.path.length c4) e e2 L) → Mayr (KVR g4 g5 g7 g9 g13 rt dg dq (.slice A0 l0.length c0) (.slice A1 l1.length c1) (readK l1).1.leaf (.slice A3 (readK l1).1.chain.length c3) (.slice A4 (readK l1).1.path.length c4)) w :=
    fun hs => hs.mayr (.cons .hd (.drop (.drop (.drop (.cons .hd (.cons .hd (.drop (.cons .hd (.cons .hd .nil)))))))))
  have hN : ∀ {w : World} {f : (World → Prop) → Prop}, Isk.Sep b w (KVB g3 g4 g5 g7 g9 g13 seed rt l1 dg dq (.slice A0 l0.length c0) (.slice A1 l1.length c1) (.slice A3 (readK l1).1.chain.length c3) (.slice A4 (readK l1).1.path.length c4) e e2 L) → f (Mayr (KVR g4 g5 g7 g9 g13 rt dg dq (.slice A0 l0.length c0) (.slice A1 l1.length c1) (readK l1).1.leaf (.slice A3 (readK l1).1.chain.length c3) (.slice A4 (readK l1).1.path.length c4))) → nS (Mayr (KVR g4 g5 g7 g9 g13 rt dg dq (.slice A0 l0.length c0) (.slice A1 l1.length c1) (readK l1).1.leaf (.slice A3 (readK l1).1.chain.length c3) (.slice A4 (readK l1).1.path.length c4))) w f :=
    fun hs hf => nS_can hs (.cons .hd (.drop (.drop (.drop (.cons .hd (.cons .hd (.drop (.cons .hd (.cons .hd .nil))))))))) .all hf
  have hS : ∀ w, Mayr (KVR g4 g5 g7 g9 g13 rt dg dq (.slice A0 l0.length c0) (.slice A1 l1.length c1) (readK l1).1.leaf (.slice A3 (readK l1).1.chain.length c3) (.slice A4 (readK l1).1.path.length c4)) w → Mayr (KVR g4 g5 g7 g9 g13 rt dg dq (.slice A0 l0.length c0) (.slice A1 l1.length c1) (readK l1).1.leaf (.slice A3 (readK l1).1.chain.length c3) (.slice A4 (readK l1).1.path.length c4)) w := fun _ h => h
  replace hs := hs.drew
  refine dr_can (R := KVR g4 g5 g7 g9 g13 rt dg dq (.slice A0 l0.length c0) (.slice A1 l1.length c1) (readK l1).1.leaf (.slice A3 (readK l1).1.chain.length c3) (.slice A4 (readK l1).1.path.length c4)) hs (.cons .hd (.drop (.drop (.drop (.cons .hd (.cons .hd (.drop (.cons .hd (.cons .hd .nil))))))))) ?_
  refine tk_ldn hS (.tl (.tl .blk)) (by kernel_rfl) hrl ?_
  refine tk_ldn hS (.tl .blk) (by kernel_rfl) hrl ?_
  refine tk_run (hash_eq hrt hrt _ _) ?_
  rw [decide_eq_true rfl]
  repeat (first
   | (with_reducible (first | refine st_eqls ?_ | refine tk_eqls ?_ | refine mv.mk ?_ | refine gdT_i ?_ | refine gdT_ft ?_ | refine gdT_tf ?_ | refine gdT_u ?_ | refine gd_u ?_ | refine gd_ft ?_ | refine gd_tf ?_ | refine gd_i ?_ | refine pk_t ?_ | refine pk_f ?_ | refine sp_boxa hs fun g w hs => ?_))
   | (with_reducible ((first | apply st_bin | apply st_ext); intro k' hk; simp [go_sem, thenR_ok, bin]; refine hk _ _ ?_; clear hk k'))
   | ((with_reducible (first | apply tk_bin)); (· intro w; simp [go_sem, bin]; rfl))
   | ((with_reducible apply sp_newr hs); (· kernel_rfl); intro g w hs))
  refine cl (isthmuslaw06_num hs (.tl (.tl (.tl (.tl (.tl (.tl (.tl (.tl (.tl (.tl hT)))))))))) (.tl (.tl (.tl (.tl (.tl (.tl .hd))))))) ?_
  rintro _ w ⟨rfl, hs⟩
  refine ⟨hM hs, ?_⟩
  repeat (first
   | (with_reducible (first | refine st_eqls ?_ | refine tk_eqls ?_ | refine mv.mk ?_ | refine gdT_i ?_ | refine gdT_ft ?_ | refine gdT_tf ?_ | refine gdT_u ?_ | refine gd_u ?_ | refine gd_ft ?_ | refine gd_tf ?_ | refine gd_i ?_ | refine pk_t ?_ | refine pk_f ?_ | refine sp_boxa hs fun g w hs => ?_))
   | (with_reducible ((first | apply st_bin | apply st_ext); intro k' hk; simp [go_sem, thenR_ok, bin]; refine hk _ _ ?_; clear hk k'))
   | ((with_reducible (first | apply tk_bin)); (· intro w; simp [go_sem, bin]; rfl))
   | ((with_reducible apply sp_newr hs); (· kernel_rfl); intro g w hs))
  refine hN hs ?_
  refine gdT_i ?_
  refine tk_ldn hS (.tl (.tl (.tl .blk))) (by kernel_rfl) rfl ?_
  refine gdT_i ?_
  refine tk_ldn hS (.tl (.tl (.tl .blk))) (by kernel_rfl) rfl ?_
  refine gd_i ?_
  refine cl (keys_Check (dg := dg) (dp := dq) hs) ?_
  rintro e4 w hs
  refine ⟨hM (hs.drop .hd), ?_⟩
  refine gd_i ?_
  refine cl (isthmuslaw06_num hs (.tl (.tl (.tl (.tl (.tl (.tl (.tl (.tl (.tl (.tl (.tl hT))))))))))) .hd) ?_
  rintro _ w ⟨rfl, hs⟩
  replace hs := hs.drop .hd
  refine ⟨hM hs, ?_⟩
  refine gd_i ?_
  refine cl (isthmusref06_Check (dg := dg) (dp := dq) hs) ?_
  rintro _ w ⟨rfl, hs⟩
  refine ⟨hM hs, ?_⟩
  repeat (first
   | (with_reducible (first | refine st_eqls ?_ | refine tk_eqls ?_ | refine mv.mk ?_ | refine gdT_i ?_ | refine gdT_ft ?_ | refine gdT_tf ?_ | refine gdT_u ?_ | refine gd_u ?_ | refine gd_ft ?_ | refine gd_tf ?_ | refine gd_i ?_ | refine pk_t ?_ | refine pk_f ?_ | refine sp_boxa hs fun g w hs => ?_))
   | (with_reducible ((first | apply st_bin | apply st_ext); intro k' hk; simp [go_sem, thenR_ok, bin]; refine hk _ _ ?_; clear hk k'))
   | ((with_reducible (first | apply tk_bin)); (· intro w; simp [go_sem, bin]; rfl))
   | ((with_reducible apply sp_newr hs); (· kernel_rfl); intro g w hs))
  refine tk_run (fun w => fieldAt_run (off := 0) (by kernel_rfl) g13 0 w) ?_
  refine hN hs ?_
  refine gdT_i ?_
  refine tx_ld (p := 0) hS .blk (by kernel_rfl) rfl ?_
  repeat (first
   | (with_reducible (first | refine st_eqls ?_ | refine tk_eqls ?_ | refine mv.mk ?_ | refine gdT_i ?_ | refine gdT_ft ?_ | refine gdT_tf ?_ | refine gdT_u ?_ | refine gd_u ?_ | refine gd_ft ?_ | refine gd_tf ?_ | refine gd_i ?_ | refine pk_t ?_ | refine pk_f ?_ | refine sp_boxa hs fun g w hs => ?_))
   | (with_reducible ((first | apply st_bin | apply st_ext); intro k' hk; simp [go_sem, thenR_ok, bin]; refine hk _ _ ?_; clear hk k'))
   | ((with_reducible (first | apply tk_bin)); (· intro w; simp [go_sem, bin]; rfl))
   | ((with_reducible apply sp_newr hs); (· kernel_rfl); intro g w hs))
  refine cl (isthmuslaw06_num hs (.tl (.tl (.tl (.tl (.tl (.tl (.tl (.tl (.tl (.tl hT)))))))))) (.tl (.tl (.tl .hd)))) ?_
  rintro _ w ⟨rfl, hs⟩
  refine ⟨hM hs, ?_⟩
  repeat (first
   | (with_reducible (first | refine st_eqls ?_ | refine tk_eqls ?_ | refine mv.mk ?_ | refine gdT_i ?_ | refine gdT_ft ?_ | refine gdT_tf ?_ | refine gdT_u ?_ | refine gd_u ?_ | refine gd_ft ?_ | refine gd_tf ?_ | refine gd_i ?_ | refine pk_t ?_ | refine pk_f ?_ | refine sp_boxa hs fun g w hs => ?_))
   | (with_reducible ((first | apply st_bin | apply st_ext); intro k' hk; simp [go_sem, thenR_ok, bin]; refine hk _ _ ?_; clear hk k'))
   | ((with_reducible (first | apply tk_bin)); (· intro w; simp [go_sem, bin]; rfl))
   | ((with_reducible apply sp_newr hs); (· kernel_rfl); intro g w hs))
  refine hN hs ?_
  refine gdT_i ?_
  refine tk_ldn hS (.tl .blk) (by kernel_rfl) hrl ?_
  refine gdT_i ?_
  refine tk_ldn hS (.tl (.tl (.tl .blk))) (by kernel_rfl) rfl ?_
  refine gdT_i ?_
  refine tx_arr (len := 2) (by kernel_rfl) 0 rfl (by decide) ?_
  refine gdT_i ?_
  refine tx_ld (o := 0) (p := 0) hS (.tl (.tl (.tl (.tl .blk)))) (by kernel_rfl) rfl ?_
  refine gdT_i ?_
  refine tx_arr (len := 2) (by kernel_rfl) 1 rfl (by decide) ?_
  refine gdT_i ?_
  refine tx_ld (o := 0) (p := 1) hS (.tl (.tl (.tl (.tl .blk)))) (by kernel_rfl) rfl ?_
  refine gdT_i ?_
  refine tk_ldn hS (.tl .blk) (by kernel_rfl) hrl ?_
  refine gdT_i ?_
  refine tk_ldn hS (.tl (.tl (.tl .blk))) (by kernel_rfl) rfl ?_
  refine gdT_i ?_
  refine tx_arr (len := 2) (by kernel_rfl) 0 rfl (by decide) ?_
  refine gdT_i ?_
  refine tx_ld (o := 0) (p := 0) hS (.tl (.tl (.tl (.tl .blk)))) (by kernel_rfl) rfl ?_
  refine gdT_i ?_
  refine tx_arr (len := 2) (by kernel_rfl) 1 rfl (by decide) ?_
  refine gdT_i ?_
  refine tx_ld (o := 0) (p := 1) hS (.tl (.tl (.tl (.tl .blk)))) (by kernel_rfl) rfl ?_
  refine gd_i ?_
  refine cl (keys_Verify (dg := dg) (dp := dq) (root := rt) hs (.tl (.tl (.tl (.tl (.tl (.tl (.tl (.tl (.tl (.tl hR)))))))))) (.tl (.tl (.tl (.tl (.tl (.tl (.tl (.tl (.tl (.tl hb0)))))))))) (.tl (.tl (.tl (.tl (.tl (.tl (.tl (.tl (.tl (.tl hb1)))))))))) hl1 (by omega) hrt) ?_
  rintro e5 w hs
  refine ⟨hM (hs.drop .hd), ?_⟩
  refine gd_i ?_
  refine cl (isthmuslaw06_num hs (.tl (.tl (.tl (.tl (.tl (.tl (.tl (.tl (.tl (.tl (.tl hT))))))))))) .hd) ?_
  rintro _ w ⟨rfl, hs⟩
  replace hs := hs.drop .hd
  refine ⟨hM hs, ?_⟩
  refine gd_i ?_
  refine cl (isthmusref06_Verify (dg := dg) (dp := dq) (root := rt) hs (.tl (.tl (.tl (.tl (.tl (.tl (.tl (.tl (.tl (.tl hb0)))))))))) (.tl (.tl (.tl (.tl (.tl (.tl (.tl (.tl (.tl (.tl hb1)))))))))) hl1 (by omega) hrt) ?_
  rintro _ w ⟨rfl, hs⟩
  refine ⟨hM hs, ?_⟩
  repeat (first
   | (with_reducible (first | refine st_eqls ?_ | refine tk_eqls ?_ | refine mv.mk ?_ | refine gdT_i ?_ | refine gdT_ft ?_ | refine gdT_tf ?_ | refine gdT_u ?_ | refine gd_u ?_ | refine gd_ft ?_ | refine gd_tf ?_ | refine gd_i ?_ | refine pk_t ?_ | refine pk_f ?_ | refine sp_boxa hs fun g w hs => ?_))
   | (with_reducible ((first | apply st_bin | apply st_ext); intro k' hk; simp [go_sem, thenR_ok, bin]; refine hk _ _ ?_; clear hk k'))
   | ((with_reducible (first | apply tk_bin)); (· intro w; simp [go_sem, bin]; rfl))
   | ((with_reducible apply sp_newr hs); (· kernel_rfl); intro g w hs))
  refine cl (isthmuslaw06_sure hs (.tl (.tl (.tl (.tl (.tl (.tl (.tl (.tl (.tl (.tl hT)))))))))) (.tl (.tl (.tl (.tl (.tl (.tl (.tl (.tl (.tl (.tl hR))))))))))) ?_
  rintro _ w ⟨rfl, hs⟩
  refine ⟨hM hs, ?_⟩
  repeat (first
   | (with_reducible (first | refine st_eqls ?_ | refine tk_eqls ?_ | refine mv.mk ?_ | refine gdT_i ?_ | refine gdT_ft ?_ | refine gdT_tf ?_ | refine gdT_u ?_ | refine gd_u ?_ | refine gd_ft ?_ | refine gd_tf ?_ | refine gd_i ?_ | refine pk_t ?_ | refine pk_f ?_ | refine sp_boxa hs fun g w hs => ?_))
   | (with_reducible ((first | apply st_bin | apply st_ext); intro k' hk; simp [go_sem, thenR_ok, bin]; refine hk _ _ ?_; clear hk k'))
   | ((with_reducible (first | apply tk_bin)); (· intro w; simp [go_sem, bin]; rfl))
   | ((with_reducible apply sp_newr hs); (· kernel_rfl); intro g w hs))
  exact ⟨rfl, hs.sbl (.drop (.drop (.drop (.drop (.drop (.drop (.drop (.drop (.drop (.drop .all))))))))))⟩
end
end Go.Proofs.YtbbmgkbinnomgaaGreatDoor
set_option linter.unusedVariables false
set_option linter.unusedSimpArgs false
set_option linter.unusedSectionVars false
namespace Go.Proofs.YtbbmgkbinnomgaaGreatDoor
open Go Go.Isk Go.RowKit
theorem keysVerifyW {b : Base} {w : World} {L : List It} {c0 c1 c2 : List Value} {seed : Bytes} {p : Int × Int} {q : Bytes × Bytes} (hs : Isk.Sep b w L) (hT : Ins L errT.it) (hR : Ins L rndF.it) (h0 : Ins L (hashF c0 seed).it) (h1 : Ins L (paraF c1 p).it) (h2 : Ins L (pairF c2 q).it) (hB : max (q.1.length + 1) (q.2.length + 1) ≤ 1048576) :
    C Tryz.prog N.isthmuslaw06_KeysVerify #[.agg c0.toArray, .agg c1.toArray, .agg c2.toArray] w fun r w' => r = .bool true ∧ Isk.Sep b w' L := by
  obtain ⟨rfl, hsd⟩ : c0 = u8s seed ∧ seed.length = 32 := hs.get h0
  obtain ⟨rfl, _⟩ : c1 = [.int .i64 p.1, .int .i64 p.2] ∧ I64 p.1 ∧ I64 p.2 := hs.get h1
  obtain ⟨b0, b1, rfl, q0, q1⟩ : PairS _ _ c2 q := hs.get h2
  have hs2 := hs.fact (f := byF b0 q.1) q0
  obtain ⟨b2, b3, e, r0, r1⟩ : PairS _ _ [b0, b1] q := hs2.get (.tl h2)
  simp only [List.cons.injEq, and_true] at e
  obtain ⟨rfl, rfl⟩ := e
  have hs3 := hs2.fact (f := byF b1 q.2) r1
  refine cl (isthmuslaw06_KeysVerify hs3 (.tl (.tl hT)) (.tl (.tl hR)) hsd (.tl .hd) .hd (by omega) (by omega)) ?_
  rintro _ w ⟨rfl, hs⟩
  exact ⟨rfl, hs.sbl (.drop (.drop .all))⟩
end Go.Proofs.YtbbmgkbinnomgaaGreatDoor
