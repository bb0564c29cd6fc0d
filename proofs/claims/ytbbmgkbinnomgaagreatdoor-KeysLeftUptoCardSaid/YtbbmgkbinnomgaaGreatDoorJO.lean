/- What comes in, as things: layer 11. -/
import Derived.Test.YtbbmgkbinnomgaaGreatDoorK9
import Derived.Test.YtbbmgkbinnomgaaGreatDoorKG
import Derived.Test.YtbbmgkbinnomgaaGreatDoorSH
import Derived.Test.YtbbmgkbinnomgaaGreatDoorJM
set_option linter.unusedVariables false
set_option linter.unusedSimpArgs false
set_option linter.unusedSectionVars false
namespace Go.Proofs.YtbbmgkbinnomgaaGreatDoor
open Go Go.Isk Go.RowKit Go.ChangeShapes Go.WideShapes Go.ChangeAt
set_option maxRecDepth 20000
variable {W : World}
end Go.Proofs.YtbbmgkbinnomgaaGreatDoor
set_option linter.unusedVariables false
set_option linter.unusedSimpArgs false
set_option linter.unusedSectionVars false
namespace Go.Proofs.YtbbmgkbinnomgaaGreatDoor
open Go Go.Isk Go.RowKit Go.ChangeShapes Go.WideShapes Go.ChangeAt
theorem rnK : Tryz.prog.globalNamed "isthmus/sha.rounds" = some G.sha_rounds := by kernel_rfl
theorem rndLits : Rows.laid_isthmus_sha_rounds (H := Unit) = .agg (shaK.map fun k => .lit (.int .u32 k.toNat)) := by kernel_rfl
theorem rndF_of {W : World} (h : laidMet Tryz.prog [("isthmus/sha.rounds", Rows.laid_isthmus_sha_rounds)] W) : rndF.holds (fun k => k < W.heap.size) W := by
  obtain ⟨ps, hv, _, _⟩ := h
  unfold DataW.LaidVars at hv
  obtain ⟨g, t, cs, fuel, p, q, h1, h2, h3, h4, _, _⟩ := hv
  obtain rfl : g = G.sha_rounds := Option.some.inj (h1.symm.trans rnK)
  obtain rfl : t = T.arr64_uint32 := Option.some.inj (h2.symm.trans (show (Tryz.prog.globals[G.sha_rounds]?).map (·.type) = some T.arr64_uint32 by kernel_rfl))
  obtain ⟨xs, m, _, hx, hl, hxl, hi⟩ := DataW.trod_array (n := 64) (e := T.uint32) (by kernel_rfl) h4
  rw [show Tryz.prog.cellsOf T.uint32 = 1 by kernel_rfl] at hi
  have hlit : shaK.map (fun k => DataW.lit (.int .u32 k.toNat)) = xs.map (·.1) := by
    have := (Prod.mk.inj hx).1
    rw [rndLits] at this
    exact DataW.agg.inj this
  have hcell : ∀ j (hj : j < 64), W.cell? ⟨G.sha_rounds, j, none⟩ = some (u32v (shaK[j]'(by rw [shaK_len]; exact hj))) := fun j hj => by
    have h5 := hi j hj
    rw [List.getElem?_eq_getElem (show j < xs.length by omega), Nat.mul_one] at h5
    obtain ⟨n, h6, h7, _⟩ := DataW.trod_int (by kernel_rfl) h5
    have h8 : (xs.map (·.1))[j]? = some (.lit (.int .u32 (shaK[j]'(by rw [shaK_len]; exact hj)).toNat)) := by
      rw [← hlit, List.getElem?_map, List.getElem?_eq_getElem (by rw [shaK_len]; exact hj)]
      rfl
    rw [List.getElem?_map, List.getElem?_eq_getElem (show j < xs.length by omega), Option.map_some, h7] at h8
    have h9 : n = ((shaK[j]'(by rw [shaK_len]; exact hj)).toNat : Int) := by
      have := Option.some.inj h8
      injection this with this
      injection this
    rw [World.var?_cell rnK h3 j]
    have h10 := congrArg (fun l => l[0]?) h6
    simp only [List.getElem?_take, List.getElem?_drop, List.getElem?_cons_zero] at h10
    rw [h9] at h10
    simpa [u32v] using h10
  refine ⟨fun j v hv => ?_, fun _ => World.block_lt_of_cell? W _ (hcell 0 (by decide))⟩
  have hj : j < 64 := by
    have := (List.getElem?_eq_some_iff.1 hv).1
    rwa [w32s_len, shaK_len] at this
  rw [Nat.zero_add, hcell j hj]
  rw [w32s_get (by rw [shaK_len]; exact hj)] at hv
  exact hv
theorem laid_rounds {W : World} (h : (DataW.laidRun Tryz.prog W 40 ["isthmus/sha.rounds"]).map (·.1) = some [("isthmus/sha.rounds", Rows.laid_isthmus_sha_rounds)])
    (hr : (DataW.laidRun Tryz.prog W 40 ["isthmus/sha.rounds"]).map (fun x => decide x.2.Nodup && laidRowsB Tryz.prog W x.2) = some true) : laidMet Tryz.prog [("isthmus/sha.rounds", Rows.laid_isthmus_sha_rounds)] W :=
  laidMet_of_run' 40 h hr
end Go.Proofs.YtbbmgkbinnomgaaGreatDoor
set_option linter.unusedVariables false
set_option linter.unusedSimpArgs false
set_option linter.unusedSectionVars false
namespace Go.Proofs.YtbbmgkbinnomgaaGreatDoor
open Go Go.Isk Go.RowKit Go.ChangeShapes Go.WideShapes Go.ChangeAt
set_option maxRecDepth 20000
def paraF : Fam (Int × Int) := fun cs p => pureF (cs = [.int .i64 p.1, .int .i64 p.2] ∧ I64 p.1 ∧ I64 p.2)
def PairS (S : Nat → Prop) (w : World) (cs : List Value) (p : Bytes × Bytes) : Prop := ∃ b0 b1, cs = [b0, b1] ∧ (byF b0 p.1).holds S w ∧ (byF b1 p.2).holds S w
theorem PairS.keep {S D : Nat → Prop} {w w' : World} {cs : List Value} {x : Bytes × Bytes} (h : PairS S w cs x) (hu : Upd D w w') (hd : ∀ k, S k → ¬ D k) : PairS S w' cs x := by
  obtain ⟨b0, b1, rfl, h1, h2⟩ := h
  exact ⟨b0, b1, rfl, (byF _ _).keep h1 hu hd, (byF _ _).keep h2 hu hd⟩
theorem PairS.mono {S S' : Nat → Prop} {w : World} {cs : List Value} {x : Bytes × Bytes} (h : PairS S w cs x) (hs : ∀ k, S k → k < w.heap.size → S' k) : PairS S' w cs x := by
  obtain ⟨b0, b1, rfl, h1, h2⟩ := h
  exact ⟨b0, b1, rfl, (byF _ _).mono h1 hs, (byF _ _).mono h2 hs⟩
def pairF : Fam (Bytes × Bytes) := fun cs p => ⟨fun S w => PairS S w cs p, PairS.keep, PairS.mono⟩
section
variable {W : World}
def isArr (P : Program) (t : TypeId) : Bool := match P.underlying t with | some (.array _ _) => true | _ => false
end
end Go.Proofs.YtbbmgkbinnomgaaGreatDoor
set_option linter.unusedVariables false
set_option linter.unusedSimpArgs false
set_option linter.unusedSectionVars false
namespace Go.Proofs.YtbbmgkbinnomgaaGreatDoor
open Go Go.Isk Go.RowKit
set_option maxRecDepth 20000
section
variable {b : Base} {w : World} {L R : List It} {gS gF gm g10 g7 i : Nat} {na nb : Bytes} {dp : Int} {lv tv e : Value} {z : FsD} {n d : Int}
theorem dep_four : ∃ dp : Int, 0 ≤ dp ∧ dp < 4 ∧ IntKind.i64.wrap ((IntKind.u64.wrap d).tmod 4) = dp := by
  have h1 : 0 ≤ IntKind.u64.wrap d := by simp [IntKind.wrap, IntKind.signed, IntKind.bits]; omega
  refine ⟨_, ?_, ?_, rfl⟩ <;> rw [Int.tmod_eq_emod_of_nonneg h1] <;> generalize IntKind.u64.wrap d = x at * <;> simp [IntKind.wrap, IntKind.signed, IntKind.bits] <;> omega
theorem isthmuslaw06_KeysLeft (hs : Isk.Sep b w L) (hT : Ins L errT.it) (hR : Ins L rndF.it) (hna : na.length ≤ 10000000) (hnb : nb.length ≤ 10000000) :
    C Tryz.prog N.isthmuslaw06_KeysLeft #[str na, str nb, .int .i64 d] w fun r w' => r = .bool true ∧ Isk.Sep b w' L := by
  obtain ⟨dp, h0, h4, hd⟩ := dep_four (d := d)
  have hk : kCheck 4 dp = 0 := by unfold kCheck; rw [if_neg (by omega)]
  have hsa := seedK_len na
  have hsb := seedK_len nb
  have hrb := rootK_32 (seedK nb) 4 dp
  have hrl : (u8s (rootK (seedK nb) 4 dp)).length = 32 := (u8s_length _).trans hrb
  have hnm : namedF [107] = true := by decide
  refine C.isthmuslaw06_KeysLeft ?_
  unfold F.isthmuslaw06_KeysLeft
  repeat with_reducible refine mv.mk ?_
  refine st_of (v := .int .u64 (IntKind.u64.wrap d)) (w' := w) (by simp [go_sem]) ?_
  refine st_of (v := .int .u64 ((IntKind.u64.wrap d).tmod 4)) (w' := w) (by simp [go_sem, bin]) ?_
  refine st_of (v := .int .i64 dp) (w' := w) (by simp [go_sem, hd]) ?_
  refine st_build (cells := (paraC (.int .i64 4) (.int .i64 dp)).toArray) (by kernel_rfl) ?_
  refine sp_newr hs (by kernel_rfl) fun g7 w hs => ?_
  refine sp_setr (ds := paraC (.int .i64 4) (.int .i64 dp)) hs .hd (by kernel_rfl) rfl (fun u hu => ?_) fun w hs => ?_
  · simp only [paraC, List.mem_cons, List.not_mem_nil, or_false] at hu
    rcases hu with rfl | rfl <;> rfl
  have hS : ∀ w, Mayr [blkI g7 T.api_Params (paraC (.int .i64 4) (.int .i64 dp))] w → Mayr [blkI g7 T.api_Params (paraC (.int .i64 4) (.int .i64 dp))] w := fun _ h => h
  replace hs := hs.drew
  refine dr_can (R := [blkI g7 T.api_Params (paraC (.int .i64 4) (.int .i64 dp))]) hs (.cons .hd .nil) ?_
  repeat with_reducible refine mv.mk ?_
  refine tk_ldn hS .blk (by kernel_rfl) rfl ?_
  refine cl (files_New hs) ?_
  rintro _ w ⟨gF, gm, rfl, hs⟩
  refine ⟨hs.mayr (.drop (.drop (.cons .hd .nil))), ?_⟩
  refine cl (keys_Seed hs (.tl (.tl (.tl hR))) hna) ?_
  rintro _ w ⟨rfl, hs⟩
  refine ⟨hs.mayr (.drop (.drop (.cons .hd .nil))), ?_⟩
  refine cl (keys_Open_new (name := [107]) (seed := seedK na) (dg := 4) (dp := dp) (.tl hR) hsa hk (by decide) (new_find hnm) ?_ hs) ?_
  · unfold findF
    rw [new_find hnm, if_pos (by decide)]
    decide
  rintro _ w ⟨gS, lv, rfl, hs⟩
  refine ⟨hs.mayr (.drop (.drop (.drop (.drop (.cons .hd .nil))))), ?_⟩
  repeat (first
   | (with_reducible (first | refine st_eqls ?_ | refine st_nels ?_ | refine tk_eqls ?_ | refine tk_nels ?_ | refine mv.mk ?_ | refine gdT_i ?_ | refine gdT_ft ?_ | refine gdT_tf ?_ | refine gdT_u ?_ | refine gd_u ?_ | refine gd_ft ?_ | refine gd_tf ?_ | refine gd_i ?_ | refine pk_t ?_ | refine pk_f ?_ | refine br_t ?_ | refine br_f ?_))
   | (with_reducible ((first | apply st_bin | apply st_ext | apply st_conv); intro k' hk; simp [go_sem, thenR_ok, bin]; refine hk _ _ ?_; clear hk k'))
   | ((with_reducible (first | apply tk_bin | apply tk_ext)); (· intro w; simp [go_sem, bin]; rfl))
   | ((with_reducible apply sp_newr hs); (· kernel_rfl); intro g w hs))
  have hrest : ∀ {w : World} {g10 : Nat}, Isk.Sep b w (blkI g10 T.api_Hash (u8s (rootK (seedK nb) 4 dp)) :: blkI gS T.keys_Signer (sgV gF [107] (seedK na) 4 dp lv 0 .nilIface) :: blkI gF T.files_FS (fsV gm newF) :: mapI fileF gm newF.m :: (listF hshF 32 lv (leavesB (seedK na) (4 : Int).toNat (2 ^ dp.toNat))).it :: blkI g7 T.api_Params (paraC (.int .i64 4) (.int .i64 dp)) :: L) →
      F.isthmuslaw06_KeysLeft_r (fun r w' => r = .bool true ∧ Isk.Sep b w' L) (str na) (.bool false) (.pointer (some ⟨g7, 0, none⟩)) (.pointer (some ⟨gS, 0, none⟩)) .nilIface (.pointer (some ⟨g10, 0, none⟩)) .nilIface w := fun hs =>
    kl_rest hR hT hk h4 hna (new_good _) (hs.sbl (.cons (.tl .hd) (.cons (.tl .hd) (.cons (.tl .hd) (.cons (.tl .hd) .all))))) fun w' hs => ⟨rfl, hs⟩
  have hM : ∀ {w : World}, Isk.Sep b w (blkI gS T.keys_Signer (sgV gF [107] (seedK na) 4 dp lv 0 .nilIface) :: blkI gF T.files_FS (fsV gm newF) :: mapI fileF gm newF.m :: (listF hshF 32 lv (leavesB (seedK na) (4 : Int).toNat (2 ^ dp.toNat))).it :: blkI g7 T.api_Params (paraC (.int .i64 4) (.int .i64 dp)) :: L) → Mayr [blkI g7 T.api_Params (paraC (.int .i64 4) (.int .i64 dp))] w :=
    fun hs => hs.mayr (.drop (.drop (.drop (.drop (.cons .hd .nil)))))
  replace hs := hs.drew
  refine dr_can (R := [blkI g7 T.api_Params (paraC (.int .i64 4) (.int .i64 dp))]) hs (.drop (.drop (.drop (.drop (.cons .hd .nil))))) ?_
  repeat with_reducible refine mv.mk ?_
  refine tk_ldn hS .blk (by kernel_rfl) rfl ?_
  have hone : ∀ u ∈ u8s (rootK (seedK nb) 4 dp), u.oneCell' = true := u8s_one _
  refine ⟨?_, ?_⟩
  · refine cl (keys_Seed hs (.tl (.tl (.tl (.tl (.tl hR))))) hnb) ?_
    rintro _ w ⟨rfl, hs⟩
    refine ⟨hM hs, ?_, ?_⟩
    · refine cl (keys_Root (dg := 4) (dp := dp) hs (.tl (.tl (.tl (.tl (.tl hR))))) hsb) ?_
      rintro _ w ⟨e, rfl, hs⟩
      rw [hk] at hs ⊢
      rw [if_pos rfl]
      obtain rfl := errF_zeroK hs .hd
      replace hs := hs.drop .hd
      refine ⟨hM hs, ?_⟩
      refine mv.mk ?_
      refine tk_run (v := .agg (u8s (rootK (seedK nb) 4 dp)).toArray) (fun w => by simp [go_sem]) ?_
      refine tk_run (v := .nilIface) (fun w => by simp [go_sem]) ?_
      refine sp_newr hs (by kernel_rfl) fun g10 w hs => ?_
      refine ⟨hM (hs.drop .hd), ?_⟩
      refine sp_setr (ds := u8s (rootK (seedK nb) 4 dp)) hs .hd (by kernel_rfl) hrl hone fun w hs => ?_
      refine ⟨hM (hs.drop .hd), ?_⟩
      refine mv.mk ?_
      exact hrest hs
    · refine sp_newr hs (by kernel_rfl) fun g10 w hs => ?_
      refine ⟨hM (hs.drop .hd), ?_⟩
      refine cl (keys_Root (dg := 4) (dp := dp) hs (.tl (.tl (.tl (.tl (.tl (.tl hR)))))) hsb) ?_
      rintro _ w ⟨e, rfl, hs⟩
      rw [hk] at hs ⊢
      rw [if_pos rfl]
      obtain rfl := errF_zeroK hs .hd
      replace hs := hs.drop .hd
      refine ⟨hM (hs.drop .hd), ?_⟩
      refine mv.mk ?_
      refine tk_run (v := .agg (u8s (rootK (seedK nb) 4 dp)).toArray) (fun w => by simp [go_sem]) ?_
      refine tk_run (v := .nilIface) (fun w => by simp [go_sem]) ?_
      refine sp_setr (ds := u8s (rootK (seedK nb) 4 dp)) hs .hd (by kernel_rfl) hrl hone fun w hs => ?_
      refine ⟨hM (hs.drop .hd), ?_⟩
      refine mv.mk ?_
      exact hrest hs
  · refine sp_newr hs (by kernel_rfl) fun g10 w hs => ?_
    refine ⟨hM (hs.drop .hd), ?_⟩
    refine cl (keys_Seed hs (.tl (.tl (.tl (.tl (.tl (.tl hR)))))) hnb) ?_
    rintro _ w ⟨rfl, hs⟩
    refine ⟨hM (hs.drop .hd), ?_⟩
    refine cl (keys_Root (dg := 4) (dp := dp) hs (.tl (.tl (.tl (.tl (.tl (.tl hR)))))) hsb) ?_
    rintro _ w ⟨e, rfl, hs⟩
    rw [hk] at hs ⊢
    rw [if_pos rfl]
    obtain rfl := errF_zeroK hs .hd
    replace hs := hs.drop .hd
    refine ⟨hM (hs.drop .hd), ?_⟩
    refine mv.mk ?_
    refine tk_run (v := .agg (u8s (rootK (seedK nb) 4 dp)).toArray) (fun w => by simp [go_sem]) ?_
    refine tk_run (v := .nilIface) (fun w => by simp [go_sem]) ?_
    refine sp_setr (ds := u8s (rootK (seedK nb) 4 dp)) hs .hd (by kernel_rfl) hrl hone fun w hs => ?_
    refine ⟨hM (hs.drop .hd), ?_⟩
    refine mv.mk ?_
    exact hrest hs
end
end Go.Proofs.YtbbmgkbinnomgaaGreatDoor
set_option linter.unusedVariables false
set_option linter.unusedSimpArgs false
set_option linter.unusedSectionVars false
namespace Go.Proofs.YtbbmgkbinnomgaaGreatDoor
open Go Go.Isk Go.RowKit Go.ChangeShapes Go.WideShapes Go.ChangeAt
def isStrT (P : Program) (t : TypeId) : Bool := match P.underlying t with
  | some .string => true
  | _ => false
theorem opn_string {α : Type} {P : Program} {W : World} {H : Type} {enc : TypeId × Value → H} {t : TypeId} {F : Fam α} {μ : α → Nat} {base : Nat} {v : Value} {d : DataW H} {p : List MemPlace} (ho : Opn P W t F μ) (hst : isStrT P t = true)
    (hv : Value.okWide P W .any base t v) (h : DataW.Trod enc P W 0 (fun _ => true) true t v d p) : ∃ a, (F [v] a).holds (Old W) W ∧ μ a ≤ Rows.uptoBulk d := by
  unfold isStrT at hst
  split at hst
  · rename_i he
    obtain ⟨n, rfl⟩ := okWide_string he hv
    obtain ⟨fuel, hf⟩ := h
    exact ho (x := (d, p)) (by simpa [Value.cells] using hf)
  · cases hst
theorem keysLeftW {b : Base} {w : World} {L : List It} {v0 v1 v2 : Value} {na nb : Bytes} {d : Int} (hs : Isk.Sep b w L) (hT : Ins L errT.it) (hR : Ins L rndF.it) (h0 : Ins L (strF [v0] na).it) (h1 : Ins L (strF [v1] nb).it) (h2 : Ins L (i64F [v2] d).it) (hB : na.length ≤ 1048576 ∧ nb.length ≤ 1048576) :
    C Tryz.prog N.isthmuslaw06_KeysLeft #[v0, v1, v2] w fun r w' => r = .bool true ∧ Isk.Sep b w' L := by
  obtain ⟨e0, _⟩ : [v0] = [str na] ∧ na.length ≤ maxLen := hs.get h0
  obtain ⟨e1, _⟩ : [v1] = [str nb] ∧ nb.length ≤ maxLen := hs.get h1
  obtain ⟨e2, _⟩ : [v2] = [.int .i64 d] ∧ I64 d := hs.get h2
  simp only [List.cons.injEq, and_true] at e0 e1 e2
  subst e0 e1 e2
  exact isthmuslaw06_KeysLeft hs hT hR (by omega) (by omega)
end Go.Proofs.YtbbmgkbinnomgaaGreatDoor
