/- files: errors, names, steps, files found. -/
import Derived.Test.YtiaiglgfangedaaDoorFA
import Derived.Test.YtiaiglgfangedaaDoorF0
import Derived.Test.YtiaiglgfangedaaDoorF1
import Derived.Test.YtiaiglgfangedaaDoorF2
import Derived.Test.YtiaiglgfangedaaDoorF3
import Derived.Test.YtiaiglgfangedaaDoorGF
import Derived.Test.YtiaiglgfangedaaDoorKW
set_option linter.unusedVariables false
set_option linter.unusedSimpArgs false
set_option linter.unusedSectionVars false
namespace Go.Proofs.YtiaiglgfangedaaDoor
open Go Go.Isk Go.RowKit
set_option maxRecDepth 20000
abbrev FileD := Bytes × Int
def FileS (S : Nat → Prop) (w : World) (cs : List Value) (x : FileD) : Prop := ∃ sv, cs = fileC sv (.int .i64 x.2) ∧ SlS S w sv x.1.length 1 (u8s x.1)
theorem FileS.keep {S D : Nat → Prop} {w w' : World} {cs : List Value} {x : FileD} (h : FileS S w cs x) (hu : Upd D w w') (hd : ∀ k, S k → ¬ D k) : FileS S w' cs x := by
  obtain ⟨sv, rfl, h⟩ := h
  exact ⟨sv, rfl, h.keep hu hd⟩
theorem FileS.mono {S S' : Nat → Prop} {w : World} {cs : List Value} {x : FileD} (h : FileS S w cs x) (hs : ∀ k, S k → k < w.heap.size → S' k) : FileS S' w cs x := by
  obtain ⟨sv, rfl, h⟩ := h
  exact ⟨sv, rfl, h.mono hs⟩
def fileF : Fam FileD := fun cs x => ⟨fun S w => FileS S w cs x, FileS.keep, FileS.mono⟩
def nameF : Fam Bytes := fun cs l => pureF (cs = [str l])
structure FsD where
  m : AMap FileD
  steps : Int
  armed : Bool
  left : Int
  down : Bool
abbrev fsV (gm : Nat) (s : FsD) : List Value := fsC (.map (some gm)) (.int .i64 s.steps) (.bool s.armed) (.int .i64 s.left) (.bool s.down)
def badF (c : UInt8) : Bool := decide (c.toNat < 33) || decide (126 < c.toNat)
def namedF (s : Bytes) : Bool := decide (1 ≤ s.length) && (decide (s.length ≤ 64) && !s.any badF)
def readyE (s : FsD) (names : List Bytes) : Int := if names.any (fun n => !namedF n) then 1 else if s.down then 13 else 0
def stepF (s : FsD) : FsD × Int := if s.armed = true ∧ s.left = 0 then ({ s with down := true }, 13) else ({ s with left := IntKind.i64.wrap (s.left - 1), steps := IntKind.i64.wrap (s.steps + 1) }, 0)
section
variable {b : Base} {w : World} {L R : List It} {g gf gm : Nat} {v sv : Value} {s l : Bytes} {cs : List Value} {fs : FsD}
theorem fbT : slT Tryd.prog T.sl_uint8 T.uint8 1 1 = true := by kernel_rfl
theorem fsT : slT Tryd.prog T.sl_string T.string 1 16 = true := by kernel_rfl
theorem flT : lssT Tryd.prog T.int := fun x y a c w => by simp [go_sem, bin]
theorem fdT : addT Tryd.prog T.int := fun x y a c w => by simp [go_sem, bin]
theorem mkFaultF {g : Nat} {x : ByteArray} {e : Int} (he : e ≠ 0) (h1 : -9223372036854775808 ≤ e) (h2 : e ≤ 9223372036854775807) (hs : Sep b w L) (hm : Has L (blkI g T.api_Fault [.string x, .iface EN (.int .i64 e)]) R) : Sep b w ((errF (.iface T.p_api_Fault (.pointer (some ⟨g, 0, none⟩))) e).it :: R) :=
  hs.freeze hm fun S hB => ⟨1, g, x.data.toList, _, rfl, he, ⟨by
    have hr : w.rangeAt g 0 [.string x, .iface EN (.int .i64 e)] := Blk.range hB fun j v hv => by rwa [Nat.zero_add]
    simpa [str] using hr, fun _ => .inr (by simp [blkI])⟩, .inr ⟨rfl, he, h1, h2⟩⟩
theorem files_fault {x : ByteArray} {e : Int} (hx : x.size ≤ 4611686018427387904) (he : e ≠ 0) (h1 : -9223372036854775808 ≤ e) (h2 : e ≤ 9223372036854775807) (hs : Sep b w L) : C Tryd.prog N.files_fault #[.string x, .int .i64 e] w fun r w' => Sep b w' ((errF r e).it :: L) := by
  refine C.files_fault ?_
  unfold F.files_fault
  repeat with_reducible refine mv.mk ?_
  have hc : ∀ (o1 o2 : Operand), (bin .add T.string o1 o2 (.string ⟨#[102, 105, 108, 101, 32]⟩) (.string x)).run Tryd.prog w = .ok (.string (⟨#[102, 105, 108, 101, 32]⟩ ++ x)) w := fun o1 o2 => by
    have h3 : ¬ (9223372036854775807 < 5 + x.size) := by omega
    simp [go_sem, bin, h3]
  refine st_of (hc _ _) ?_
  generalize (⟨#[102, 105, 108, 101, 32]⟩ ++ x : ByteArray) = y
  repeat with_reducible refine mv.mk ?_
  refine st1 fun k' hk => ?_; simp [go_sem, thenR_ok, bin]; refine hk _ _ ?_; clear hk k'
  refine st_build (cells := #[.string y, .iface EN (.int .i64 e)]) (by kernel_rfl) ?_
  refine sp_box (cs := [.string y, .iface EN (.int .i64 e)]) hs rfl fun g w hs => ?_
  refine st1 fun k' hk => ?_; simp [go_sem, thenR_ok, bin]; refine hk _ _ ?_; clear hk k'
  repeat with_reducible refine mv.mk ?_
  exact mkFaultF he h1 h2 hs .hd
theorem faultS {l : Bytes} {e : Int} (hl : l.length ≤ 4611686018427387904) (he : e ≠ 0) (h1 : -9223372036854775808 ≤ e) (h2 : e ≤ 9223372036854775807) (hs : Sep b w L) : C Tryd.prog N.files_fault #[str l, .int .i64 e] w fun r w' => Sep b w' ((errF r e).it :: L) :=
  files_fault (by simpa [ByteArray.size] using hl) he h1 h2 hs
theorem err_neqF {e : Value} {n : Int} {i : Nat} (hs : Isk.Sep b w L) (hm : Ins L (errF e n).it) : (bin .neq T.error (.tmp i) (.const .nilIface) e .nilIface).run Tryd.prog w = .ok (.bool (!decide (n = 0))) w := by
  obtain ⟨d, hd⟩ := hs.get hm
  cases d with
  | zero =>
    rcases hd with ⟨rfl, rfl⟩ | ⟨rfl, h0, _⟩
    · simp [go_sem, bin]
    · simp [go_sem, bin, h0]
  | succ d' =>
    obtain ⟨_, _, _, rfl, h0, _⟩ := hd
    simp [go_sem, bin, h0]
theorem err_eqlF {e : Value} {n : Int} {i : Nat} (hs : Isk.Sep b w L) (hm : Ins L (errF e n).it) : (bin .eql T.error (.tmp i) (.const .nilIface) e .nilIface).run Tryd.prog w = .ok (.bool (decide (n = 0))) w := by
  obtain ⟨d, hd⟩ := hs.get hm
  cases d with
  | zero =>
    rcases hd with ⟨rfl, rfl⟩ | ⟨rfl, h0, _⟩
    · simp [go_sem, bin]
    · simp [go_sem, bin, h0]
  | succ d' =>
    obtain ⟨_, _, _, rfl, h0, _⟩ := hd
    simp [go_sem, bin, h0]
theorem files_named_1 {c : UInt8} (hs : Sep b w L) : C Tryd.prog N.files_named_1 #[.int .u8 c.toNat] w fun r w' => r = .bool (badF c) ∧ Sep b w' L := by
  refine C.files_named_1 ?_
  unfold F.files_named_1 badF
  repeat (first
   | (with_reducible (first | refine st_lens ?_ | refine st_eqls ?_ | refine st_nels ?_ | refine tk_eqls ?_ | refine tk_nels ?_ | refine mv.mk ?_ | refine nk_p ?_ | refine gdT_i ?_ | refine gdT_ft ?_ | refine gdT_tf ?_ | refine gdT_u ?_ | refine gd_u ?_ | refine gd_ft ?_ | refine gd_tf ?_ | refine gd_i ?_ | refine pk_t ?_ | refine pk_f ?_ | refine br_t ?_ | refine br_f ?_ | refine sp_boxa hs fun g w hs => ?_))
   | (with_reducible ((first | apply st_bin | apply st_ext | apply st_len | apply st_un | apply st_conv | apply st_mki | apply st_fld | apply st_cap | apply st_max | apply st_min | apply st_ixv | apply st_mkf); intro k' hk; simp [go_sem, thenR_ok, bin]; refine hk _ _ ?_; clear hk k'))
   | ((with_reducible (first | apply tk_bin | apply tk_ext | apply tk_len | apply tk_un)); (· intro w; simp [go_sem, bin]; rfl))
   | ((with_reducible apply sp_newr hs); (· kernel_rfl); intro g w hs))
  by_cases h : c.toNat < 33
  · rw [show decide ((c.toNat : Int) < 33) = true by simp; omega]
    repeat (first
     | (with_reducible (first | refine st_lens ?_ | refine st_eqls ?_ | refine st_nels ?_ | refine tk_eqls ?_ | refine tk_nels ?_ | refine mv.mk ?_ | refine nk_p ?_ | refine gdT_i ?_ | refine gdT_ft ?_ | refine gdT_tf ?_ | refine gdT_u ?_ | refine gd_u ?_ | refine gd_ft ?_ | refine gd_tf ?_ | refine gd_i ?_ | refine pk_t ?_ | refine pk_f ?_ | refine br_t ?_ | refine br_f ?_ | refine sp_boxa hs fun g w hs => ?_))
     | (with_reducible ((first | apply st_bin | apply st_ext | apply st_len | apply st_un | apply st_conv | apply st_mki | apply st_fld | apply st_cap | apply st_max | apply st_min | apply st_ixv | apply st_mkf); intro k' hk; simp [go_sem, thenR_ok, bin]; refine hk _ _ ?_; clear hk k'))
     | ((with_reducible (first | apply tk_bin | apply tk_ext | apply tk_len | apply tk_un)); (· intro w; simp [go_sem, bin]; rfl))
     | ((with_reducible apply sp_newr hs); (· kernel_rfl); intro g w hs))
    exact ⟨by simp [h], hs⟩
  · rw [show decide ((c.toNat : Int) < 33) = false by simp; omega]
    repeat (first
     | (with_reducible (first | refine st_lens ?_ | refine st_eqls ?_ | refine st_nels ?_ | refine tk_eqls ?_ | refine tk_nels ?_ | refine mv.mk ?_ | refine nk_p ?_ | refine gdT_i ?_ | refine gdT_ft ?_ | refine gdT_tf ?_ | refine gdT_u ?_ | refine gd_u ?_ | refine gd_ft ?_ | refine gd_tf ?_ | refine gd_i ?_ | refine pk_t ?_ | refine pk_f ?_ | refine br_t ?_ | refine br_f ?_ | refine sp_boxa hs fun g w hs => ?_))
     | (with_reducible ((first | apply st_bin | apply st_ext | apply st_len | apply st_un | apply st_conv | apply st_mki | apply st_fld | apply st_cap | apply st_max | apply st_min | apply st_ixv | apply st_mkf); intro k' hk; simp [go_sem, thenR_ok, bin]; refine hk _ _ ?_; clear hk k'))
     | ((with_reducible (first | apply tk_bin | apply tk_ext | apply tk_len | apply tk_un)); (· intro w; simp [go_sem, bin]; rfl))
     | ((with_reducible apply sp_newr hs); (· kernel_rfl); intro g w hs))
    refine ⟨?_, hs⟩
    simp only [h, decide_false, Bool.false_or]
    congr 2
    simp; omega
theorem contains_bad (hs : Sep b w L) (hm : Ins L (byF v l).it) (hn : l.length ≤ 4611686018427387904) : C Tryd.prog N.slices_ContainsFunc_bytes #[v, .func (.func N.files_named_1) #[] #[]] w fun r w' => r = .bool (l.any badF) ∧ Sep b w' L := by
  refine C.slices_ContainsFunc_bytes ?_
  unfold F.slices_ContainsFunc_bytes
  repeat with_reducible refine mv.mk ?_
  refine C.slices_IndexFunc_bytes ?_
  show IdxBody Tryd.prog T.int T.sl_uint8 T.uint8 _ _ _ _
  refine idx_one (p := badF) (by_ := 1) flT fdT fbT (by kernel_rfl) (hs.u8list hm) .lst hn ?_ ?_
  · intro w i hi x K hs hK
    have hx : [x] = _ := hs.get .hd
    simp only [List.cons.injEq, and_true] at hx
    subst hx
    refine cv_f (by kernel_rfl) ?_
    refine cl (files_named_1 (hs.drop .hd)) ?_
    rintro _ w ⟨rfl, hs⟩
    exact hK w hs
  · intro w hs
    repeat (first
     | (with_reducible (first | refine st_lens ?_ | refine st_eqls ?_ | refine st_nels ?_ | refine tk_eqls ?_ | refine tk_nels ?_ | refine mv.mk ?_ | refine nk_p ?_ | refine gdT_i ?_ | refine gdT_ft ?_ | refine gdT_tf ?_ | refine gdT_u ?_ | refine gd_u ?_ | refine gd_ft ?_ | refine gd_tf ?_ | refine gd_i ?_ | refine pk_t ?_ | refine pk_f ?_ | refine br_t ?_ | refine br_f ?_ | refine sp_boxa hs fun g w hs => ?_))
     | (with_reducible ((first | apply st_bin | apply st_ext | apply st_len | apply st_un | apply st_conv | apply st_mki | apply st_fld | apply st_cap | apply st_max | apply st_min | apply st_ixv | apply st_mkf); intro k' hk; simp [go_sem, thenR_ok, bin]; refine hk _ _ ?_; clear hk k'))
     | ((with_reducible (first | apply tk_bin | apply tk_ext | apply tk_len | apply tk_un)); (· intro w; simp [go_sem, bin]; rfl))
     | ((with_reducible apply sp_newr hs); (· kernel_rfl); intro g w hs))
    rw [idxOf_any]
    exact ⟨rfl, hs.drop .hd⟩
theorem st_lensF {l : Bytes} {k : Value → World → Prop} (hk : k (.int .i64 l.length) w) : o1 Tryd.prog (Builtin.len_ #[T.string] T.int #[str l]) w k := by
  refine st1 fun k' hk' => ?_
  have e : (⟨l.toArray⟩ : ByteArray).size = l.length := by simp [ByteArray.size]
  simp [go_sem, thenR_ok, str, e]
  exact hk' _ _ hk
theorem files_named (hs : Sep b w L) (hn : s.length ≤ 4611686018427387904) : C Tryd.prog N.files_named #[str s] w fun r w' => r = .bool (namedF s) ∧ Sep b w' L := by
  refine C.files_named ?_
  unfold F.files_named namedF
  repeat with_reducible refine mv.mk ?_
  refine st_lensF ?_
  repeat (first
   | (with_reducible (first | refine st_lens ?_ | refine st_eqls ?_ | refine st_nels ?_ | refine tk_eqls ?_ | refine tk_nels ?_ | refine mv.mk ?_ | refine nk_p ?_ | refine gdT_i ?_ | refine gdT_ft ?_ | refine gdT_tf ?_ | refine gdT_u ?_ | refine gd_u ?_ | refine gd_ft ?_ | refine gd_tf ?_ | refine gd_i ?_ | refine pk_t ?_ | refine pk_f ?_ | refine br_t ?_ | refine br_f ?_ | refine sp_boxa hs fun g w hs => ?_))
   | (with_reducible ((first | apply st_bin | apply st_ext | apply st_len | apply st_un | apply st_conv | apply st_mki | apply st_fld | apply st_cap | apply st_max | apply st_min | apply st_ixv | apply st_mkf); intro k' hk; simp [go_sem, thenR_ok, bin]; refine hk _ _ ?_; clear hk k'))
   | ((with_reducible (first | apply tk_bin | apply tk_ext | apply tk_len | apply tk_un)); (· intro w; simp [go_sem, bin]; rfl))
   | ((with_reducible apply sp_newr hs); (· kernel_rfl); intro g w hs))
  by_cases h1 : 1 ≤ s.length
  · rw [show decide ((1 : Int) ≤ (s.length : Int)) = true by simp; omega]
    repeat with_reducible refine mv.mk ?_
    refine gd_i ?_
    repeat with_reducible refine mv.mk ?_
    refine gd_i ?_
    refine st_lensF ?_
    repeat (first
     | (with_reducible (first | refine st_lens ?_ | refine st_eqls ?_ | refine st_nels ?_ | refine tk_eqls ?_ | refine tk_nels ?_ | refine mv.mk ?_ | refine nk_p ?_ | refine gdT_i ?_ | refine gdT_ft ?_ | refine gdT_tf ?_ | refine gdT_u ?_ | refine gd_u ?_ | refine gd_ft ?_ | refine gd_tf ?_ | refine gd_i ?_ | refine pk_t ?_ | refine pk_f ?_ | refine br_t ?_ | refine br_f ?_ | refine sp_boxa hs fun g w hs => ?_))
     | (with_reducible ((first | apply st_bin | apply st_ext | apply st_len | apply st_un | apply st_conv | apply st_mki | apply st_fld | apply st_cap | apply st_max | apply st_min | apply st_ixv | apply st_mkf); intro k' hk; simp [go_sem, thenR_ok, bin]; refine hk _ _ ?_; clear hk k'))
     | ((with_reducible (first | apply tk_bin | apply tk_ext | apply tk_len | apply tk_un)); (· intro w; simp [go_sem, bin]; rfl))
     | ((with_reducible apply sp_newr hs); (· kernel_rfl); intro g w hs))
    by_cases h2 : s.length ≤ 64
    · rw [show decide ((s.length : Int) ≤ 64) = true by simp; omega]
      repeat (first
       | (with_reducible (first | refine st_lens ?_ | refine st_eqls ?_ | refine st_nels ?_ | refine tk_eqls ?_ | refine tk_nels ?_ | refine mv.mk ?_ | refine nk_p ?_ | refine gdT_i ?_ | refine gdT_ft ?_ | refine gdT_tf ?_ | refine gdT_u ?_ | refine gd_u ?_ | refine gd_ft ?_ | refine gd_tf ?_ | refine gd_i ?_ | refine pk_t ?_ | refine pk_f ?_ | refine br_t ?_ | refine br_f ?_ | refine sp_boxa hs fun g w hs => ?_))
       | (with_reducible ((first | apply st_bin | apply st_ext | apply st_len | apply st_un | apply st_conv | apply st_mki | apply st_fld | apply st_cap | apply st_max | apply st_min | apply st_ixv | apply st_mkf); intro k' hk; simp [go_sem, thenR_ok, bin]; refine hk _ _ ?_; clear hk k'))
       | ((with_reducible (first | apply tk_bin | apply tk_ext | apply tk_len | apply tk_un)); (· intro w; simp [go_sem, bin]; rfl))
       | ((with_reducible apply sp_newr hs); (· kernel_rfl); intro g w hs))
      refine sp_bytes (E := T.uint8) hs (by kernel_rfl) (by kernel_rfl) (by kernel_rfl) fun v w hs => ?_
      refine gd_i ?_
      refine cl (contains_bad hs (by repeat (first | with_reducible exact Ins.hd | with_reducible apply Ins.tl)) hn) ?_; rintro _ w ⟨rfl, hs⟩
      repeat (first
       | (with_reducible (first | refine st_lens ?_ | refine st_eqls ?_ | refine st_nels ?_ | refine tk_eqls ?_ | refine tk_nels ?_ | refine mv.mk ?_ | refine nk_p ?_ | refine gdT_i ?_ | refine gdT_ft ?_ | refine gdT_tf ?_ | refine gdT_u ?_ | refine gd_u ?_ | refine gd_ft ?_ | refine gd_tf ?_ | refine gd_i ?_ | refine pk_t ?_ | refine pk_f ?_ | refine br_t ?_ | refine br_f ?_ | refine sp_boxa hs fun g w hs => ?_))
       | (with_reducible ((first | apply st_bin | apply st_ext | apply st_len | apply st_un | apply st_conv | apply st_mki | apply st_fld | apply st_cap | apply st_max | apply st_min | apply st_ixv | apply st_mkf); intro k' hk; simp [go_sem, thenR_ok, bin]; refine hk _ _ ?_; clear hk k'))
       | ((with_reducible (first | apply tk_bin | apply tk_ext | apply tk_len | apply tk_un)); (· intro w; simp [go_sem, bin]; rfl))
       | ((with_reducible apply sp_newr hs); (· kernel_rfl); intro g w hs))
      exact ⟨by simp [h1, h2], hs.drop .hd⟩
    · rw [show decide ((s.length : Int) ≤ 64) = false by simp; omega]
      repeat (first
       | (with_reducible (first | refine st_lens ?_ | refine st_eqls ?_ | refine st_nels ?_ | refine tk_eqls ?_ | refine tk_nels ?_ | refine mv.mk ?_ | refine nk_p ?_ | refine gdT_i ?_ | refine gdT_ft ?_ | refine gdT_tf ?_ | refine gdT_u ?_ | refine gd_u ?_ | refine gd_ft ?_ | refine gd_tf ?_ | refine gd_i ?_ | refine pk_t ?_ | refine pk_f ?_ | refine br_t ?_ | refine br_f ?_ | refine sp_boxa hs fun g w hs => ?_))
       | (with_reducible ((first | apply st_bin | apply st_ext | apply st_len | apply st_un | apply st_conv | apply st_mki | apply st_fld | apply st_cap | apply st_max | apply st_min | apply st_ixv | apply st_mkf); intro k' hk; simp [go_sem, thenR_ok, bin]; refine hk _ _ ?_; clear hk k'))
       | ((with_reducible (first | apply tk_bin | apply tk_ext | apply tk_len | apply tk_un)); (· intro w; simp [go_sem, bin]; rfl))
       | ((with_reducible apply sp_newr hs); (· kernel_rfl); intro g w hs))
      exact ⟨by simp [h2], hs⟩
  · rw [show decide ((1 : Int) ≤ (s.length : Int)) = false by simp; omega]
    repeat (first
     | (with_reducible (first | refine st_lens ?_ | refine st_eqls ?_ | refine st_nels ?_ | refine tk_eqls ?_ | refine tk_nels ?_ | refine mv.mk ?_ | refine nk_p ?_ | refine gdT_i ?_ | refine gdT_ft ?_ | refine gdT_tf ?_ | refine gdT_u ?_ | refine gd_u ?_ | refine gd_ft ?_ | refine gd_tf ?_ | refine gd_i ?_ | refine pk_t ?_ | refine pk_f ?_ | refine br_t ?_ | refine br_f ?_ | refine sp_boxa hs fun g w hs => ?_))
     | (with_reducible ((first | apply st_bin | apply st_ext | apply st_len | apply st_un | apply st_conv | apply st_mki | apply st_fld | apply st_cap | apply st_max | apply st_min | apply st_ixv | apply st_mkf); intro k' hk; simp [go_sem, thenR_ok, bin]; refine hk _ _ ?_; clear hk k'))
     | ((with_reducible (first | apply tk_bin | apply tk_ext | apply tk_len | apply tk_un)); (· intro w; simp [go_sem, bin]; rfl))
     | ((with_reducible apply sp_newr hs); (· kernel_rfl); intro g w hs))
    exact ⟨by simp; omega, hs⟩
end
end Go.Proofs.YtiaiglgfangedaaDoor
