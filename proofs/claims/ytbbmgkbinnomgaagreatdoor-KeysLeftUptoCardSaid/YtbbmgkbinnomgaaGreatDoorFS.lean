/- Slices cut to their length, and appended to. -/
import Derived.Test.YtbbmgkbinnomgaaGreatDoorKM
import Derived.Test.YtbbmgkbinnomgaaGreatDoorFL
import Derived.Test.YtbbmgkbinnomgaaGreatDoorKG
import Derived.Deep.AppendSrc
import Derived.Deep.Upon
import Derived.Test.YtbbmgkbinnomgaaGreatDoorF0
import Derived.Test.YtbbmgkbinnomgaaGreatDoorF1
import Derived.Test.YtbbmgkbinnomgaaGreatDoorF2
import Derived.Test.YtbbmgkbinnomgaaGreatDoorF3
import Derived.Test.YtbbmgkbinnomgaaGreatDoorL1
import Derived.Test.YtbbmgkbinnomgaaGreatDoorKW
set_option linter.unusedVariables false
set_option linter.unusedSimpArgs false
set_option linter.unusedSectionVars false
namespace Go.Isk
open Go Go.RowKit
section
variable {P : Program} {b : Base} {w w' : World} {L R : List It} {v x : Value} {n m sz : Nat} {xs ys : List Value} {l t : List UInt8} {k : Value → World → Prop}
/-- the first of a slice, with no room behind -/
theorem sl_hm {T E by_ : Nat} (hT : slT P T E sz by_ = true) (h : Sl w v n sz xs) (i : Nat) (hi : i ≤ n) (q q2 : IntKind) :
    ∃ A, (∀ w', (Instr.sliceAt T v none (some (.int q i)) (some (.int q2 i))).run P w' = .ok (.slice A i i) w') ∧ Sl w (.slice A i i) i sz (xs.take (i * sz)) ∧ (Value.slice A i i).ownBlock = v.ownBlock := by
  obtain ⟨h1, hsz, j, z, hj, hz, hs1, hs2, hs3⟩ := slT.spec hT
  obtain ⟨A, c, rfl, hc, hl, hr⟩ := h
  have he : P.elem T = E := by simp [Program.elem, h1]
  refine ⟨A, fun w' => ?_, ?_, by cases A <;> rfl⟩
  · rw [run_sliceAt_slice w' T _ _ _ _ (by rw [h1, he]), run_slice_hm w' T A n c (by rw [h1, he]) q q2 i i (by omega) (by omega) (by omega)]
    have hz0 : sliced A 0 i i sz = .slice A i i := by
      cases A with
      | none => simp [sliced]
      | some a =>
        have : a.add 0 = a := by unfold Addr.add; split <;> simp_all
        simp [sliced, this]
    simp [sizeOf, typeInfo, he, hj, hs1, hz0]
  · refine ⟨_, _, rfl, Nat.le_refl _, ?_, fun hn => ?_⟩
    · rw [List.length_take, hl, Nat.min_eq_left (Nat.mul_le_mul_right _ hi)]
    · obtain ⟨g, o, rfl, hr'⟩ := hr (by
        have : 0 < i := Nat.pos_of_ne_zero fun e => by rw [e, Nat.zero_mul] at hn; omega
        exact Nat.mul_pos (by omega) hsz)
      refine ⟨g, o, rfl, fun a u hu => ?_⟩
      rw [List.getElem?_take] at hu
      split at hu
      · exact hr' _ _ hu
      · cases hu
theorem src_sl {T E by_ : Nat} (hT : slT P T E 1 by_ = true) (h : Sl w x m 1 ys) (h1 : ∀ u ∈ ys, u.oneCell' = true) : Src P 1 T x m ys w := by
  obtain ⟨e1, hsz, j, z, hj, hz, hs1, hs2, hs3⟩ := slT.spec hT
  obtain ⟨A, c, rfl, hc, hl, hr⟩ := h
  by_cases hm : m = 0
  · subst hm
    have : ys = [] := List.length_eq_zero_iff.1 (by simpa using hl)
    subst this
    cases A with
    | none => exact Src.ofNil w e1 c
    | some a => exact Src.ofSlice w e1 a 0 c [] (by simp) (fun j u hu => by simp at hu) (fun u hu => by cases hu)
  · obtain ⟨g, o, rfl, hr'⟩ := hr (by omega)
    exact Src.ofSlice w e1 ⟨g, o, none⟩ m c ys hl (fun j u hu => by rw [Addr.add_lit]; exact hr' j u hu) h1
theorem Ins.rds (h : Ins L (byF v l).it) : Rds L v l.length 1 (u8s l) := by
  generalize hI : (byF v l).it = I at h
  induction h with
  | hd => subst hI; exact .byt
  | tl _ ih => exact .tl (ih hI)
theorem rds_slice (hs : Sep b w L) (hx : Rds L v n m xs) : ∃ A c, v = .slice A n c := by
  obtain ⟨A, c, h, _⟩ := hs.reads hx
  exact ⟨A, c, h⟩
/-- a slice with no room behind is appended to: what was there stays -/
theorem sp_appG {A : Option Addr} {T E by_ T' : Nat} (h : Sep b w L) (hT : slT P T E 1 by_ = true) (hm : Ins L (byF (.slice A l.length l.length) l).it) (hx : Rds L x t.length 1 (u8s t)) (hby : by_ ≤ 1) (hl : l.length + t.length ≤ 1000000000)
    (hk : ∀ v' w', Sep b w' ((byF v' (l ++ t)).it :: L) → k v' w') : ob P (fun _ => Builtin.append_ #[T, T] T' #[.slice A l.length l.length, x]) w k := by
  obtain ⟨e1, hsz, j, z, hj, hz, hs1, hs2, hs3⟩ := slT.spec hT
  have f1 : SlS (Stb w L) w (.slice A l.length l.length) l.length 1 (u8s l) := h.get hm
  have f2 : Sl w x t.length 1 (u8s t) := h.reads hx
  have hs := src_sl hT f2 (u8s_one t)
  by_cases ht : t = []
  · subst ht
    have hs0 : Src P j.size T x 0 [] w := by rw [hs1]; exact hs
    refine stb (run_append_nothing w T T T' E j e1 hj A l.length l.length (Nat.le_refl _) x hs0) (hk _ _ ?_)
    rw [List.append_nil]
    exact h.fact f1
  · have htl : 0 < t.length := List.length_pos_iff.2 ht
    have hold : (Builtin.firstCells j.size l.length (.slice A l.length l.length)).run P w.drew = .ok (u8s l).toArray w.drew := by
      have := (src_sl hT f1.1 (u8s_one l)).cellsD
      rw [hs1]; exact this
    have hcap := nextslicecap_le (need := l.length + t.length) (old := l.length) (by omega)
    have hr := run_append_grow_src (P := P) w T T T' E j z e1 hj hz A l.length l.length (u8s l) hold x t.length (u8s t) (by rw [hs1]; exact hs) (by omega) (by omega) (by
      rw [hs2]
      have : Builtin.nextslicecap (l.length + t.length) l.length * by_ ≤ Builtin.nextslicecap (l.length + t.length) l.length * 1 := Nat.mul_le_mul_left _ hby
      omega)
    refine stb hr (hk _ _ ?_)
    generalize hZ : Builtin.zeroCells z.cells (grownCap w (l.length + t.length) l.length E - (l.length + t.length)) = Z
    have hcap2 := grownCap_ge w (l.length + t.length) l.length E
    generalize grownCap w (l.length + t.length) l.length E = cap at hcap2
    have hb : Blk (w.drew.alloc (.cells ((u8s l ++ u8s t).toArray ++ Z) E)) w.heap.size E (u8s l ++ u8s t ++ Z.toList) := by
      have ez : (u8s l ++ u8s t).toArray ++ Z = (u8s l ++ u8s t ++ Z.toList).toArray := by apply Array.ext'; simp
      rw [ez]
      exact Blk.new
    have h2 : Sep b (w.drew.alloc (.cells ((u8s l ++ u8s t).toArray ++ Z) E)) (blkI w.heap.size E (u8s l ++ u8s t ++ Z.toList) :: L) := h.add (upd_drew.alloc _) (by
      intro k hk
      simp only [blkI, List.mem_singleton] at hk
      subst hk
      exact ⟨hb.lt, Nat.le_refl _⟩) hb
    refine h2.freeze .hd fun S hB => ?_
    have hsl := Sl.of_blk (n := l.length + t.length) (m := cap) (o := 0) (sz := 1) (show Blk _ w.heap.size E (u8s l ++ u8s t ++ Z.toList) from hB) (by simp only [List.length_append, u8s_length]; omega) (by omega)
    have e : ((u8s l ++ u8s t ++ Z.toList).drop 0).take ((l.length + t.length) * 1) = u8s (l ++ t) := by
      rw [List.drop_zero, Nat.mul_one, List.take_append_of_le_length (by simp only [List.length_append, u8s_length]; omega), List.take_of_length_le (by simp only [List.length_append, u8s_length]; omega)]
      simp [u8s]
    rw [e] at hsl
    exact SlS.of (by rw [List.length_append]; exact hsl) fun k hk => .inr (by simp [Value.ownBlock] at hk; simp [blkI, hk])
end
end Go.Isk
set_option linter.unusedVariables false
set_option linter.unusedSimpArgs false
set_option linter.unusedSectionVars false
namespace Go.Proofs.YtbbmgkbinnomgaaGreatDoor
open Go Go.Isk Go.RowKit
set_option maxRecDepth 20000
abbrev FileD := Bytes × Int
def FileS (S : Nat → Prop) (w : World) (cs : List Value) (x : FileD) : Prop := ∃ sv, cs = fileC sv (.int .i64 x.2) ∧ SlS S w sv x.1.length 1 (u8s x.1)
theorem FileS.keep {S D : Nat → Prop} {w w' : World} {cs : List Value} {x : FileD} (h : FileS S w cs x) (hu : Upd D w w') (hd : ∀ k, S k → ¬ D k) : FileS S w' cs x := by
  obtain ⟨sv, rfl, h⟩ := h
  exact ⟨sv, rfl, h.keep hu hd⟩
theorem FileS.mono {S S' : Nat → Prop} {w : World} {cs : List Value} {x : FileD} (h : FileS S w cs x) (hs : ∀ k, S k → k < w.heap.size → S' k) : FileS S' w cs x := by
  obtain ⟨sv, rfl, h⟩ := h
  exact ⟨sv, rfl, h.mono hs⟩
def fileF : Fam FileD := fun cs x => ⟨fun S w => FileS S w cs x, FileS.keep, FileS.mono⟩
def nameF : Fam Bytes := fun cs l => pureF (cs = [str l])
structure FsD where
  m : AMap FileD
  steps : Int
  armed : Bool
  left : Int
  down : Bool
abbrev fsV (gm : Nat) (s : FsD) : List Value := fsC (.map (some gm)) (.int .i64 s.steps) (.bool s.armed) (.int .i64 s.left) (.bool s.down)
def badF (c : UInt8) : Bool := decide (c.toNat < 33) || decide (126 < c.toNat)
def namedF (s : Bytes) : Bool := decide (1 ≤ s.length) && (decide (s.length ≤ 64) && !s.any badF)
def readyE (s : FsD) (names : List Bytes) : Int := if names.any (fun n => !namedF n) then 1 else if s.down then 13 else 0
def stepF (s : FsD) : FsD × Int := if s.armed = true ∧ s.left = 0 then ({ s with down := true }, 13) else ({ s with left := IntKind.i64.wrap (s.left - 1), steps := IntKind.i64.wrap (s.steps + 1) }, 0)
section
variable {b : Base} {w : World} {L R : List It} {g gf gm : Nat} {v sv : Value} {s l : Bytes} {cs : List Value} {fs : FsD}
theorem fbT : slT Tryz.prog T.sl_uint8 T.uint8 1 1 = true := by kernel_rfl
theorem fsT : slT Tryz.prog T.sl_string T.string 1 16 = true := by kernel_rfl
theorem flT : lssT Tryz.prog T.int := fun x y a c w => by simp [go_sem, bin]
theorem fdT : addT Tryz.prog T.int := fun x y a c w => by simp [go_sem, bin]
theorem mkFaultF {g : Nat} {x : ByteArray} {e : Int} (he : e ≠ 0) (h1 : -9223372036854775808 ≤ e) (h2 : e ≤ 9223372036854775807) (hs : Sep b w L) (hm : Has L (blkI g T.api_Fault [.string x, .iface EN (.int .i64 e)]) R) : Sep b w ((errF (.iface T.p_api_Fault (.pointer (some ⟨g, 0, none⟩))) e).it :: R) :=
  hs.freeze hm fun S hB => ⟨1, g, x.data.toList, _, rfl, he, ⟨by
    have hr : w.rangeAt g 0 [.string x, .iface EN (.int .i64 e)] := Blk.range hB fun j v hv => by rwa [Nat.zero_add]
    simpa [str] using hr, fun _ => .inr (by simp [blkI])⟩, .inr ⟨rfl, he, h1, h2⟩⟩
theorem files_fault {x : ByteArray} {e : Int} (hx : x.size ≤ 4611686018427387904) (he : e ≠ 0) (h1 : -9223372036854775808 ≤ e) (h2 : e ≤ 9223372036854775807) (hs : Sep b w L) : C Tryz.prog N.files_fault #[.string x, .int .i64 e] w fun r w' => Sep b w' ((errF r e).it :: L) := by
  refine C.files_fault ?_
  unfold F.files_fault
  repeat with_reducible refine mv.mk ?_
  have hc : ∀ (o1 o2 : Operand), (bin .add T.string o1 o2 (.string ⟨#[102, 105, 108, 101, 32]⟩) (.string x)).run Tryz.prog w = .ok (.string (⟨#[102, 105, 108, 101, 32]⟩ ++ x)) w := fun o1 o2 => by
    have h3 : ¬ (9223372036854775807 < 5 + x.size) := by omega
    simp [go_sem, bin, h3]
  refine st_of (hc _ _) ?_
  generalize (⟨#[102, 105, 108, 101, 32]⟩ ++ x : ByteArray) = y
  repeat with_reducible refine mv.mk ?_
  refine st1 fun k' hk => ?_; simp [go_sem, thenR_ok, bin]; refine hk _ _ ?_; clear hk k'
  refine st_build (cells := #[.string y, .iface EN (.int .i64 e)]) (by kernel_rfl) ?_
  refine sp_box (cs := [.string y, .iface EN (.int .i64 e)]) hs rfl fun g w hs => ?_
  refine st1 fun k' hk => ?_; simp [go_sem, thenR_ok, bin]; refine hk _ _ ?_; clear hk k'
  repeat with_reducible refine mv.mk ?_
  exact mkFaultF he h1 h2 hs .hd
theorem faultS {l : Bytes} {e : Int} (hl : l.length ≤ 4611686018427387904) (he : e ≠ 0) (h1 : -9223372036854775808 ≤ e) (h2 : e ≤ 9223372036854775807) (hs : Sep b w L) : C Tryz.prog N.files_fault #[str l, .int .i64 e] w fun r w' => Sep b w' ((errF r e).it :: L) :=
  files_fault (by simpa [ByteArray.size] using hl) he h1 h2 hs
theorem err_neqF {e : Value} {n : Int} {i : Nat} (hs : Isk.Sep b w L) (hm : Ins L (errF e n).it) : (bin .neq T.error (.tmp i) (.const .nilIface) e .nilIface).run Tryz.prog w = .ok (.bool (!decide (n = 0))) w := by
  obtain ⟨d, hd⟩ := hs.get hm
  cases d with
  | zero =>
    rcases hd with ⟨rfl, rfl⟩ | ⟨rfl, h0, _⟩
    · simp [go_sem, bin]
    · simp [go_sem, bin, h0]
  | succ d' =>
    obtain ⟨_, _, _, rfl, h0, _⟩ := hd
    simp [go_sem, bin, h0]
theorem files_named_1 {c : UInt8} (hs : Sep b w L) : C Tryz.prog N.files_named_1 #[.int .u8 c.toNat] w fun r w' => r = .bool (badF c) ∧ Sep b w' L := by
  refine C.files_named_1 ?_
  unfold F.files_named_1 badF
  repeat (first
   | (with_reducible (first | refine mv.mk ?_ | refine gd_u ?_ | refine gd_ft ?_ | refine gd_tf ?_ | refine gd_i ?_ | refine pk_t ?_ | refine pk_f ?_))
   | (with_reducible ((first | apply st_bin); intro k' hk; simp [go_sem, thenR_ok, bin]; refine hk _ _ ?_; clear hk k')))
  by_cases h : c.toNat < 33
  · rw [show decide ((c.toNat : Int) < 33) = true by simp; omega]
    repeat (first
     | (with_reducible (first | refine mv.mk ?_ | refine gd_u ?_ | refine gd_ft ?_ | refine gd_tf ?_ | refine gd_i ?_ | refine pk_t ?_ | refine pk_f ?_))
     | (with_reducible ((first | apply st_bin); intro k' hk; simp [go_sem, thenR_ok, bin]; refine hk _ _ ?_; clear hk k')))
    exact ⟨by simp [h], hs⟩
  · rw [show decide ((c.toNat : Int) < 33) = false by simp; omega]
    repeat (first
     | (with_reducible (first | refine mv.mk ?_ | refine gd_u ?_ | refine gd_ft ?_ | refine gd_tf ?_ | refine gd_i ?_ | refine pk_t ?_ | refine pk_f ?_))
     | (with_reducible ((first | apply st_bin); intro k' hk; simp [go_sem, thenR_ok, bin]; refine hk _ _ ?_; clear hk k')))
    refine ⟨?_, hs⟩
    simp only [h, decide_false, Bool.false_or]
    congr 2
    simp; omega
theorem contains_bad (hs : Sep b w L) (hm : Ins L (byF v l).it) (hn : l.length ≤ 4611686018427387904) : C Tryz.prog N.slices_ContainsFunc_bytes #[v, .func (.func N.files_named_1) #[] #[]] w fun r w' => r = .bool (l.any badF) ∧ Sep b w' L := by
  refine C.slices_ContainsFunc_bytes ?_
  unfold F.slices_ContainsFunc_bytes
  repeat with_reducible refine mv.mk ?_
  refine C.slices_IndexFunc_bytes ?_
  show IdxBody Tryz.prog T.int T.sl_uint8 T.uint8 _ _ _ _
  refine idx_one (p := badF) (by_ := 1) flT fdT fbT (by kernel_rfl) (hs.u8list hm) .lst hn ?_ ?_
  · intro w i hi x K hs hK
    have hx : [x] = _ := hs.get .hd
    simp only [List.cons.injEq, and_true] at hx
    subst hx
    refine cv_f (by kernel_rfl) ?_
    refine cl (files_named_1 (hs.drop .hd)) ?_
    rintro _ w ⟨rfl, hs⟩
    exact hK w hs
  · intro w hs
    repeat (first
     | (with_reducible (first | refine mv.mk ?_))
     | (with_reducible ((first | apply st_bin); intro k' hk; simp [go_sem, thenR_ok, bin]; refine hk _ _ ?_; clear hk k')))
    rw [idxOf_any]
    exact ⟨rfl, hs.drop .hd⟩
theorem st_lensF {l : Bytes} {k : Value → World → Prop} (hk : k (.int .i64 l.length) w) : o1 Tryz.prog (Builtin.len_ #[T.string] T.int #[str l]) w k := by
  refine st1 fun k' hk' => ?_
  have e : (⟨l.toArray⟩ : ByteArray).size = l.length := by simp [ByteArray.size]
  simp [go_sem, thenR_ok, str, e]
  exact hk' _ _ hk
theorem files_named (hs : Sep b w L) (hn : s.length ≤ 4611686018427387904) : C Tryz.prog N.files_named #[str s] w fun r w' => r = .bool (namedF s) ∧ Sep b w' L := by
  refine C.files_named ?_
  unfold F.files_named namedF
  repeat with_reducible refine mv.mk ?_
  refine st_lensF ?_
  repeat (first
   | (with_reducible (first | refine st_lens ?_ | refine mv.mk ?_ | refine gd_u ?_ | refine gd_ft ?_ | refine gd_tf ?_ | refine gd_i ?_ | refine pk_t ?_ | refine pk_f ?_))
   | (with_reducible ((first | apply st_bin | apply st_len | apply st_un | apply st_conv); intro k' hk; simp [go_sem, thenR_ok, bin]; refine hk _ _ ?_; clear hk k')))
  by_cases h1 : 1 ≤ s.length
  · rw [show decide ((1 : Int) ≤ (s.length : Int)) = true by simp; omega]
    repeat with_reducible refine mv.mk ?_
    refine gd_i ?_
    repeat with_reducible refine mv.mk ?_
    refine gd_i ?_
    refine st_lensF ?_
    repeat (first
     | (with_reducible (first | refine st_lens ?_ | refine mv.mk ?_ | refine gd_u ?_ | refine gd_ft ?_ | refine gd_tf ?_ | refine gd_i ?_ | refine pk_t ?_ | refine pk_f ?_))
     | (with_reducible ((first | apply st_bin | apply st_len | apply st_un | apply st_conv); intro k' hk; simp [go_sem, thenR_ok, bin]; refine hk _ _ ?_; clear hk k')))
    by_cases h2 : s.length ≤ 64
    · rw [show decide ((s.length : Int) ≤ 64) = true by simp; omega]
      repeat (first
       | (with_reducible (first | refine st_lens ?_ | refine mv.mk ?_ | refine gd_u ?_ | refine gd_ft ?_ | refine gd_tf ?_ | refine gd_i ?_ | refine pk_t ?_ | refine pk_f ?_))
       | (with_reducible ((first | apply st_bin | apply st_len | apply st_un | apply st_conv); intro k' hk; simp [go_sem, thenR_ok, bin]; refine hk _ _ ?_; clear hk k')))
      refine sp_bytes (E := T.uint8) hs (by kernel_rfl) (by kernel_rfl) (by kernel_rfl) fun v w hs => ?_
      refine gd_i ?_
      refine cl (contains_bad hs (by repeat (first | with_reducible exact Ins.hd | with_reducible apply Ins.tl)) hn) ?_; rintro _ w ⟨rfl, hs⟩
      repeat (first
       | (with_reducible (first | refine st_lens ?_ | refine mv.mk ?_ | refine gd_u ?_ | refine gd_ft ?_ | refine gd_tf ?_ | refine gd_i ?_ | refine pk_t ?_ | refine pk_f ?_))
       | (with_reducible ((first | apply st_bin | apply st_len | apply st_un | apply st_conv); intro k' hk; simp [go_sem, thenR_ok, bin]; refine hk _ _ ?_; clear hk k')))
      exact ⟨by simp [h1, h2], hs.drop .hd⟩
    · rw [show decide ((s.length : Int) ≤ 64) = false by simp; omega]
      repeat (first
       | (with_reducible (first | refine st_lens ?_ | refine mv.mk ?_ | refine gd_u ?_ | refine gd_ft ?_ | refine gd_tf ?_ | refine gd_i ?_ | refine pk_t ?_ | refine pk_f ?_))
       | (with_reducible ((first | apply st_bin | apply st_len | apply st_un | apply st_conv); intro k' hk; simp [go_sem, thenR_ok, bin]; refine hk _ _ ?_; clear hk k')))
      exact ⟨by simp [h2], hs⟩
  · rw [show decide ((1 : Int) ≤ (s.length : Int)) = false by simp; omega]
    repeat (first
     | (with_reducible (first | refine st_lens ?_ | refine mv.mk ?_ | refine gd_u ?_ | refine gd_ft ?_ | refine gd_tf ?_ | refine gd_i ?_ | refine pk_t ?_ | refine pk_f ?_))
     | (with_reducible ((first | apply st_bin | apply st_len | apply st_un | apply st_conv); intro k' hk; simp [go_sem, thenR_ok, bin]; refine hk _ _ ?_; clear hk k')))
    exact ⟨by simp; omega, hs⟩
end
end Go.Proofs.YtbbmgkbinnomgaaGreatDoor
