/- The document's answer, chapter 11: things as bytes. Printed by gen_re.py. -/
import Derived.Test.YtlfelmikcdmkhaaGreatDoorR2
set_option linter.unusedVariables false
set_option linter.unusedSimpArgs false
set_option linter.unusedSectionVars false
namespace Go.Proofs.YtlfelmikcdmkhaaGreatDoor
open Go Go.Isk Go.RowKit
theorem NewB.then {w0 w w' : World} {r r' : Value} {l l' : Bytes} (h : NewB w0 r w l) (h' : NewB w r' w' l') : NewB w0 r' w' l' := NewB.after h.2.1 h'
theorem NewB.drew {w0 w : World} {r : Value} {l : Bytes} (h : NewB w0 r w l) : NewB w0 r w.drew l := ⟨h.1.ext upd_drew, h.2.1.drew, h.2.2⟩
theorem isthmusref11_validator {w : World} {b : Value} {l : Bytes} {cs : List Value} {v : Validator} (hb : Sl w b l.length 1 (u8s l)) (hv : ValiIs cs v) (hl : l.length + (encValidator v).length + 10 ≤ 2147483648) :
    C Tryz.prog N.isthmusref11_validator #[b, .agg cs.toArray] w fun r w' => NewB w r w' (l ++ encValidator v) := by
  obtain ⟨rfl, hok⟩ := hv
  refine C.isthmusref11_validator ?_
  unfold F.isthmusref11_validator
  refine st_box rfl fun g2 w1 hb1 hu0 hg2 => ?_
  have hu1 : Ext w w1.drew := hu0.drew
  have hb1' : Blk w1.drew g2 _ _ := hb1.ext upd_drew
  have hblk := u8s_len hok.key
  have hbl := hok.key
  simp only [encValidator, encI, encB, List.length_append] at hl
  simp only [encValidator]
  refine mv.mk ?_
  refine dr_by (fun w' => Blk w' g2 T.api_Validator (valiC (str v.name) (u8s v.key) (.int .i64 v.power))) (hb1') ?_
  refine mv.mk ?_
  refine vali.t0 (fun _ h => h) ?_
  refine vali.t1 hblk (fun _ h => h) ?_
  refine vali.t2 hblk (fun _ h => h) ?_
  refine (isthmusref02_Text (hb.ext hu1) (by omega)).mono fun r w2 h2 => ?_
  have h2 := NewO.b h2
  refine ⟨hb1'.ext h2.2.1, ?_⟩
  refine (isthmusref02_Hash h2.1 hok.key (by simp only [encI, encB, List.length_append]; omega)).mono fun r w3 h3 => ?_
  have h3 := NewB.then h2 h3.b
  refine ⟨hb1'.ext h3.2.1, ?_⟩
  refine (isthmusref02_Int h3.1 hok.power (by simp only [encI, encB, List.length_append]; omega)).mono fun r w4 h4 => ?_
  have h4 := NewB.then h3 h4.b
  refine ⟨hb1'.ext h4.2.1, ?_⟩
  refine mv.mk ?_
  have := NewB.after hu1 h4
  simpa only [List.append_assoc] using this
theorem isthmusref11_Set {B : Nat} {w : World} {sv : Value} {vs : List Validator} (hs : ListIs ValiIs B w sv 34 vs) (hl : (encSet vs).length + 10 ≤ 2147483648) (hn : vs.length ≤ 2147483648) :
    C Tryz.prog N.isthmusref11_Set #[sv] w fun r w' => NewB w r w' (encSet vs) := by
  obtain ⟨A, cap, rfl⟩ := hs.len
  refine C.isthmusref11_Set ?_
  unfold F.isthmusref11_Set
  simp only [encSet, encL, List.length_append] at hl
  simp only [encSet, encL]
  have := encU_len10 (n := vs.length) (by omega)
  have := encU_pos vs.length
  repeat (first
    | (refine st1 fun k' hk => ?_; simp [go_sem, thenR_ok, bin]; refine hk _ _ ?_; clear hk k')
    | (refine mv.mk ?_))
  rw [u64_wrap, show ((vs.length : Nat) : Int) % 18446744073709551616 = ((vs.length : Nat) : Int) by omega]
  refine (isthmusref02_Uint (l := []) (Sl.nil 1) (n := vs.length) (by omega) (by simp)).mono fun r w3 h3 => mv.mk (mv.mk ?_)
  have h3 := NewO.b h3
  refine lp_by (fun us w' => ∃ (r : Value) (i : Nat), us = [r, .int .i64 i] ∧ i ≤ vs.length ∧ NewB w r w' (encU vs.length ++ ((vs.take i).map encValidator).flatten)) (fun us _ => match us with | [_, .int _ m] => vs.length - m.toNat | _ => 0) ⟨_, 0, rfl, Nat.zero_le _, by simpa using h3⟩ ?_
  rintro x w6 ⟨r, i, hx, hi, h6⟩
  simp only [List.cons.injEq, and_true] at hx
  rw [hx.1, hx.2]
  repeat (first
    | (refine st1 fun k' hk => ?_; simp [go_sem, thenR_ok, bin]; refine hk _ _ ?_; clear hk k')
    | (refine mv.mk ?_))
  refine br_split (fun hb => ?_) (fun hb => ?_)
  · have hi' : i < vs.length := by simpa using hb
    have hs6 := ValsIs.keep hs h6.2.1 fun _ h => h.elim
    have hfl := encL_take encValidator hi'
    refine mv.mk (mv.mk (mv.mk ?_))
    refine st_idx hs6 tVals i rfl hi' fun g3 o3 y hr hyl hyv hg3 => ?_
    refine st_of (load_agg (by kernel_rfl) hr hyl) ?_
    refine (isthmusref11_validator h6.1 hyv (by simp only [List.length_append]; omega)).mono fun r w8 h8 => ?_
    have h8 := NewB.then h6 h8
    repeat (first
      | (refine st1 fun k' hk => ?_; simp [go_sem, thenR_ok, bin]; refine hk _ _ ?_; clear hk k')
      | (refine mv.mk ?_))
    refine ⟨⟨_, i + 1, by rw [i64_wrap (by omega) (by omega)]; rfl, hi', ?_⟩, ?_⟩
    · rw [flat_take_succ encValidator hi', ← List.append_assoc]; exact h8
    · rw [i64_wrap (by omega) (by omega)]; simp; omega
  · have hi' : i = vs.length := by have : ¬ i < vs.length := by simpa using hb
                                   omega
    subst hi'
    rw [List.take_length] at h6
    exact mv.mk (mv.mk h6)
end Go.Proofs.YtlfelmikcdmkhaaGreatDoor
