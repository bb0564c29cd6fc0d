/- One-time signatures of the document: a chain's steps, the public sum that a signature makes. -/
import Derived.Test.YtbbmgkbinnomgaaGreatDoorQ2
set_option linter.unusedVariables false
set_option linter.unusedSimpArgs false
set_option linter.unusedSectionVars false
namespace Go.Proofs.YtbbmgkbinnomgaaGreatDoor
open Go Go.Isk Go.RowKit
set_option maxRecDepth 20000
section
variable {P : Program} {b : Base} {w : World} {L R : List It} {g : Nat} {v sv dv : Value} {cs : List Value} {l sig d : Bytes} {k : Value → World → Prop}
theorem sp_Uint {n : Nat} (hs : Isk.Sep b w L) (hm : Ins L (byF v l).it) (hn : n < 18446744073709551616) (hl : l.length + 10 ≤ 2147483648) :
    C Tryz.prog N.isthmusref02_Uint #[v, .int .u64 (n : Int)] w fun r w' => Isk.Sep b w' ((byF r (l ++ encU n)).it :: L) :=
  (isthmusref02_Uint (hs.get hm).1 hn hl).mono fun r w' h => newB_sep hs h.b
theorem sp_HashW {h : Bytes} (hs : Isk.Sep b w L) (hm : Ins L (byF v l).it) (hh : h.length = 32) (hl : l.length + 32 ≤ 2147483648) :
    C Tryz.prog N.isthmusref02_Hash #[v, .agg (u8s h).toArray] w fun r w' => Isk.Sep b w' ((byF r (l ++ h)).it :: L) :=
  (isthmusref02_Hash (hs.get hm).1 hh hl).mono fun r w' h => newB_sep hs h.b
theorem isthmusref05_Step {x : Bytes} {leaf chain f to : Nat} (hs : Isk.Sep b w L) (hx : x.length = 32) (hl : leaf < 1024) (hc : chain < 1024) (hf : f ≤ 15) (ht : to < 4294967296) :
    C Tryz.prog N.isthmusref05_Step #[.agg (u8s x).toArray, .int .i64 (leaf : Int), .int .i64 (chain : Int), .int .i64 (f : Int), .int .i64 (to : Int)] w fun r w' => r = .agg (u8s (stepB x leaf chain f to)).toArray ∧ Isk.Sep b w' L := by
  have l1 := encU_two (n := leaf) (by omega)
  have l2 := encU_two (n := chain) (by omega)
  refine C.isthmusref05_Step ?_
  unfold F.isthmusref05_Step
  refine sp_boxa hs fun g5 w hs => ?_
  refine sp_newr hs (by kernel_rfl) fun g10 w hs => ?_
  repeat (first
   | (with_reducible (first | refine mv.mk ?_ | refine gd_u ?_ | refine gd_ft ?_ | refine gd_tf ?_ | refine gd_i ?_ | refine pk_t ?_ | refine pk_f ?_ | refine br_t ?_ | refine br_f ?_ | refine sp_boxa hs fun g w hs => ?_))
   | (with_reducible ((first | apply st_bin | apply st_conv | apply st_max); intro k' hk; simp [go_sem, thenR_ok, bin]; refine hk _ _ ?_; clear hk k'))
   | ((with_reducible apply sp_newr hs); (· kernel_rfl); intro g w hs))
  rw [if_neg (show ¬ (f : Int) < 0 by omega)]
  refine lp_by (fun us w' => ∃ (i : Nat) (y : Value), us = [.int .i64 (i : Int), y] ∧ f ≤ i ∧ (i = f ∨ i ≤ min to 15) ∧ Isk.Sep b w' (blkI g5 T.api_Hash (u8s (stepsB leaf chain f (i - f) x)) :: resI Tryz.prog g10 T.api_Hash :: L)) (fun us _ => match us with | [.int _ i, _] => (15 - i).toNat | _ => 0) ⟨f, undef, rfl, Nat.le_refl _, .inl rfl, by
    rw [Nat.sub_self]
    exact hs.sbl (.cons (.tl .hd) (.cons .hd .all))⟩ ?_
  clear hs w
  rintro x1 w ⟨i, y, hx1, h1, h2, hs⟩
  simp only [List.cons.injEq, and_true] at hx1
  simp only [hx1.1, hx1.2]
  have hlenS : (stepsB leaf chain f (i - f) x).length = 32 := stepsB_len _ _ _ _ _ hx
  have hend : ¬ (i < to ∧ i < 15) → ∀ w, Isk.Sep b w (blkI g5 T.api_Hash (u8s (stepsB leaf chain f (i - f) x)) :: resI Tryz.prog g10 T.api_Hash :: L) →
      o1 Tryz.prog (Instr.loadAt T.api_Hash (.pointer (some ⟨g5, 0, none⟩))) w fun t38 w => o0 Tryz.prog (Instr.storeAt T.api_Hash (.pointer (some ⟨g10, 0, none⟩)) t38) w fun _ w =>
        rc Tryz.prog T.api_Hash (.pointer (some ⟨g10, 0, none⟩)) w fun r => r = .agg (u8s (stepB x leaf chain f to)).toArray ∧ Isk.Sep b w L := by
    intro hn w hs
    refine sp_loadall hs .hd (by kernel_rfl) ((u8s_length _).trans hlenS) ?_
    refine sp_ret (K := fun r w => r = .agg (u8s (stepB x leaf chain f to)).toArray ∧ Isk.Sep b w L) hs (.tl .hd) (by kernel_rfl) ((u8s_length _).trans hlenS) (u8s_one _) fun w hs => ?_
    have e : i - f = min to 15 - f := by omega
    rw [stepB, ← e]
    exact ⟨rfl, hs.drop .hd⟩
  repeat (first
   | (with_reducible (first | refine mv.mk ?_ | refine gd_u ?_ | refine gd_ft ?_ | refine gd_tf ?_ | refine gd_i ?_ | refine pk_t ?_ | refine pk_f ?_ | refine br_t ?_ | refine br_f ?_ | refine sp_boxa hs fun g w hs => ?_))
   | (with_reducible ((first | apply st_bin | apply st_conv | apply st_max); intro k' hk; simp [go_sem, thenR_ok, bin]; refine hk _ _ ?_; clear hk k'))
   | ((with_reducible apply sp_newr hs); (· kernel_rfl); intro g w hs))
  by_cases c1 : i < to
  rotate_left
  · rw [decide_eq_false c1]
    repeat (first
     | (with_reducible (first | refine mv.mk ?_ | refine gd_u ?_ | refine gd_ft ?_ | refine gd_tf ?_ | refine gd_i ?_ | refine pk_t ?_ | refine pk_f ?_ | refine br_t ?_ | refine br_f ?_ | refine sp_boxa hs fun g w hs => ?_))
     | (with_reducible ((first | apply st_bin | apply st_conv | apply st_max); intro k' hk; simp [go_sem, thenR_ok, bin]; refine hk _ _ ?_; clear hk k'))
     | ((with_reducible apply sp_newr hs); (· kernel_rfl); intro g w hs))
    exact hend (fun h => c1 h.1) w hs
  rw [decide_eq_true c1]
  repeat (first
   | (with_reducible (first | refine mv.mk ?_ | refine gd_u ?_ | refine gd_ft ?_ | refine gd_tf ?_ | refine gd_i ?_ | refine pk_t ?_ | refine pk_f ?_ | refine br_t ?_ | refine br_f ?_ | refine sp_boxa hs fun g w hs => ?_))
   | (with_reducible ((first | apply st_bin | apply st_conv | apply st_max); intro k' hk; simp [go_sem, thenR_ok, bin]; refine hk _ _ ?_; clear hk k'))
   | ((with_reducible apply sp_newr hs); (· kernel_rfl); intro g w hs))
  by_cases c2 : i < 15
  rotate_left
  · rw [show decide ((i : Int) < 15) = false by simp; omega]
    repeat (first
     | (with_reducible (first | refine mv.mk ?_ | refine gd_u ?_ | refine gd_ft ?_ | refine gd_tf ?_ | refine gd_i ?_ | refine pk_t ?_ | refine pk_f ?_ | refine br_t ?_ | refine br_f ?_ | refine sp_boxa hs fun g w hs => ?_))
     | (with_reducible ((first | apply st_bin | apply st_conv | apply st_max); intro k' hk; simp [go_sem, thenR_ok, bin]; refine hk _ _ ?_; clear hk k'))
     | ((with_reducible apply sp_newr hs); (· kernel_rfl); intro g w hs))
    exact hend (fun h => c2 h.2) w hs
  rw [show decide ((i : Int) < 15) = true by simp; omega]
  clear hend
  have l3 := encU_two (n := i) (by omega)
  refine br_t ?_
  refine sp_row1 (c := 3) hs fun u w hs => ?_
  replace hs := hs.rowB .hd
  repeat with_reducible refine mv.mk ?_
  refine st_of (n_u w (by kernel_rfl) (by kernel_rfl) (by omega)) ?_
  refine cl (sp_Uint hs .hd (by omega) (by simp)) ?_
  rintro v1 w hs
  repeat with_reducible refine mv.mk ?_
  refine st_of (n_u w (by kernel_rfl) (by kernel_rfl) (by omega)) ?_
  refine cl (sp_Uint hs .hd (by omega) (by simp; omega)) ?_
  rintro v2 w hs
  repeat with_reducible refine mv.mk ?_
  refine st_of (n_u w (by kernel_rfl) (by kernel_rfl) (by omega)) ?_
  refine cl (sp_Uint hs .hd (by omega) (by simp; omega)) ?_
  rintro v3 w hs
  repeat with_reducible refine mv.mk ?_
  refine sp_loadall hs (.tl (.tl (.tl (.tl .hd)))) (by kernel_rfl) ((u8s_length _).trans hlenS) ?_
  refine cl (sp_HashW hs .hd hlenS (by simp; omega)) ?_
  rintro v4 w hs
  refine cl (isthmusref01_Sum hs .hd (by simp [hlenS]; omega)) ?_
  rintro _ w ⟨rfl, hs⟩
  have hmx : shaB (([3] : Bytes) ++ encU leaf ++ encU chain ++ encU i ++ stepsB leaf chain f (i - f) x) = next1 leaf chain i (stepsB leaf chain f (i - f) x) := by rw [next1]; simp
  rw [hmx]
  refine sp_all (ds := u8s (next1 leaf chain i (stepsB leaf chain f (i - f) x))) hs (.tl (.tl (.tl (.tl (.tl .hd))))) (by kernel_rfl) ((u8s_length _).trans hlenS) ((u8s_length _).trans (shaB_len _)) (u8s_one _) fun w hs => ?_
  repeat with_reducible refine mv.mk ?_
  refine sn_add (by omega) ?_
  repeat with_reducible refine mv.mk ?_
  refine ⟨⟨i + 1, _, rfl, by omega, .inr (by omega), ?_⟩, ?_⟩
  · rw [show i + 1 - f = (i - f) + 1 by omega, stepsB_last, show f + (i - f) = i by omega]
    exact hs.sbl (.cons .hd (.drop (.drop (.drop (.drop (.drop .all))))))
  · show (15 - ((i + 1 : Nat) : Int)).toNat < (15 - (i : Int)).toNat
    omega
end
end Go.Proofs.YtbbmgkbinnomgaaGreatDoor
set_option linter.unusedVariables false
set_option linter.unusedSimpArgs false
set_option linter.unusedSectionVars false
namespace Go.Proofs.YtbbmgkbinnomgaaGreatDoor
open Go Go.Isk Go.RowKit
set_option maxRecDepth 20000
section
variable {P : Program} {b : Base} {w : World} {L R : List It} {g : Nat} {v sv dv : Value} {cs : List Value} {l sig d : Bytes} {k : Value → World → Prop}
theorem tk_int {ls : List Nat} {n i x : Nat} {S : World → Prop} {kt : Value → Prop} (hS : ∀ w, S w → Mayr L w) (hr : Rds L v n 1 (ints ls)) (hi : i < n) (hx : ls[i]? = some x) (hk : kt (.int .i64 (x : Int))) :
    tk Tryz.prog S (Instr.indexAt T.sl_int v (.int .i64 (i : Nat))) fun a => tk Tryz.prog S (Instr.loadAt T.int a) kt := by
  by_cases h : ∃ w, S w
  · obtain ⟨w0, h0⟩ := h
    obtain ⟨A, c, rfl, hc, hl, hr'⟩ := (hS w0 h0).reads hr
    obtain ⟨g, o, rfl, _⟩ := hr' (by omega)
    refine tx_sl tInts i rfl hi (tk_of (.int .i64 (x : Int)) (fun w hw => load_one tOneI ?_) hk)
    obtain ⟨A', c', e, _, _, hr2⟩ := (hS w hw).reads hr
    obtain ⟨g', o', e', hr3⟩ := hr2 (by omega)
    subst e'
    simp only [Value.slice.injEq, Option.some.injEq, Addr.mk.injEq] at e
    obtain ⟨⟨rfl, rfl, _⟩, _⟩ := e
    exact hr3 i (.int .i64 (x : Int)) (by simp [ints, hx])
  · exact tk_of undef (fun w hw => (h ⟨w, hw⟩).elim) (tk_of _ (fun w hw => (h ⟨w, hw⟩).elim) hk)
theorem isthmusref05_From {leaf : Int} (hs : Isk.Sep b w L) (hm : Ins L (byF sv sig).it) (hd : Ins L (byF dv d).it) :
    C Tryz.prog N.isthmusref05_From #[sv, .int .i64 leaf, dv] w fun r w' => r = .tuple #[.agg (u8s (fromB sig leaf d).1).toArray, .int .i64 (fromB sig leaf d).2] ∧ Isk.Sep b w' L := by
  obtain ⟨A, c, hv0⟩ := bytesF_slice hs hm
  obtain ⟨A2, c2, hd0⟩ := bytesF_slice hs hd
  have hlen : ∀ w', (Builtin.len_ #[T.sl_uint8] T.int #[sv]).run Tryz.prog w' = .ok (.int .i64 sig.length) w' := fun w' => by rw [hv0]; simp [go_sem]
  have hlen2 : ∀ w', (Builtin.len_ #[T.sl_uint8] T.int #[dv]).run Tryz.prog w' = .ok (.int .i64 d.length) w' := fun w' => by rw [hd0]; simp [go_sem]
  clear hv0 hd0
  have zH : zeroT Tryz.prog T.api_Hash (u8s zero32) := zeroT_of (by kernel_rfl)
  refine C.isthmusref05_From ?_
  unfold F.isthmusref05_From
  refine sp_newr hs (by kernel_rfl) fun g6 w hs => ?_
  repeat with_reducible refine mv.mk ?_
  refine st_of (hlen2 w) ?_
  refine cl (isthmusref05_check (leaf := leaf) (n := (d.length : Int))) ?_
  rintro _ w ⟨rfl, rfl⟩
  by_cases hc : wCheck leaf d.length = 0
  rotate_left
  · rw [decide_eq_false hc]
    repeat (first
     | (with_reducible (first | refine st_lens ?_ | refine st_nels ?_ | refine mv.mk ?_ | refine br_t ?_ | refine br_f ?_))
     | (with_reducible ((first | apply st_bin | apply st_len | apply st_un); intro k' hk; simp [go_sem, thenR_ok, bin]; refine hk _ _ ?_; clear hk k'))
     | ((with_reducible (first | apply tk_bin)); (· intro w; simp [go_sem, bin]; rfl))
     | ((with_reducible apply sp_newr hs); (· kernel_rfl); intro g w hs))
    refine st_build (cells := (u8s (List.replicate 32 0)).toArray) (by kernel_rfl) ?_
    refine sp_setr (ds := u8s (List.replicate 32 0)) hs .hd (by kernel_rfl) (u8s_length _) (u8s_one _) fun w hs => mv.mk (sp_rc hs .hd (by kernel_rfl) (u8s_length _) ?_)
    rw [fromB, if_pos hc]
    exact ⟨rfl, hs.drop .hd⟩
  rw [decide_eq_true hc]
  have hok : 0 ≤ leaf ∧ leaf < 1024 ∧ digOk d.length = true := by
    unfold wCheck at hc
    split at hc
    · assumption
    · cases hc
  obtain ⟨k1, k2, k3⟩ := hok
  have k4 : 1 ≤ d.length ∧ d.length ≤ 32 := by simp [digOk] at k3; omega
  obtain ⟨lf, rfl⟩ := Int.eq_ofNat_of_zero_le k1
  repeat (first
   | (with_reducible (first | refine st_lens ?_ | refine st_nels ?_ | refine mv.mk ?_ | refine br_t ?_ | refine br_f ?_))
   | (with_reducible ((first | apply st_bin | apply st_len | apply st_un); intro k' hk; simp [go_sem, thenR_ok, bin]; refine hk _ _ ?_; clear hk k'))
   | ((with_reducible (first | apply tk_bin)); (· intro w; simp [go_sem, bin]; rfl))
   | ((with_reducible apply sp_newr hs); (· kernel_rfl); intro g w hs))
  refine cl (isthmusref05_Digits hs (.tl hd) k4.1 k4.2) ?_
  rintro ds w hs
  have hDs := hs.reads .row
  obtain ⟨A3, c3, hds0, -⟩ := id hDs
  have hlen3 : ∀ w', (Builtin.len_ #[T.sl_int] T.int #[ds]).run Tryz.prog w' = .ok (.int .i64 ((2 * d.length + 3 : Nat) : Int)) w' := fun w' => by rw [hds0]; simp [go_sem]
  clear hds0 hDs
  replace hs := hs.rowF .hd
  repeat with_reducible refine mv.mk ?_
  refine st_of (hlen w) ?_
  repeat with_reducible refine mv.mk ?_
  refine st_of (hlen3 w) ?_
  refine sn_mul (by omega) ?_
  refine st_of (n_neq _) ?_
  by_cases hl : sig.length = 32 * (2 * d.length + 3)
  rotate_left
  · rw [decide_eq_false (show ¬ (sig.length : Int) = 32 * ((2 * d.length + 3 : Nat) : Int) by omega)]
    refine br_t ?_
    refine st_build (cells := (u8s (List.replicate 32 0)).toArray) (by kernel_rfl) ?_
    refine sp_setr (ds := u8s (List.replicate 32 0)) hs (.tl .hd) (by kernel_rfl) (u8s_length _) (u8s_one _) fun w hs => mv.mk (sp_rc hs .hd (by kernel_rfl) (u8s_length _) ?_)
    rw [fromB, if_neg (by rw [hc]; decide), if_pos hl]
    exact ⟨rfl, (hs.drop .hd).drop .hd⟩
  rw [decide_eq_true (show (sig.length : Int) = 32 * ((2 * d.length + 3 : Nat) : Int) by omega)]
  refine br_f ?_
  repeat with_reducible refine mv.mk ?_
  replace hs := hs.fact (f := byF (.slice none 0 0) []) (SlS.nil 1)
  refine lp_by (fun us w' => ∃ (i : Nat) (v9 : Value), us = [v9, .int .i64 (i : Int)] ∧ i ≤ 2 * d.length + 3 ∧ Isk.Sep b w' ((byF v9 (endsB sig lf (digitsB d) i)).it :: (slF ds (2 * d.length + 3) 1 (ints (digitsB d))).it :: resI Tryz.prog g6 T.api_Hash :: L)) (fun us _ => match us with | [_, .int _ i] => (2 * d.length + 3 - i).toNat | _ => 0) ⟨0, _, rfl, Nat.zero_le _, hs⟩ ?_
  clear hs w
  rintro x1 w ⟨i, v9, hx1, hi, hs⟩
  simp only [List.cons.injEq, and_true] at hx1
  simp only [hx1.1, hx1.2]
  have hel : (endsB sig lf (digitsB d) i).length = 32 * i := endsB_len (by omega)
  repeat with_reducible refine mv.mk ?_
  refine st_of (hlen3 w) ?_
  repeat (first
   | (with_reducible (first | refine st_lens ?_ | refine st_nels ?_ | refine mv.mk ?_ | refine br_t ?_ | refine br_f ?_))
   | (with_reducible ((first | apply st_bin | apply st_len | apply st_un); intro k' hk; simp [go_sem, thenR_ok, bin]; refine hk _ _ ?_; clear hk k'))
   | ((with_reducible (first | apply tk_bin)); (· intro w; simp [go_sem, bin]; rfl))
   | ((with_reducible apply sp_newr hs); (· kernel_rfl); intro g w hs))
  refine br_split (fun hq => ?_) (fun hq => ?_)
  · have hq := of_decide_eq_true hq
    have hin : i < 2 * d.length + 3 := by omega
    have hix : i < (digitsB d).length := by rw [digitsB_len]; exact hin
    have hx15 := digitsB_lt d _ (List.getElem_mem hix)
    refine sp_newr hs (by kernel_rfl) fun g11 w hs => ?_
    replace hs := (hs.zero .hd zH).drew
    refine dr_can (R := []) hs .nil ?_
    have hpl : ((sig.drop (32 * i)).take 32).length = 32 := by rw [List.length_take, List.length_drop]; omega
    refine tk_run (sla_all tHash (by decide)) ?_
    repeat with_reducible refine mv.mk ?_
    refine tn_mul (by omega) ?_
    rw [show (32 : Int) * (i : Int) = ((32 * i : Nat) : Int) by omega]
    have hsv := hs.get (.tl (.tl (.tl (.tl hm))))
    obtain ⟨u, hu, hsl, ho⟩ := sl_from tByt hsv.1 (32 * i) (by omega) .i64
    refine tk_run hu ?_
    have hdl : (sig.drop (32 * i)).length = sig.length - 32 * i := List.length_drop
    have hud : (u8s sig).drop (32 * i * 1) = u8s (sig.drop (32 * i)) := by rw [Nat.mul_one]; simp [u8s]
    replace hs := hs.fact (f := byF u (sig.drop (32 * i))) ⟨by rw [hdl, ← hud]; exact hsl, fun h0 k hk => hsv.2 (by omega) k (ho ▸ hk)⟩
    refine sp_copy hs (.tl .hd) tByt .byt (u8s_one _) (by rw [u8s_length]; decide) fun w hs => ?_
    have e : (u8s (sig.drop (32 * i))).take 32 ++ (u8s zero32).drop (min (sig.drop (32 * i)).length 32) = u8s ((sig.drop (32 * i)).take 32) := by
      have e0 : (u8s zero32).drop 32 = [] := List.drop_of_length_le (by rw [u8s_length]; decide)
      rw [show min (sig.drop (32 * i)).length 32 = 32 by omega, e0, List.append_nil]
      simp [u8s]
    rw [e] at hs
    replace hs := hs.drew
    refine dr_can hs .all ?_
    repeat with_reducible refine mv.mk ?_
    refine tk_ldn hid (by repeat (first | with_reducible exact Rng.blk | with_reducible exact Rng.rng | with_reducible apply Rng.tl)) (by kernel_rfl) ((u8s_length _).trans hpl) ?_
    repeat with_reducible refine mv.mk ?_
    refine tk_int hid (by repeat (first | exact Rds.sl | apply Rds.tl)) hin (List.getElem?_eq_getElem hix) ?_
    refine cl (isthmusref05_Step (to := 15) hs hpl (by omega) (by omega) hx15 (by decide)) ?_
    rintro _ w ⟨rfl, hs⟩
    refine ⟨hs.mayr .all, ?_⟩
    have hvl := stepB_len (leaf := lf) (chain := i) (f := (digitsB d)[i]) (to := 15) hpl
    refine cl (sp_HashW hs (v := v9) (by repeat (first | with_reducible exact Ins.hd | with_reducible apply Ins.tl)) hvl (by omega)) ?_
    rintro v10 w hs
    refine ⟨hs.mayr (.drop .all), ?_⟩
    repeat with_reducible refine mv.mk ?_
    refine sn_add (by omega) ?_
    repeat with_reducible refine mv.mk ?_
    have e : endsB sig lf (digitsB d) i ++ stepB ((sig.drop (32 * i)).take 32) lf i (digitsB d)[i] 15 = endsB sig lf (digitsB d) (i + 1) := by
      rw [endsB_succ, List.getD_eq_getElem?_getD, List.getElem?_eq_getElem hix]
      rfl
    rw [e] at hs
    refine ⟨⟨i + 1, v10, rfl, by omega, hs.sbl (.cons .hd (.drop (.drop (.drop .all))))⟩, ?_⟩
    show (2 * (d.length : Int) + 3 - ((i + 1 : Nat) : Int)).toNat < (2 * (d.length : Int) + 3 - (i : Int)).toNat
    omega
  · have hq := of_decide_eq_false hq
    have hie : i = 2 * d.length + 3 := by omega
    subst hie
    repeat with_reducible refine mv.mk ?_
    refine cl (isthmusref01_Leaf hs .hd (by omega)) ?_
    rintro _ w ⟨rfl, hs⟩
    have ef : fromB sig lf d = (leafB (endsB sig lf (digitsB d) (2 * d.length + 3)), 0) := by
      rw [fromB, if_neg (by rw [hc]; decide), if_neg (by rw [hl]; simp)]
      rfl
    rw [ef]
    refine sp_setr (ds := u8s (leafB (endsB sig lf (digitsB d) (2 * d.length + 3)))) hs (.tl (.tl .hd)) (by kernel_rfl) ((u8s_length _).trans (shaB_len _)) (u8s_one _) fun w hs => mv.mk (sp_rc hs .hd (by kernel_rfl) ((u8s_length _).trans (shaB_len _)) ?_)
    exact ⟨rfl, hs.sbl (.drop (.drop (.drop .all)))⟩
end
end Go.Proofs.YtbbmgkbinnomgaaGreatDoor
