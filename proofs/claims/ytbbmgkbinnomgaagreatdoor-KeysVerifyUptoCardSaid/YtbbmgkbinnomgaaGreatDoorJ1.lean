/- Keys: is a text signed so, in the program. -/
import Derived.Test.YtbbmgkbinnomgaaGreatDoorY2
import Derived.Test.YtbbmgkbinnomgaaGreatDoorL2
import Derived.Test.YtbbmgkbinnomgaaGreatDoorQ5
import Derived.Test.YtbbmgkbinnomgaaGreatDoorM4
set_option linter.unusedVariables false
set_option linter.unusedSimpArgs false
set_option linter.unusedSectionVars false
namespace Go.Proofs.YtbbmgkbinnomgaaGreatDoor
open Go Go.Isk Go.RowKit
set_option maxRecDepth 20000
/-- 0 or the error's number -/
def verifyK (root : Bytes) (dg dp : Int) (text sign : Bytes) : Int :=
  if kCheck dg dp ≠ 0 then kCheck dg dp
  else if (readK sign).2 ≠ 0 then (readK sign).2
  else
    let s := (readK sign).1
    let d := digestB text dg.toNat
    let f := fromB s.chain s.leaf d
    if f.2 ≠ 0 then 21
    else
      let h := foldB f.1 s.leaf (2 ^ dp.toNat) s.path
      if h.2 ≠ 0 ∨ h.1 ≠ root then 21 else 0
section
variable {b : Base} {w : World} {L R : List It} {g : Nat} {v sv tv : Value} {cs : List Value} {l text sign root : Bytes}
theorem fromB_len {leaf : Int} {d : Bytes} : (fromB sign leaf d).1.length = 32 := by
  unfold fromB
  split
  · exact List.length_replicate
  · split
    · exact List.length_replicate
    · exact shaB_len _
theorem readK_small : (readK sign).1.leaf ≤ 1023 ∧ (readK sign).1.path.length ≤ 10 := by
  unfold readK
  split
  · refine ⟨rU_most (most := 1023), ?_⟩
    show (gList rH _ _).2.length ≤ 10
    rw [gList_len]
    exact rU_most (most := 10)
  · exact ⟨by decide, by decide⟩
theorem foldB_len {i n : Nat} {path : List Bytes} (h : l.length = 32) : (foldB l i n path).1.length = 32 := by
  unfold foldB
  split
  · exact List.length_replicate
  · split
    · exact List.length_replicate
    · exact foldK_len h _
theorem i_shl (w : World) {x1 x2 : Operand} {i : Int} (h : 0 ≤ i ∧ i ≤ 10) : (bin .shl T.int x1 x2 (.int .i64 1) (.int .i64 i)).run Tryz.prog w = .ok (.int .i64 ((2 ^ i.toNat : Nat) : Int)) w := by
  have : i = 0 ∨ i = 1 ∨ i = 2 ∨ i = 3 ∨ i = 4 ∨ i = 5 ∨ i = 6 ∨ i = 7 ∨ i = 8 ∨ i = 9 ∨ i = 10 := by omega
  rcases this with rfl | rfl | rfl | rfl | rfl | rfl | rfl | rfl | rfl | rfl | rfl <;> (simp [go_sem, bin, IntKind.bits]; try decide)
theorem keys_Verify {dg dp : Int} (hs : Isk.Sep b w L) (hR : Ins L rndF.it) (ht : Ins L (byF tv text).it) (hm : Ins L (byF sv sign).it) (hl : sign.length ≤ 2147483648) (hl2 : text.length < 140737488354000) (hr : root.length = 32) :
    C Tryz.prog N.keys_Verify #[.agg (u8s root).toArray, .agg #[.int .i64 dg, .int .i64 dp], tv, sv] w fun r w' => Isk.Sep b w' ((errF r (verifyK root dg dp text sign)).it :: L) := by
  refine C.keys_Verify ?_
  unfold F.keys_Verify
  refine sp_boxa hs fun g4 w hs => ?_
  refine sp_box (cs := [.int .i64 dg, .int .i64 dp]) hs rfl fun g5 w hs => ?_
  repeat with_reducible refine mv.mk ?_
  refine sp_loadall hs .hd (by kernel_rfl) rfl ?_
  refine cl (keys_Check hs) ?_
  rintro e w hs
  repeat with_reducible refine mv.mk ?_
  refine st_of (err_neq hs .hd) ?_
  by_cases hc : kCheck dg dp = 0
  · rw [hc]
    refine br_f ?_
    repeat with_reducible refine mv.mk ?_
    refine cl (keys_read hs (.tl (.tl (.tl hm))) hl) ?_
    rintro _ w ⟨cv, pv, e2, rfl, hs⟩
    obtain ⟨A, c, hcv⟩ := bytesF_slice hs .hd
    obtain ⟨A2, c2, hpv⟩ := hs.lst_len (Ins.tl (Ins.hd)).lst
    have hone : ∀ u ∈ [Value.int .i64 ((readK sign).1.leaf : Int), cv, pv], u.oneCell' = true := by
      intro u hu
      simp only [List.mem_cons, List.not_mem_nil, or_false] at hu
      rcases hu with rfl | rfl | rfl
      · rfl
      · rw [hcv]; rfl
      · rw [hpv]; rfl
    repeat with_reducible refine mv.mk ?_
    refine st_of (v := .agg #[.int .i64 ((readK sign).1.leaf : Int), cv, pv]) (w' := w) (by simp [go_sem]) ?_
    refine st_of (v := e2) (w' := w) (by simp [go_sem]) ?_
    refine sp_newr hs (by kernel_rfl) fun g10 w hs => ?_
    refine sp_setr (ds := [.int .i64 ((readK sign).1.leaf : Int), cv, pv]) hs .hd (by kernel_rfl) rfl hone fun w hs => ?_
    repeat with_reducible refine mv.mk ?_
    refine st_of (err_neq hs (.tl (.tl (.tl .hd)))) ?_
    by_cases hc2 : (readK sign).2 = 0
    · rw [decide_eq_true hc2]
      refine br_f ?_
      repeat with_reducible refine mv.mk ?_
      have hk : 1 ≤ dg ∧ dg ≤ 32 ∧ 0 ≤ dp ∧ dp ≤ 10 := by
        unfold kCheck at hc
        split at hc
        · cases hc
        · omega
      have hdg : digOk dg = true := by simp [digOk]; omega
      refine st_of (fieldAt_run (off := 0) (by kernel_rfl) _ _ _) ?_
      refine sp_load1 (p := 0) hs (.tl (.tl (.tl (.tl (.tl .hd))))) (by kernel_rfl) rfl ?_
      refine cl (wots_Digest (n := dg) hs (.tl (.tl (.tl (.tl (.tl (.tl (.tl hR))))))) (.tl (.tl (.tl (.tl (.tl (.tl (.tl ht))))))) hl2) ?_
      rintro _ w ⟨dv, e3, rfl, hs⟩
      rw [if_pos hdg, if_pos hdg] at hs
      repeat with_reducible refine mv.mk ?_
      refine st_of (v := dv) (w' := w) (by simp [go_sem]) ?_
      refine st_of (v := e3) (w' := w) (by simp [go_sem]) ?_
      repeat with_reducible refine mv.mk ?_
      refine st_of (err_neq hs (.tl .hd)) ?_
      refine br_f ?_
      repeat with_reducible refine mv.mk ?_
      refine st_of (fieldAt_run (off := 1) (by kernel_rfl) _ _ _) ?_
      refine sp_load1 (p := 1) hs (.tl (.tl .hd)) (by kernel_rfl) rfl ?_
      refine st_of (fieldAt_run (off := 0) (by kernel_rfl) _ _ _) ?_
      refine sp_load1 (p := 0) hs (.tl (.tl .hd)) (by kernel_rfl) rfl ?_
      repeat with_reducible refine mv.mk ?_
      refine cl (wots_From hs (.tl (.tl (.tl (.tl (.tl (.tl (.tl (.tl (.tl hR))))))))) (.tl (.tl (.tl .hd))) .hd) ?_
      rintro _ w ⟨e4, rfl, hs⟩
      have hfl := fromB_len (sign := (readK sign).1.chain) (leaf := (readK sign).1.leaf) (d := digestB text dg.toNat)
      generalize hf : fromB (readK sign).1.chain (readK sign).1.leaf (digestB text dg.toNat) = f at hs hfl ⊢
      repeat with_reducible refine mv.mk ?_
      refine st_of (v := .agg (u8s f.1).toArray) (w' := w) (by simp [go_sem]) ?_
      refine st_of (v := e4) (w' := w) (by simp [go_sem]) ?_
      refine sp_newr hs (by kernel_rfl) fun g13 w hs => ?_
      refine sp_setr (ds := u8s f.1) hs .hd (by kernel_rfl) ((u8s_length _).trans hfl) (u8s_one _) fun w hs => ?_
      repeat with_reducible refine mv.mk ?_
      refine st_of (err_neq hs (.tl .hd)) ?_
      by_cases hf2 : f.2 = 0
      · rw [decide_eq_true hf2]
        refine br_f ?_
        refine dr_can (R := [blkI g13 T.api_Hash (u8s f.1), blkI g10 T.keys_signature [.int .i64 ((readK sign).1.leaf : Int), cv, pv], blkI g5 T.api_Params [.int .i64 dg, .int .i64 dp]]) hs.drew (.cons .hd (.cons (.tl (.tl (.tl .hd))) (.cons (.tl (.tl (.tl (.tl (.tl (.tl (.tl .hd))))))) .nil))) ?_
        refine tk_ldn hid (by repeat (first | with_reducible exact Rng.blk | with_reducible exact Rng.rng | with_reducible apply Rng.tl)) (by kernel_rfl) ((u8s_length _).trans hfl) ?_
        refine tk_of _ (fun w _ => fieldAt_run (off := 0) (by kernel_rfl) _ _ _) ?_
        refine tx_ld (o := 0) (p := 0) hid (by repeat (first | with_reducible exact Rng.blk | with_reducible exact Rng.rng | with_reducible apply Rng.tl)) (by kernel_rfl) rfl ?_
        refine tk_of _ (fun w _ => fieldAt_run (off := 1) (by kernel_rfl) _ _ _) ?_
        refine tx_ld (o := 0) (p := 1) hid (by repeat (first | with_reducible exact Rng.blk | with_reducible exact Rng.rng | with_reducible apply Rng.tl)) (by kernel_rfl) rfl ?_
        refine tk_run (fun w => i_shl w ⟨hk.2.2.1, hk.2.2.2⟩) ?_
        refine tk_of _ (fun w _ => fieldAt_run (off := 2) (by kernel_rfl) _ _ _) ?_
        refine tx_ld (o := 0) (p := 2) hid (by repeat (first | with_reducible exact Rng.blk | with_reducible exact Rng.rng | with_reducible apply Rng.tl)) (by kernel_rfl) rfl ?_
        have hsm := readK_small (sign := sign)
        have hpw : 2 ^ dp.toNat ≤ 2 ^ 10 := Nat.pow_le_pow_right (by decide) (by omega)
        refine cl (sha_Fold (sv := pv) (path := (readK sign).1.path) hs.drew (.tl (.tl (.tl (.tl (.tl (.tl (.tl (.tl (.tl (.tl (.tl hR))))))))))) (.tl (.tl (.tl (.tl (.tl (.tl .hd)))))) hfl (by omega) (by omega) (by omega)) ?_
        rintro _ w ⟨e5, rfl, hs⟩
        have hfo := foldB_len (l := f.1) (i := (readK sign).1.leaf) (n := 2 ^ dp.toNat) (path := (readK sign).1.path) hfl
        refine ⟨hs.mayr (.drop (.cons .hd (.cons (.tl (.tl (.tl .hd))) (.cons (.tl (.tl (.tl (.tl (.tl (.tl (.tl .hd))))))) .nil)))), ?_⟩
        generalize hF : foldB f.1 (readK sign).1.leaf (2 ^ dp.toNat) (readK sign).1.path = q at hs hfo ⊢
        repeat with_reducible refine mv.mk ?_
        refine tk_run (v := .agg (u8s q.1).toArray) (fun w => by simp [go_sem]) ?_
        refine tk_run (v := e5) (fun w => by simp [go_sem]) ?_
        refine sp_all hs (.tl .hd) (by kernel_rfl) ((u8s_length _).trans hfl) ((u8s_length _).trans hfo) (u8s_one _) fun w hs => ?_
        repeat with_reducible refine mv.mk ?_
        refine st_of (err_neq hs (.tl .hd)) ?_
        repeat with_reducible refine mv.mk ?_
        have ev : verifyK root dg dp text sign = if q.2 ≠ 0 ∨ q.1 ≠ root then 21 else 0 := by
          unfold verifyK
          rw [if_neg (by simpa using hc), if_neg (by simpa using hc2)]
          simp only [hf]
          rw [if_neg (by simpa using hf2)]
          simp only [hF]
        have hbad : ∀ {K : Value → World → Prop}, (q.2 ≠ 0 ∨ q.1 ≠ root) → (∀ r w', Isk.Sep b w' ((errF r (verifyK root dg dp text sign)).it :: L) → K r w') →
            C Tryz.prog N.keys_fault #[.string ⟨#[114, 111, 111, 116]⟩, .iface EN (.int .i64 21)] w K := by
          intro K hb hK
          rw [ev, if_pos hb] at hK
          refine cl (keys_fault (by decide) (by decide) (by decide) hs) ?_
          rintro r w hs
          exact hK r w (hs.sbl (.cons .hd (.drop (.drop (.drop (.drop (.drop (.drop (.drop (.drop (.drop (.drop (.drop (.drop .all))))))))))))))
        by_cases hF2 : q.2 = 0
        · rw [decide_eq_true hF2]
          refine gd_i ?_
          refine sp_ldn hs (by repeat (first | with_reducible exact Rng.blk | with_reducible exact Rng.rng | with_reducible apply Rng.tl)) (by kernel_rfl) ((u8s_length _).trans hfo) ?_
          refine gd_i ?_
          refine sp_ldn hs (by repeat (first | with_reducible exact Rng.blk | with_reducible exact Rng.rng | with_reducible apply Rng.tl)) (by kernel_rfl) ((u8s_length _).trans hr) ?_
          refine gd_i ?_
          refine st_of (hash_ne hfo hr _ _ _) ?_
          refine pk_f ?_
          refine br_split (fun hq => ?_) (fun hq => ?_)
          · refine st1 fun k' hk => ?_; simp [go_sem, thenR_ok, bin]; refine hk _ _ ?_; clear hk k'
            refine hbad (.inr (by simpa using hq)) fun r w' hs => ?_
            repeat with_reducible refine mv.mk ?_
            exact hs
          · repeat with_reducible refine mv.mk ?_
            have hq' : q.1 = root := by simpa using hq
            rw [ev, if_neg (by simp [hF2, hq'])]
            exact (errF_nil hs).sbl (.cons .hd (.drop (.drop (.drop (.drop (.drop (.drop (.drop (.drop (.drop (.drop (.drop (.drop .all)))))))))))))
        · rw [decide_eq_false hF2]
          refine gd_o ?_
          refine gd_o ?_
          refine gd_o ?_
          refine pk_t ?_
          refine br_t ?_
          refine st1 fun k' hk => ?_; simp [go_sem, thenR_ok, bin]; refine hk _ _ ?_; clear hk k'
          refine hbad (.inl hF2) fun r w' hs => ?_
          repeat with_reducible refine mv.mk ?_
          exact hs
      · rw [decide_eq_false hf2]
        refine br_t ?_
        refine st1 fun k' hk => ?_; simp [go_sem, thenR_ok, bin]; refine hk _ _ ?_; clear hk k'
        refine cl (keys_fault (by decide) (by decide) (by decide) hs) ?_
        rintro r w hs
        repeat with_reducible refine mv.mk ?_
        have ev : verifyK root dg dp text sign = 21 := by
          unfold verifyK
          rw [if_neg (by simpa using hc), if_neg (by simpa using hc2)]
          simp only [hf]
          rw [if_pos hf2]
        rw [ev]
        exact hs.sbl (.cons .hd (.drop (.drop (.drop (.drop (.drop (.drop (.drop (.drop (.drop (.drop (.drop .all))))))))))))
    · rw [decide_eq_false hc2]
      refine br_t ?_
      repeat with_reducible refine mv.mk ?_
      rw [verifyK, if_neg (by simpa using hc), if_pos hc2]
      exact hs.sbl (.cons (.tl (.tl (.tl .hd))) (.drop (.drop (.drop (.drop (.drop (.drop .all)))))))
  · rw [show decide (kCheck dg dp = 0) = false from decide_eq_false hc]
    refine br_t ?_
    repeat with_reducible refine mv.mk ?_
    rw [verifyK, if_pos hc]
    exact hs.sbl (.cons .hd (.drop (.drop .all)))
end
end Go.Proofs.YtbbmgkbinnomgaaGreatDoor
set_option linter.unusedVariables false
set_option linter.unusedSimpArgs false
set_option linter.unusedSectionVars false
namespace Go.Proofs.YtbbmgkbinnomgaaGreatDoor
open Go Go.Isk Go.RowKit
def firstB (seed : Bytes) (leaf chain : Nat) : Bytes := shaB (2 :: (seed ++ (encU leaf ++ encU chain)))
def chainV (seed : Bytes) (leaf c p : Nat) : Bytes := stepB (firstB seed leaf c) leaf c 0 p
def chainsB (seed : Bytes) (leaf : Nat) (ps : List Nat) (i : Nat) : Bytes := (List.range i).flatMap fun c => chainV seed leaf c (ps.getD c 0)
def signW (seed : Bytes) (leaf : Nat) (d : Bytes) : Bytes := chainsB seed leaf (digitsB d) (2 * d.length + 3)
def publicB (seed : Bytes) (leaf n : Nat) : Bytes := leafB (chainsB seed leaf (List.replicate (2 * n + 3) 15) (2 * n + 3))
theorem chainV_len (seed : Bytes) (leaf c p : Nat) : (chainV seed leaf c p).length = 32 := stepB_len (shaB_len _)
theorem chainsB_succ (seed : Bytes) (leaf : Nat) (ps : List Nat) (i : Nat) : chainsB seed leaf ps (i + 1) = chainsB seed leaf ps i ++ chainV seed leaf i (ps.getD i 0) := by
  simp [chainsB, List.range_succ]
theorem chainsB_len {seed : Bytes} {leaf : Nat} {ps : List Nat} : ∀ {i : Nat}, (chainsB seed leaf ps i).length = 32 * i
  | 0 => rfl
  | i + 1 => by
    rw [chainsB_succ, List.length_append, chainsB_len (i := i), chainV_len]
    omega
theorem chainsB_at {seed : Bytes} {leaf : Nat} {ps : List Nat} {c : Nat} : ∀ {n : Nat}, c < n → ((chainsB seed leaf ps n).drop (32 * c)).take 32 = chainV seed leaf c (ps.getD c 0)
  | 0, h => by omega
  | n + 1, h => by
    have hn := chainsB_len (seed := seed) (leaf := leaf) (ps := ps) (i := n)
    have hv := chainV_len seed leaf n (ps.getD n 0)
    rw [chainsB_succ]
    rcases Nat.lt_or_ge c n with hc | hc
    · rw [List.drop_append_of_le_length (by omega), List.take_append_of_le_length (by rw [List.length_drop]; omega), chainsB_at hc]
    · obtain rfl : c = n := by omega
      rw [List.drop_append, hn, List.drop_of_length_le (by omega), List.nil_append, Nat.sub_self, List.drop_zero, List.take_of_length_le (by omega)]
theorem stepsB_add (leaf chain : Nat) : ∀ (j p k : Nat) (v : Bytes), stepsB leaf chain (p + j) k (stepsB leaf chain p j v) = stepsB leaf chain p (j + k) v
  | 0, p, k, v => by rw [stepsB, Nat.add_zero, Nat.zero_add]
  | j + 1, p, k, v => by
    rw [show j + 1 + k = (j + k) + 1 by omega, stepsB, stepsB, show p + (j + 1) = p + 1 + j by omega, stepsB_add leaf chain j (p + 1) k]
theorem stepB_join {v : Bytes} {leaf c p : Nat} (hp : p ≤ 15) : stepB (stepB v leaf c 0 p) leaf c p 15 = stepB v leaf c 0 15 := by
  unfold stepB
  have h := stepsB_add leaf c p 0 (15 - p) v
  rw [Nat.zero_add, show p + (15 - p) = 15 by omega] at h
  rw [show min p 15 - 0 = p by omega, show min 15 15 - p = 15 - p by omega, show min 15 15 - 0 = 15 by omega]
  exact h
theorem getD_rep {n c : Nat} (h : c < n) : (List.replicate n 15).getD c 0 = 15 := by
  rw [List.getD_eq_getElem?_getD, List.getElem?_replicate, if_pos h]
  rfl
theorem ends_sign {seed : Bytes} {leaf : Nat} {ps : List Nat} {n : Nat} (hps : ∀ x ∈ ps, x ≤ 15) : ∀ {i : Nat}, i ≤ n → endsB (chainsB seed leaf ps n) leaf ps i = chainsB seed leaf (List.replicate n 15) i
  | 0, _ => rfl
  | i + 1, h => by
    have hp : ps.getD i 0 ≤ 15 := by
      rw [List.getD_eq_getElem?_getD]
      cases hx : ps[i]? with
      | none => exact Nat.zero_le _
      | some y => exact hps y (List.mem_of_getElem? hx)
    rw [endsB_succ, chainsB_succ, ends_sign hps (by omega), chainsB_at (by omega), getD_rep (by omega)]
    unfold chainV
    rw [stepB_join hp]
theorem from_sign {seed d : Bytes} {leaf : Nat} (h1 : 1 ≤ d.length) (h2 : d.length ≤ 32) (hl : leaf < 1024) : fromB (signW seed leaf d) (leaf : Int) d = (publicB seed leaf d.length, 0) := by
  have hc : wCheck (leaf : Int) d.length = 0 := by
    unfold wCheck digOk
    rw [if_pos ⟨by omega, by omega, by simp; omega⟩]
  unfold fromB
  rw [hc, if_neg (by simp), if_neg (by rw [signW, chainsB_len]; simp)]
  unfold signW publicB
  rw [Int.toNat_natCast, ends_sign (digitsB_lt d) (Nat.le_refl _)]
/-! ### trees -/
theorem getD_last {P : List Bytes} {x : Bytes} : (P ++ [x]).getD P.length [] = x := by
  rw [List.getD_eq_getElem?_getD, List.getElem?_append_right (Nat.le_refl _), Nat.sub_self]
  rfl
def pathN : Nat → List Bytes → Nat → List Bytes
  | 0, _, _ => []
  | f + 1, l, i => if 1 < l.length then (if halfN l.length ≤ i then pathN f (l.drop (halfN l.length)) (i - halfN l.length) ++ [rootB (l.take (halfN l.length))] else pathN f (l.take (halfN l.length)) i ++ [rootB (l.drop (halfN l.length))]) else []
def pathB (l : List Bytes) (i : Nat) : List Bytes := pathN l.length l i
theorem rootB_one {l : List Bytes} (h : l.length = 1) : rootB l = l.getD 0 [] := by
  rw [rootB, dif_neg (by omega), dif_pos h]
theorem rootB_many {l : List Bytes} (h : 1 < l.length) : rootB l = nodeB (rootB (l.take (halfN l.length))) (rootB (l.drop (halfN l.length))) := by
  rw [rootB, dif_neg (by omega), dif_neg (by omega)]
theorem halfN_two {n : Nat} (h : 2 ≤ n) : n ≤ 2 * halfN n := by
  have := Nat.lt_log2_self (n := n - 1)
  unfold halfN
  rw [Nat.pow_succ] at this
  omega
theorem fold_path : ∀ (f : Nat) {l : List Bytes} {i : Nat}, l.length ≤ f → i < l.length → (turnsB i l.length).length = (pathN f l i).length ∧ foldK (l.getD i []) (turnsB i l.length) (pathN f l i) (pathN f l i).length = rootB l
  | 0, l, i, h, hi => by omega
  | f + 1, l, i, h, hi => by
    by_cases h1 : 1 < l.length
    · have hlt := halfN_lt (n := l.length) (by omega)
      have hp := halfN_pos l.length
      rw [turnsB_step h1 hi, pathN, if_pos h1, rootB_many h1]
      have ht : (l.take (halfN l.length)).length = halfN l.length := by rw [List.length_take]; omega
      have hd : (l.drop (halfN l.length)).length = l.length - halfN l.length := List.length_drop
      by_cases hc : halfN l.length ≤ i
      · obtain ⟨e1, e2⟩ := fold_path f (l := l.drop (halfN l.length)) (i := i - halfN l.length) (by omega) (by omega)
        rw [hd] at e1 e2
        rw [if_pos hc, if_pos hc, decide_eq_true hc]
        have hg : (l.drop (halfN l.length)).getD (i - halfN l.length) [] = l.getD i [] := by
          rw [List.getD_eq_getElem?_getD, List.getD_eq_getElem?_getD, List.getElem?_drop, show halfN l.length + (i - halfN l.length) = i by omega]
        rw [hg] at e2
        refine ⟨by simp [e1], ?_⟩
        rw [foldK_step (by simp [e1]), if_pos rfl, e1, List.take_left', getD_last]
        · rw [e2]
        · rfl
      · obtain ⟨e1, e2⟩ := fold_path f (l := l.take (halfN l.length)) (i := i) (by omega) (by omega)
        rw [ht] at e1 e2
        rw [if_neg hc, if_neg hc, decide_eq_false hc]
        have hg : (l.take (halfN l.length)).getD i [] = l.getD i [] := by
          rw [List.getD_eq_getElem?_getD, List.getD_eq_getElem?_getD, List.getElem?_take, if_pos (by omega)]
        rw [hg] at e2
        refine ⟨by simp [e1], ?_⟩
        rw [foldK_step (by simp [e1]), if_neg (by decide), e1, List.take_left', getD_last]
        · rw [e2]
        · rfl
    · have h2 : l.length = 1 := by omega
      obtain rfl : i = 0 := by omega
      rw [pathN, if_neg h1, h2, turnsB_one, rootB_one h2]
      exact ⟨rfl, rfl⟩
theorem foldB_path {l : List Bytes} {i : Nat} (hi : i < l.length) : foldB (l.getD i []) i l.length (pathB l i) = (rootB l, 0) := by
  obtain ⟨e1, e2⟩ := fold_path l.length (Nat.le_refl _) hi
  unfold foldB pathB
  rw [if_neg (by omega), if_neg (by simp [e1]), e2]
theorem pathN_fuel : ∀ {f g : Nat} {l : List Bytes} {i : Nat}, l.length ≤ f → l.length ≤ g → i < l.length → pathN f l i = pathN g l i
  | 0, g, l, i, hf, hg, hi => by omega
  | f + 1, 0, l, i, hf, hg, hi => by omega
  | f + 1, g + 1, l, i, hf, hg, hi => by
    rw [pathN, pathN]
    by_cases h : 1 < l.length
    · rw [if_pos h, if_pos h]
      have hp := halfN_pos l.length
      have hlt := halfN_lt (n := l.length) (by omega)
      have ht : (l.take (halfN l.length)).length = halfN l.length := by rw [List.length_take]; omega
      have hd : (l.drop (halfN l.length)).length = l.length - halfN l.length := List.length_drop
      by_cases hc : halfN l.length ≤ i
      · rw [if_pos hc, if_pos hc, pathN_fuel (f := f) (g := g) (by omega) (by omega) (by omega)]
      · rw [if_neg hc, if_neg hc, pathN_fuel (f := f) (g := g) (by omega) (by omega) (by omega)]
    · rw [if_neg h, if_neg h]
theorem pathB_one {l : List Bytes} {i : Nat} (h : l.length = 1) : pathB l i = [] := by
  rw [pathB, h, pathN, if_neg (by omega)]
theorem pathB_step {l : List Bytes} {i : Nat} (h : 1 < l.length) (hi : i < l.length) : pathB l i = if halfN l.length ≤ i then pathB (l.drop (halfN l.length)) (i - halfN l.length) ++ [rootB (l.take (halfN l.length))] else pathB (l.take (halfN l.length)) i ++ [rootB (l.drop (halfN l.length))] := by
  have hp := halfN_pos l.length
  have hlt := halfN_lt (n := l.length) (by omega)
  have ht : (l.take (halfN l.length)).length = halfN l.length := by rw [List.length_take]; omega
  have hd : (l.drop (halfN l.length)).length = l.length - halfN l.length := List.length_drop
  obtain ⟨f, hf⟩ : ∃ f, l.length = f + 1 := ⟨l.length - 1, by omega⟩
  have e : pathB l i = pathN (f + 1) l i := by rw [pathB, hf]
  rw [e, pathN, if_pos h]
  by_cases hc : halfN l.length ≤ i
  · rw [if_pos hc, if_pos hc, pathB, pathN_fuel (f := f) (g := (l.drop (halfN l.length)).length) (by omega) (by omega) (by omega)]
  · rw [if_neg hc, if_neg hc, pathB, pathN_fuel (f := f) (g := (l.take (halfN l.length)).length) (by omega) (by omega) (by omega)]
theorem pathN_len : ∀ (d f : Nat) {l : List Bytes} {i : Nat}, l.length ≤ 2 ^ d → (pathN f l i).length ≤ d
  | d, 0, l, i, h => by rw [pathN]; exact Nat.zero_le _
  | 0, f + 1, l, i, h => by
    rw [pathN, if_neg (by simpa using h)]
    exact Nat.zero_le _
  | d + 1, f + 1, l, i, h => by
    rw [pathN]
    by_cases h1 : 1 < l.length
    · rw [if_pos h1]
      have h2 := halfN_two (n := l.length) (by omega)
      have hlt := halfN_lt (n := l.length) (by omega)
      have hh : halfN l.length ≤ 2 ^ d := by
        unfold halfN
        refine Nat.pow_le_pow_right (by decide) ?_
        have h3 : Nat.log2 (l.length - 1) < d + 1 := (Nat.log2_lt (by omega)).2 (by omega)
        omega
      have ht : (l.take (halfN l.length)).length = halfN l.length := by rw [List.length_take]; omega
      have hd : (l.drop (halfN l.length)).length = l.length - halfN l.length := List.length_drop
      split
      · have := pathN_len d f (l := l.drop (halfN l.length)) (i := i - halfN l.length) (by omega)
        rw [List.length_append]
        simpa using this
      · have := pathN_len d f (l := l.take (halfN l.length)) (i := i) (by omega)
        rw [List.length_append]
        simpa using this
    · rw [if_neg h1]
      exact Nat.zero_le _
theorem pathN_32 : ∀ (f : Nat) {l : List Bytes} {i : Nat}, (∀ x ∈ l, x.length = 32) → ∀ x ∈ pathN f l i, x.length = 32
  | 0, l, i, h, x, hx => by rw [pathN] at hx; cases hx
  | f + 1, l, i, h, x, hx => by
    rw [pathN] at hx
    split at hx
    · split at hx
      · rcases List.mem_append.1 hx with hx | hx
        · exact pathN_32 f (fun y hy => h y (List.mem_of_mem_drop hy)) x hx
        · rw [List.mem_singleton.1 hx]
          exact rootB_len _ rfl fun y hy => h y (List.mem_of_mem_take hy)
      · rcases List.mem_append.1 hx with hx | hx
        · exact pathN_32 f (fun y hy => h y (List.mem_of_mem_take hy)) x hx
        · rw [List.mem_singleton.1 hx]
          exact rootB_len _ rfl fun y hy => h y (List.mem_of_mem_drop hy)
    · cases hx
/-! ### a signature as bytes -/
def sigB (leaf : Nat) (chain : Bytes) (path : List Bytes) : Bytes := encU leaf ++ (encB chain ++ (encU path.length ++ path.flatten))
theorem readK_sig {leaf : Nat} {chain : Bytes} {path : List Bytes} (hl : leaf ≤ 1023) (hc : chain.length ≤ 4096) (hp : path.length ≤ 10) (h32 : ∀ x ∈ path, x.length = 32) : readK (sigB leaf chain path) = (⟨leaf, chain, path⟩, 0) := by
  have e1 : rU 1023 (some (sigB leaf chain path)) = (some (encB chain ++ (encU path.length ++ path.flatten)), leaf) := rU_enc (by omega) hl _
  have e2 : rB 4096 (some (encB chain ++ (encU path.length ++ path.flatten))) = (some (encU path.length ++ path.flatten), chain) := rB_enc hc (by omega) _
  have e3 : rU 10 (some (encU path.length ++ path.flatten)) = (some path.flatten, path.length) := rU_enc (by omega) hp _
  have e4 : gList rH path.length (some path.flatten) = (some [], path) := by
    have := gList_enc (g := rH) (f := id) (l := path) (fun x hx r => rH_enc (h32 x hx) r) [] path.length (Nat.le_refl _)
    simpa using this
  unfold readK
  have eg : gSign (some (sigB leaf chain path)) = (some [], ⟨leaf, chain, path⟩) := by
    unfold gSign
    rw [e1]
    dsimp only
    rw [e2]
    dsimp only
    rw [e3]
    dsimp only
    rw [e4]
  rw [eg, if_pos rfl]
def leavesB (seed : Bytes) (n k : Nat) : List Bytes := (List.range k).map fun i => publicB seed i n
theorem leavesB_len (seed : Bytes) (n k : Nat) : (leavesB seed n k).length = k := by simp [leavesB]
theorem leavesB_32 (seed : Bytes) (n k : Nat) : ∀ x ∈ leavesB seed n k, x.length = 32 := fun x hx => by
  obtain ⟨i, _, rfl⟩ := List.mem_map.1 hx
  exact shaB_len _
theorem leavesB_at {seed : Bytes} {n k i : Nat} (h : i < k) : (leavesB seed n k).getD i [] = publicB seed i n := by
  rw [List.getD_eq_getElem?_getD, List.getElem?_eq_getElem (by rw [leavesB_len]; exact h)]
  simp [leavesB]
def rootK (seed : Bytes) (dg dp : Int) : Bytes := rootB (leavesB seed dg.toNat (2 ^ dp.toNat))
def signK (seed : Bytes) (dg dp : Int) (leaf : Nat) (text : Bytes) : Bytes := sigB leaf (signW seed leaf (digestB text dg.toNat)) (pathB (leavesB seed dg.toNat (2 ^ dp.toNat)) leaf)
theorem kCheck_ok {dg dp : Int} (h : kCheck dg dp = 0) : 1 ≤ dg ∧ dg ≤ 32 ∧ 0 ≤ dp ∧ dp ≤ 10 := by
  unfold kCheck at h
  split at h
  · cases h
  · omega
theorem pow_small {dp : Int} (h0 : 0 ≤ dp) (h1 : dp ≤ 10) : 2 ^ dp.toNat ≤ 1024 := by
  have : 2 ^ dp.toNat ≤ 2 ^ 10 := Nat.pow_le_pow_right (by decide) (by omega)
  simpa using this
theorem digestB_len {text : Bytes} {n : Nat} (h : n ≤ 32) : (digestB text n).length = n := by
  rw [digestB, List.length_take, shaB_len]
  omega
theorem readK_sign {seed text : Bytes} {dg dp : Int} {leaf : Nat} (h : kCheck dg dp = 0) (hl : leaf < 2 ^ dp.toNat) :
    readK (signK seed dg dp leaf text) = (⟨leaf, signW seed leaf (digestB text dg.toNat), pathB (leavesB seed dg.toNat (2 ^ dp.toNat)) leaf⟩, 0) := by
  obtain ⟨h1, h2, h3, h4⟩ := kCheck_ok h
  have hp := pow_small h3 h4
  refine readK_sig (by omega) ?_ ?_ (pathN_32 _ (leavesB_32 _ _ _))
  · rw [signW, chainsB_len, digestB_len (by omega)]
    omega
  · have := pathN_len dp.toNat (leavesB seed dg.toNat (2 ^ dp.toNat)).length (l := leavesB seed dg.toNat (2 ^ dp.toNat)) (i := leaf) (by rw [leavesB_len]; exact Nat.le_refl _)
    exact Nat.le_trans this (by omega)
/-- what the signature's parts fold to -/
theorem verify_sign {seed text root : Bytes} {dg dp : Int} {leaf : Nat} (h : kCheck dg dp = 0) (hl : leaf < 2 ^ dp.toNat) : verifyK root dg dp text (signK seed dg dp leaf text) = if rootK seed dg dp = root then 0 else 21 := by
  obtain ⟨h1, h2, h3, h4⟩ := kCheck_ok h
  have hp := pow_small h3 h4
  have hdl := digestB_len (text := text) (n := dg.toNat) (by omega)
  unfold verifyK
  rw [if_neg (by rw [h]; simp), readK_sign h hl, if_neg (by simp)]
  dsimp only
  rw [from_sign (by omega) (by omega) (by omega), if_neg (by simp), hdl]
  have hf := foldB_path (l := leavesB seed dg.toNat (2 ^ dp.toNat)) (i := leaf) (by rw [leavesB_len]; exact hl)
  rw [leavesB_len, leavesB_at hl] at hf
  rw [hf]
  dsimp only
  unfold rootK
  by_cases hr : rootB (leavesB seed dg.toNat (2 ^ dp.toNat)) = root
  · rw [if_pos hr, if_neg (by simp [hr])]
  · rw [if_neg hr, if_pos (.inr hr)]
end Go.Proofs.YtbbmgkbinnomgaaGreatDoor
