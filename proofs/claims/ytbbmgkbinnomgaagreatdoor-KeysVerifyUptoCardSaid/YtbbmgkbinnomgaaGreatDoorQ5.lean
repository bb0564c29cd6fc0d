/- Folds of the document: the root that a leaf and its path make. -/
import Derived.Test.YtbbmgkbinnomgaaGreatDoorQ4
set_option linter.unusedVariables false
set_option linter.unusedSimpArgs false
set_option linter.unusedSectionVars false
namespace Go.Proofs.YtbbmgkbinnomgaaGreatDoor
open Go Go.Isk Go.RowKit
set_option maxRecDepth 20000
/-- enough is enough -/
theorem turnsN_fuel : ∀ {f g i n : Nat}, n ≤ f → n ≤ g → i < n → turnsN f i n = turnsN g i n
  | 0, g, i, n, hf, hg, hi => by omega
  | f + 1, 0, i, n, hf, hg, hi => by omega
  | f + 1, g + 1, i, n, hf, hg, hi => by
    rw [turnsN, turnsN]
    by_cases h : 1 < n
    · rw [if_pos h, if_pos h]
      have hp := halfN_pos n
      have hlt := halfN_lt (n := n) (by omega)
      by_cases hc : halfN n ≤ i
      · rw [if_pos hc, if_pos hc, turnsN_fuel (f := f) (g := g) (by omega) (by omega) (by omega)]
      · rw [if_neg hc, if_neg hc, turnsN_fuel (f := f) (g := g) (by omega) (by omega) (by omega)]
    · rw [if_neg h, if_neg h]
theorem turnsB_step {i n : Nat} (hn : 1 < n) (hi : i < n) : turnsB i n = decide (halfN n ≤ i) :: (if halfN n ≤ i then turnsB (i - halfN n) (n - halfN n) else turnsB i (halfN n)) := by
  have hp := halfN_pos n
  have hlt := halfN_lt (n := n) (by omega)
  obtain ⟨f, rfl⟩ : ∃ f, n = f + 1 := ⟨n - 1, by omega⟩
  rw [turnsB, turnsN, if_pos hn]
  by_cases hc : halfN (f + 1) ≤ i
  · rw [if_pos hc, if_pos hc, turnsB, turnsN_fuel (f := f) (g := f + 1 - halfN (f + 1)) (by omega) (by omega) (by omega)]
  · rw [if_neg hc, if_neg hc, turnsB, turnsN_fuel (f := f) (g := halfN (f + 1)) (by omega) (by omega) (by omega)]
theorem turnsB_one (i : Nat) : turnsB i 1 = [] := by rw [turnsB, turnsN, if_neg (by omega)]
theorem foldK_cons {leaf : Bytes} {t : Bool} {r : List Bool} {path : List Bytes} {m : Nat} : ∀ (k : Nat), k ≤ r.length → k ≤ m → foldK leaf (t :: r) path k = foldK leaf r (path.take m) k
  | 0, _, _ => rfl
  | k + 1, h, hm => by
    rw [foldK, foldK, foldK_cons (m := m) k (by omega) (by omega)]
    have e1 : (t :: r).getD ((t :: r).length - 1 - k) false = r.getD (r.length - 1 - k) false := by
      rw [List.length_cons, show r.length + 1 - 1 - k = (r.length - 1 - k) + 1 by omega, List.getD_cons_succ]
    have e2 : path.getD k [] = (path.take m).getD k [] := by
      rw [List.getD_eq_getElem?_getD, List.getD_eq_getElem?_getD, List.getElem?_take, if_pos (by omega)]
    rw [e1, e2]
theorem foldK_step {leaf : Bytes} {t : Bool} {r : List Bool} {path : List Bytes} (h : path.length = r.length + 1) : foldK leaf (t :: r) path path.length = if t = true then nodeB (path.getD r.length []) (foldK leaf r (path.take r.length) (path.take r.length).length) else nodeB (foldK leaf r (path.take r.length) (path.take r.length).length) (path.getD r.length []) := by
  rw [h, foldK, foldK_cons (m := r.length) r.length (Nat.le_refl _) (Nat.le_refl _), List.length_cons, show r.length + 1 - 1 - r.length = 0 by omega, show (path.take r.length).length = r.length by rw [List.length_take]; omega]
  rfl
section
variable {P : Program} {b : Base} {w : World} {L R : List It} {g : Nat} {v sv dv : Value} {cs : List Value} {l leaf : Bytes} {path : List Bytes} {k : Value → World → Prop} {α : Type} {F : Fam α} {sz : Nat} {ls : List α}
theorem slto_el {T E by_ : Nat} (h : Isk.Sep b w L) (hm : Ins L (listF F sz sv ls).it) (hT : slT P T E sz by_ = true) (i : Nat) (hi : i ≤ ls.length) (q : IntKind) :
    ∃ v, (∀ w', (Instr.sliceAt T sv none (some (.int q (i : Nat))) none).run P w' = .ok v w') ∧ Isk.Sep b w ((listF F sz v (ls.take i)).it :: L) := by
  obtain ⟨xss, h1, h2, h3⟩ := h.get hm
  obtain ⟨v', hr, hs, ho⟩ := sl_to hT h3.1 i hi q
  refine ⟨v', hr, h.fact ⟨xss.take i, h1.take i, fun x hx => h2 x (List.mem_of_mem_take hx), ?_, fun hn k hk => ?_⟩⟩
  · rw [flatten_take i h2 (by rw [h1.1]; exact hi), show (ls.take i).length = i by simp; omega]; exact hs
  · refine h3.2 (Nat.lt_of_lt_of_le hn (Nat.mul_le_mul_right _ (by rw [List.length_take]; exact Nat.min_le_right _ _))) k (ho ▸ hk)
theorem isthmusref01_Steps {i0 n0 : Nat} (hi0 : i0 < n0) (hn0 : n0 ≤ 65536) : C Tryz.prog N.isthmusref01_Steps #[.int .i64 (i0 : Int), .int .i64 (n0 : Int)] w fun r w' => r = .int .i64 ((turnsB i0 n0).length : Int) ∧ w' = w := by
  refine C.isthmusref01_Steps ?_
  unfold F.isthmusref01_Steps
  repeat with_reducible refine mv.mk ?_
  refine lp_by (fun us w' => ∃ (i n s : Nat) (y : Value), us = [.int .i64 (i : Int), .int .i64 (n : Int), .int .i64 (s : Int), y] ∧ s + (turnsB i n).length = (turnsB i0 n0).length ∧ i < n ∧ n ≤ n0 ∧ w' = w) (fun us _ => match us with | [_, .int _ n, _, _] => n.toNat | _ => 0) ⟨i0, n0, 0, undef, rfl, by omega, hi0, Nat.le_refl _, rfl⟩ ?_
  rintro x1 w' ⟨i, n, s, y, hx1, he, hi, hn, rfl⟩
  simp only [List.cons.injEq, and_true] at hx1
  simp only [hx1.1, hx1.2.1, hx1.2.2.1, hx1.2.2.2]
  have hlen : (turnsB i0 n0).length ≤ 65536 := Nat.le_trans (turnsN_len n0 i0 n0) hn0
  repeat (first
   | (with_reducible (first | refine mv.mk ?_ | refine br_t ?_ | refine br_f ?_))
   | (with_reducible ((first | apply st_bin); intro k' hk; simp [go_sem, thenR_ok, bin]; refine hk _ _ ?_; clear hk k')))
  refine br_split (fun hq => ?_) (fun hq => ?_)
  · have hq := of_decide_eq_true hq
    have hn2 : 2 ≤ n := by omega
    repeat with_reducible refine mv.mk ?_
    refine cl (isthmusref01_split hn2 (by omega)) ?_
    rintro _ w ⟨rfl, rfl⟩
    have hp := halfN_pos n
    have hlt := halfN_lt hn2
    have hls : ∀ (o1 o2 : Operand), (bin .lss T.int o1 o2 (.int .i64 (i : Int)) (.int .i64 (halfN n : Nat))).run Tryz.prog w = .ok (.bool (decide (i < halfN n))) w := fun o1 o2 => by
      simp [go_sem, bin]
    rw [turnsB_step (by omega) hi, List.length_cons] at he
    repeat with_reducible refine mv.mk ?_
    refine st_of (hls _ _) ?_
    refine jn_in ?_
    by_cases hc : halfN n ≤ i
    · rw [if_pos hc] at he
      rw [decide_eq_false (by omega)]
      refine br_f ?_
      repeat with_reducible refine mv.mk ?_
      refine sn_sub (by omega) ?_
      repeat with_reducible refine mv.mk ?_
      refine sn_sub (by omega) ?_
      repeat with_reducible refine mv.mk ?_
      rintro x2 hx2
      simp only [List.cons.injEq, and_true] at hx2
      simp only [hx2.1, hx2.2]
      repeat with_reducible refine mv.mk ?_
      refine sn_add (by omega) ?_
      repeat with_reducible refine mv.mk ?_
      refine ⟨⟨i - halfN n, n - halfN n, s + 1, _, by rw [Int.ofNat_sub hc, Int.ofNat_sub (Nat.le_of_lt hlt)]; rfl, by omega, by omega, by omega, rfl⟩, ?_⟩
      show ((n : Int) - (halfN n : Int)).toNat < (n : Int).toNat
      omega
    · rw [if_neg hc] at he
      rw [decide_eq_true (by omega)]
      refine br_t ?_
      repeat with_reducible refine mv.mk ?_
      rintro x2 hx2
      simp only [List.cons.injEq, and_true] at hx2
      simp only [hx2.1, hx2.2]
      repeat with_reducible refine mv.mk ?_
      refine sn_add (by omega) ?_
      repeat with_reducible refine mv.mk ?_
      refine ⟨⟨i, halfN n, s + 1, _, rfl, by omega, by omega, by omega, rfl⟩, ?_⟩
      show (halfN n : Int).toNat < (n : Int).toNat
      omega
  · have hq := of_decide_eq_false hq
    have hn1 : n = 1 := by omega
    subst hn1
    rw [turnsB_one] at he
    repeat with_reducible refine mv.mk ?_
    exact ⟨by rw [← he]; rfl, rfl⟩
theorem isthmusref01_fold : ∀ (f : Nat) {b : Base} {w : World} {L : List It} {i n : Nat} {path : List Bytes} {sv : Value}, n ≤ f → n ≤ 65536 → i < n → leaf.length = 32 → Isk.Sep b w L → Ins L (listF hshF 32 sv path).it → path.length = (turnsB i n).length →
    C Tryz.prog N.isthmusref01_fold #[.agg (u8s leaf).toArray, .int .i64 (i : Int), .int .i64 (n : Int), sv] w fun r w' => r = .agg (u8s (foldK leaf (turnsB i n) path path.length)).toArray ∧ Isk.Sep b w' L
  | 0, _, _, _, i, n, _, _, h, _, hi, _, _, _, _ => by omega
  | f + 1, b, w, L, i, n, path, sv, hf, hn, hi, hl, hs, hm, hpl => by
    have hpb : path.length ≤ 65536 := by rw [hpl]; exact Nat.le_trans (turnsN_len n i n) hn
    obtain ⟨A, c, hsv⟩ := hs.lst_len hm.lst
    have hlen : ∀ w', (Builtin.len_ #[T.sl_api_Hash] T.int #[sv]).run Tryz.prog w' = .ok (.int .i64 path.length) w' := fun w' => by rw [hsv]; simp [go_sem]
    clear hsv
    refine C.isthmusref01_fold ?_
    unfold F.isthmusref01_fold
    refine sp_boxa hs fun g4 w hs => ?_
    refine sp_newr hs (by kernel_rfl) fun g8 w hs => ?_
    repeat (first
     | (with_reducible (first | refine st_lens ?_ | refine st_eqls ?_ | refine mv.mk ?_ | refine br_t ?_ | refine br_f ?_ | refine sp_boxa hs fun g w hs => ?_))
     | (with_reducible ((first | apply st_bin | apply st_len); intro k' hk; simp [go_sem, thenR_ok, bin]; refine hk _ _ ?_; clear hk k'))
     | ((with_reducible (first | apply tk_bin)); (· intro w; simp [go_sem, bin]; rfl))
     | ((with_reducible apply sp_newr hs); (· kernel_rfl); intro g w hs))
    by_cases h1 : n = 1
    · subst h1
      rw [turnsB_one] at hpl ⊢
      rw [show (((1 : Nat) : Int) == 1) = true from rfl]
      refine br_t ?_
      refine sp_loadall hs (.tl .hd) (by kernel_rfl) ((u8s_length _).trans hl) ?_
      refine sp_ret hs .hd (by kernel_rfl) ((u8s_length _).trans hl) (u8s_one _) fun w hs => ?_
      rw [hpl]
      exact ⟨rfl, hs.drop .hd⟩
    rw [show ((n : Int) == 1) = false by simp; omega]
    have hp := halfN_pos n
    have hlt := halfN_lt (n := n) (by omega)
    rw [turnsB_step (by omega) hi] at hpl ⊢
    rw [List.length_cons] at hpl
    refine br_f ?_
    repeat with_reducible refine mv.mk ?_
    refine cl (isthmusref01_split (n := n) (by omega) (by omega)) ?_
    rintro _ w ⟨rfl, rfl⟩
    repeat with_reducible refine mv.mk ?_
    refine st_of (hlen w) ?_
    refine sn_sub (by omega) ?_
    repeat with_reducible refine mv.mk ?_
    have hls : ∀ (o1 o2 : Operand), (bin .lss T.int o1 o2 (.int .i64 (i : Int)) (.int .i64 (halfN n : Nat))).run Tryz.prog w = .ok (.bool (decide (i < halfN n))) w := fun o1 o2 => by
      simp [go_sem, bin]
    refine st_of (hls _ _) ?_
    rw [show (path.length : Int) - 1 = ((path.length - 1 : Nat) : Int) by omega]
    have hlast : path.length - 1 < path.length := by omega
    obtain ⟨g3, o3, xs, hrun, hxl, hs⟩ := hs.drew.el (F := hshF) (sv := sv) (ls := path) (.tl (.tl hm)) tHashes (path.length - 1) hlast
    obtain ⟨ps, hps, hs⟩ := slto_el hs (F := hshF) (sv := sv) (ls := path) (.tl (.tl (.tl (.tl hm)))) tHashes (path.length - 1) (by omega) .i64
    obtain ⟨hxs, hpl32⟩ : xs = u8s (path[path.length - 1]'hlast) ∧ (path[path.length - 1]'hlast).length = 32 := hs.get (I := (hshF xs _).it) (.tl (.tl .hd))
    subst hxs
    have hgd : path.getD (path.length - 1) [] = path[path.length - 1]'hlast := by rw [List.getD_eq_getElem?_getD, List.getElem?_eq_getElem hlast]; rfl
    generalize path[path.length - 1]'hlast = pe at hs hpl32 hgd
    have htl : (path.take (path.length - 1)).length = path.length - 1 := by rw [List.length_take]; omega
    by_cases hc : halfN n ≤ i
    · rw [if_pos hc] at hpl ⊢
      rw [decide_eq_false (show ¬ i < halfN n by omega), decide_eq_true hc]
      refine br_f ?_
      refine dr_can hs .all ?_
      repeat with_reducible refine mv.mk ?_
      refine tk_run (hrun .i64) ?_
      refine tk_ldn hid (by repeat (first | with_reducible exact Rng.blk | with_reducible exact Rng.rng | with_reducible apply Rng.tl)) (by kernel_rfl) ((u8s_length _).trans hpl32) ?_
      refine tk_ldn hid (by repeat (first | with_reducible exact Rng.blk | with_reducible exact Rng.rng | with_reducible apply Rng.tl)) (by kernel_rfl) ((u8s_length _).trans hl) ?_
      repeat with_reducible refine mv.mk ?_
      refine tn_sub (by omega) ?_
      repeat with_reducible refine mv.mk ?_
      refine tn_sub (by omega) ?_
      repeat with_reducible refine mv.mk ?_
      refine tk_run hps ?_
      rw [show (i : Int) - (halfN n : Int) = ((i - halfN n : Nat) : Int) by omega, show (n : Int) - (halfN n : Int) = ((n - halfN n : Nat) : Int) by omega]
      refine cl (isthmusref01_fold f (i := i - halfN n) (n := n - halfN n) (path := path.take (path.length - 1)) (sv := ps) (by omega) (by omega) (by omega) hl hs .hd (by omega)) ?_
      rintro _ w ⟨rfl, hs⟩
      refine ⟨hs.mayr .all, ?_⟩
      have hfl := foldK_len (t := turnsB (i - halfN n) (n - halfN n)) (path := path.take (path.length - 1)) hl (path.take (path.length - 1)).length
      refine cl (isthmusref01_Node hs hpl32 hfl) ?_
      rintro _ w ⟨rfl, hs⟩
      refine ⟨hs.mayr .all, ?_⟩
      have e : nodeB pe (foldK leaf (turnsB (i - halfN n) (n - halfN n)) (path.take (path.length - 1)) (path.take (path.length - 1)).length) = foldK leaf (true :: turnsB (i - halfN n) (n - halfN n)) path path.length := by
        rw [foldK_step hpl, if_pos rfl, ← hgd, show path.length - 1 = (turnsB (i - halfN n) (n - halfN n)).length by omega]
      rw [e]
      have hfl2 := foldK_len (t := true :: turnsB (i - halfN n) (n - halfN n)) (path := path) hl path.length
      refine sp_ret hs (by first | ((repeat (first | with_reducible exact Has.hd | with_reducible apply Has.tl)); done) | (repeat (first | exact Has.hd | with_reducible apply Has.tl))) (by kernel_rfl) ((u8s_length _).trans hfl2) (u8s_one _) fun w hs => ?_
      exact ⟨rfl, hs.sbl (by repeat (first | with_reducible exact Sbl.all | with_reducible exact Sbl.nil | refine Sbl.cons (by first | ((repeat (first | with_reducible exact Has.hd | with_reducible apply Has.tl)); done) | (repeat (first | exact Has.hd | with_reducible apply Has.tl))) ?_ | refine Sbl.drop ?_))⟩
    · rw [if_neg hc] at hpl ⊢
      rw [decide_eq_true (show i < halfN n by omega), decide_eq_false hc]
      refine br_t ?_
      refine dr_can hs .all ?_
      refine tk_ldn hid (by repeat (first | with_reducible exact Rng.blk | with_reducible exact Rng.rng | with_reducible apply Rng.tl)) (by kernel_rfl) ((u8s_length _).trans hl) ?_
      repeat with_reducible refine mv.mk ?_
      refine tk_run hps ?_
      repeat with_reducible refine mv.mk ?_
      refine tk_run (hrun .i64) ?_
      refine tk_ldn hid (by repeat (first | with_reducible exact Rng.blk | with_reducible exact Rng.rng | with_reducible apply Rng.tl)) (by kernel_rfl) ((u8s_length _).trans hpl32) ?_
      refine cl (isthmusref01_fold f (i := i) (n := halfN n) (path := path.take (path.length - 1)) (sv := ps) (by omega) (by omega) (by omega) hl hs .hd (by omega)) ?_
      rintro _ w ⟨rfl, hs⟩
      refine ⟨hs.mayr .all, ?_⟩
      have hfl := foldK_len (t := turnsB i (halfN n)) (path := path.take (path.length - 1)) hl (path.take (path.length - 1)).length
      refine cl (isthmusref01_Node hs hfl hpl32) ?_
      rintro _ w ⟨rfl, hs⟩
      refine ⟨hs.mayr .all, ?_⟩
      have e : nodeB (foldK leaf (turnsB i (halfN n)) (path.take (path.length - 1)) (path.take (path.length - 1)).length) pe = foldK leaf (false :: turnsB i (halfN n)) path path.length := by
        rw [foldK_step hpl, if_neg (by decide), ← hgd, show path.length - 1 = (turnsB i (halfN n)).length by omega]
      rw [e]
      have hfl2 := foldK_len (t := false :: turnsB i (halfN n)) (path := path) hl path.length
      refine sp_ret hs (by first | ((repeat (first | with_reducible exact Has.hd | with_reducible apply Has.tl)); done) | (repeat (first | exact Has.hd | with_reducible apply Has.tl))) (by kernel_rfl) ((u8s_length _).trans hfl2) (u8s_one _) fun w hs => ?_
      exact ⟨rfl, hs.sbl (by repeat (first | with_reducible exact Sbl.all | with_reducible exact Sbl.nil | refine Sbl.cons (by first | ((repeat (first | with_reducible exact Has.hd | with_reducible apply Has.tl)); done) | (repeat (first | exact Has.hd | with_reducible apply Has.tl))) ?_ | refine Sbl.drop ?_))⟩
theorem isthmusref01_Fold {i n : Nat} (hs : Isk.Sep b w L) (hm : Ins L (listF hshF 32 sv path).it) (hl : leaf.length = 32) (hi : i < 65536) (hn : n ≤ 65536) (hpl : path.length ≤ 65536) :
    C Tryz.prog N.isthmusref01_Fold #[.agg (u8s leaf).toArray, .int .i64 (i : Int), .int .i64 (n : Int), sv] w fun r w' => r = .tuple #[.agg (u8s (foldB leaf i n path).1).toArray, .int .i64 (foldB leaf i n path).2] ∧ Isk.Sep b w' L := by
  obtain ⟨A, c, hsv⟩ := hs.lst_len hm.lst
  have hlen : ∀ w', (Builtin.len_ #[T.sl_api_Hash] T.int #[sv]).run Tryz.prog w' = .ok (.int .i64 path.length) w' := fun w' => by rw [hsv]; simp [go_sem]
  clear hsv
  refine C.isthmusref01_Fold ?_
  unfold F.isthmusref01_Fold
  refine sp_boxa hs fun g4 w hs => ?_
  refine sp_newr hs (by kernel_rfl) fun g8 w hs => ?_
  repeat (first
   | (with_reducible (first | refine st_lens ?_ | refine st_nels ?_ | refine mv.mk ?_ | refine gd_u ?_ | refine gd_ft ?_ | refine gd_tf ?_ | refine gd_i ?_ | refine pk_t ?_ | refine pk_f ?_ | refine br_t ?_ | refine br_f ?_ | refine sp_boxa hs fun g w hs => ?_))
   | (with_reducible ((first | apply st_bin | apply st_len); intro k' hk; simp [go_sem, thenR_ok, bin]; refine hk _ _ ?_; clear hk k'))
   | ((with_reducible apply sp_newr hs); (· kernel_rfl); intro g w hs))
  rw [show decide ((i : Int) < 0) = false by simp]
  repeat (first
   | (with_reducible (first | refine st_lens ?_ | refine st_nels ?_ | refine mv.mk ?_ | refine gd_u ?_ | refine gd_ft ?_ | refine gd_tf ?_ | refine gd_i ?_ | refine pk_t ?_ | refine pk_f ?_ | refine br_t ?_ | refine br_f ?_ | refine sp_boxa hs fun g w hs => ?_))
   | (with_reducible ((first | apply st_bin | apply st_len); intro k' hk; simp [go_sem, thenR_ok, bin]; refine hk _ _ ?_; clear hk k'))
   | ((with_reducible apply sp_newr hs); (· kernel_rfl); intro g w hs))
  by_cases hc : n ≤ i
  · rw [decide_eq_true hc]
    repeat (first
     | (with_reducible (first | refine st_lens ?_ | refine st_nels ?_ | refine mv.mk ?_ | refine gd_u ?_ | refine gd_ft ?_ | refine gd_tf ?_ | refine gd_i ?_ | refine pk_t ?_ | refine pk_f ?_ | refine br_t ?_ | refine br_f ?_ | refine sp_boxa hs fun g w hs => ?_))
     | (with_reducible ((first | apply st_bin | apply st_len); intro k' hk; simp [go_sem, thenR_ok, bin]; refine hk _ _ ?_; clear hk k'))
     | ((with_reducible apply sp_newr hs); (· kernel_rfl); intro g w hs))
    refine st_build (cells := (u8s (List.replicate 32 0)).toArray) (by kernel_rfl) ?_
    refine sp_setr (ds := u8s (List.replicate 32 0)) hs .hd (by kernel_rfl) (u8s_length _) (u8s_one _) fun w hs => mv.mk (sp_rc hs .hd (by kernel_rfl) (u8s_length _) ?_)
    rw [foldB, if_pos hc]
    exact ⟨rfl, (hs.drop .hd).drop .hd⟩
  rw [decide_eq_false hc]
  repeat (first
   | (with_reducible (first | refine st_lens ?_ | refine st_nels ?_ | refine mv.mk ?_ | refine gd_u ?_ | refine gd_ft ?_ | refine gd_tf ?_ | refine gd_i ?_ | refine pk_t ?_ | refine pk_f ?_ | refine br_t ?_ | refine br_f ?_ | refine sp_boxa hs fun g w hs => ?_))
   | (with_reducible ((first | apply st_bin | apply st_len); intro k' hk; simp [go_sem, thenR_ok, bin]; refine hk _ _ ?_; clear hk k'))
   | ((with_reducible apply sp_newr hs); (· kernel_rfl); intro g w hs))
  refine st_of (hlen w) ?_
  repeat with_reducible refine mv.mk ?_
  refine cl (isthmusref01_Steps (i0 := i) (n0 := n) (by omega) hn) ?_
  rintro _ w ⟨rfl, rfl⟩
  refine st_of (n_neq _) ?_
  by_cases hc2 : (turnsB i n).length = path.length
  rotate_left
  · rw [decide_eq_false (show ¬ (path.length : Int) = ((turnsB i n).length : Int) by omega)]
    refine br_t ?_
    refine st_build (cells := (u8s (List.replicate 32 0)).toArray) (by kernel_rfl) ?_
    refine sp_setr (ds := u8s (List.replicate 32 0)) hs .hd (by kernel_rfl) (u8s_length _) (u8s_one _) fun w hs => mv.mk (sp_rc hs .hd (by kernel_rfl) (u8s_length _) ?_)
    rw [foldB, if_neg hc, if_pos hc2]
    exact ⟨rfl, (hs.drop .hd).drop .hd⟩
  rw [decide_eq_true (show (path.length : Int) = ((turnsB i n).length : Int) by omega)]
  refine br_f ?_
  refine sp_loadall hs (.tl .hd) (by kernel_rfl) ((u8s_length _).trans hl) ?_
  repeat with_reducible refine mv.mk ?_
  refine cl (isthmusref01_fold n (i := i) (n := n) (path := path) (sv := sv) (Nat.le_refl _) hn (by omega) hl hs (.tl (.tl hm)) hc2.symm) ?_
  rintro _ w ⟨rfl, hs⟩
  have hfl := foldK_len (t := turnsB i n) (path := path) hl path.length
  refine sp_setr (ds := u8s (foldK leaf (turnsB i n) path path.length)) hs .hd (by kernel_rfl) ((u8s_length _).trans hfl) (u8s_one _) fun w hs => mv.mk (sp_rc hs .hd (by kernel_rfl) ((u8s_length _).trans hfl) ?_)
  rw [foldB, if_neg hc, if_neg (by simpa using hc2)]
  exact ⟨rfl, (hs.drop .hd).drop .hd⟩
end
end Go.Proofs.YtbbmgkbinnomgaaGreatDoor
