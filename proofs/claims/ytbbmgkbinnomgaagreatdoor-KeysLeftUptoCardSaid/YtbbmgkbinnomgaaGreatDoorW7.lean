/- One-time signatures: the public sum that a signature makes, in the program. -/
import Derived.Test.YtbbmgkbinnomgaaGreatDoorW5
set_option linter.unusedVariables false
set_option linter.unusedSimpArgs false
set_option linter.unusedSectionVars false
namespace Go.Proofs.YtbbmgkbinnomgaaGreatDoor
open Go Go.Isk Go.RowKit
set_option maxRecDepth 20000
/-- the ends of the first i chains -/
def endsB (sig : Bytes) (leaf : Nat) (ds : List Nat) (i : Nat) : Bytes := (List.range i).flatMap fun c => stepB ((sig.drop (32 * c)).take 32) leaf c (ds.getD c 0) 15
def fromB (sig : Bytes) (leaf : Int) (d : Bytes) : Bytes × Int :=
  if wCheck leaf d.length ≠ 0 then (List.replicate 32 0, 1)
  else if sig.length ≠ 32 * (2 * d.length + 3) then (List.replicate 32 0, 2)
  else (leafB (endsB sig leaf.toNat (digitsB d) (2 * d.length + 3)), 0)
theorem stepB_len {v : Bytes} {leaf chain f to : Nat} (h : v.length = 32) : (stepB v leaf chain f to).length = 32 := stepsB_len _ _ _ _ _ h
theorem endsB_succ (sig : Bytes) (leaf : Nat) (ds : List Nat) (i : Nat) : endsB sig leaf ds (i + 1) = endsB sig leaf ds i ++ stepB ((sig.drop (32 * i)).take 32) leaf i (ds.getD i 0) 15 := by
  simp [endsB, List.range_succ]
theorem endsB_len {sig : Bytes} {leaf : Nat} {ds : List Nat} : ∀ {i : Nat}, 32 * i ≤ sig.length → (endsB sig leaf ds i).length = 32 * i
  | 0, _ => rfl
  | i + 1, h => by
    rw [endsB_succ, List.length_append, endsB_len (by omega), stepB_len (by rw [List.length_take, List.length_drop]; omega)]
    omega
section
variable {P : Program} {b : Base} {w : World} {L R : List It} {g : Nat} {v sv : Value} {cs xs : List Value} {l : Bytes} {n sz : Nat} {k : Value → World → Prop}
theorem sl_mid {T E by_ : Nat} (hT : slT P T E sz by_ = true) (h : Sl w v n sz xs) (lo hi : Nat) (h1' : lo ≤ hi) (h2' : hi ≤ n) (q : IntKind) :
    ∃ v', (∀ w', (Instr.sliceAt T v (some (.int q lo)) (some (.int q hi)) none).run P w' = .ok v' w') ∧ Sl w v' (hi - lo) sz ((xs.drop (lo * sz)).take ((hi - lo) * sz)) := by
  obtain ⟨h1, hsz, j, z, hj, hz, hs1, hs2, hs3⟩ := slT.spec hT
  obtain ⟨A, c, rfl, hc, hl, hr⟩ := h
  have he : P.elem T = E := by simp [Program.elem, h1]
  refine ⟨sliced A lo hi c sz, fun w' => ?_, ?_⟩
  · rw [run_sliceAt_slice w' T _ _ _ _ (by rw [h1, he]), run_slice_lh w' T A n c (by rw [h1, he]) q q lo hi (by omega) (by omega) (by omega)]
    simp [sizeOf, typeInfo, he, hj, hs1]
  · refine ⟨_, _, rfl, by omega, ?_, fun hn => ?_⟩
    · rw [List.length_take, List.length_drop, hl, ← Nat.sub_mul]
      exact Nat.min_eq_left (Nat.mul_le_mul_right _ (by omega))
    · have hlt : 0 < hi - lo := Nat.pos_of_ne_zero fun e => by rw [e, Nat.zero_mul] at hn; omega
      obtain ⟨g, o, rfl, hr'⟩ := hr (Nat.mul_pos (by omega) hsz)
      have hne : ¬ c = lo := by omega
      refine ⟨g, o + lo * sz, by simp [hne, Addr.add_mid], fun a u hu => ?_⟩
      rw [List.getElem?_take] at hu
      split at hu
      · rw [List.getElem?_drop] at hu
        have := hr' _ _ hu
        rw [Nat.add_assoc]; exact this
      · cases hu
/-- 32 bytes of a text as an array -/
theorem hash_at {lo hi : Int} {p : Nat} (h : Sl w v l.length 1 (u8s l)) (hlo : lo = (p : Int)) (hhi : hi = ((p + 32 : Nat) : Int)) (hp : p + 32 ≤ l.length) {k : Value → World → Prop} (hk : k (.agg (u8s ((l.drop p).take 32)).toArray) w) :
    o1 Tryz.prog (Instr.sliceAt T.sl_uint8 v (some (.int .i64 lo)) (some (.int .i64 hi)) none) w fun u w => o1 Tryz.prog (Instr.arrayAt T.api_Hash u) w fun u w => o1 Tryz.prog (Instr.loadAt T.api_Hash u) w k := by
  subst hlo hhi
  obtain ⟨v', hrun, A, c, rfl, hc, hl, hr⟩ := sl_mid tByt h p (p + 32) (by omega) hp .i64
  rw [Nat.mul_one, Nat.mul_one, show p + 32 - p = 32 by omega] at hr hl
  rw [show p + 32 - p = 32 by omega] at hrun
  obtain ⟨g, o, rfl, hr2⟩ := hr (by decide)
  refine st_of (hrun w) ?_
  obtain ⟨e, i, he, _⟩ := arrT.spec tHash
  refine st_of (v := .pointer (some ⟨g, o, none⟩)) (w' := w) (by simp [Instr.arrayAt, run_underlying he]) ?_
  have e : ((u8s l).drop p).take 32 = u8s ((l.drop p).take 32) := by simp [u8s]
  rw [e] at hr2
  exact st_of (load_agg (n := 32) (by kernel_rfl) hr2 (by rw [u8s_length, List.length_take, List.length_drop]; omega)) hk
/-- is an error there? -/
theorem err_neq {e : Value} {n : Int} {i : Nat} (hs : Isk.Sep b w L) (hm : Ins L (errF e n).it) : (bin .neq T.error (.tmp i) (.const .nilIface) e .nilIface).run Tryz.prog w = .ok (.bool (!decide (n = 0))) w := by
  obtain ⟨d, hd⟩ := hs.get hm
  cases d with
  | zero =>
    rcases hd with ⟨rfl, rfl⟩ | ⟨rfl, h0, _⟩
    · simp [go_sem, bin]
    · simp [go_sem, bin, h0]
  | succ d' =>
    obtain ⟨_, _, _, rfl, h0, _⟩ := hd
    simp [go_sem, bin, h0]
end
end Go.Proofs.YtbbmgkbinnomgaaGreatDoor
set_option linter.unusedVariables false
set_option linter.unusedSimpArgs false
set_option linter.unusedSectionVars false
namespace Go.Proofs.YtbbmgkbinnomgaaGreatDoor
open Go Go.Isk Go.RowKit
set_option maxRecDepth 20000
section
variable {b : Base} {w : World} {L R : List It} {g : Nat} {v sv dv : Value} {cs xs : List Value} {l sig d : Bytes} {n sz : Nat} {k : Value → World → Prop}
theorem int_at {ls : List Nat} {n : Nat} (h : Sl w v n 1 (ints ls)) {i : Nat} (hi : i < n) {x : Nat} (hx : ls[i]? = some x) {q : IntKind} (hk : k (.int .i64 (x : Int)) w) :
    o1 Tryz.prog (Instr.indexAt T.sl_int v (.int q (i : Nat))) w fun a w => o1 Tryz.prog (Instr.loadAt T.int a) w k := by
  obtain ⟨g, o, hr, hg, _⟩ := idx_at tInts h i hi (q := q)
  refine st_of hr (st_of (load_one (by kernel_rfl) (v := .int .i64 (x : Int)) ?_) hk)
  have := hg 0 (.int .i64 (x : Int)) (by simp [ints, hx])
  simpa using this
theorem wots_From {leaf : Int} (hs : Isk.Sep b w L) (hR : Ins L rndF.it) (hm : Ins L (byF sv sig).it) (hd : Ins L (byF dv d).it) :
    C Tryz.prog N.wots_From #[sv, .int .i64 leaf, dv] w fun r w' => ∃ e, r = .tuple #[.agg (u8s (fromB sig leaf d).1).toArray, e] ∧ Isk.Sep b w' ((errF e (fromB sig leaf d).2).it :: L) := by
  obtain ⟨A, c, hv0⟩ := bytesF_slice hs hm
  obtain ⟨A2, c2, hd0⟩ := bytesF_slice hs hd
  have hlen : ∀ w', (Builtin.len_ #[T.sl_uint8] T.int #[sv]).run Tryz.prog w' = .ok (.int .i64 sig.length) w' := fun w' => by rw [hv0]; simp [go_sem]
  have hlen2 : ∀ w', (Builtin.len_ #[T.sl_uint8] T.int #[dv]).run Tryz.prog w' = .ok (.int .i64 d.length) w' := fun w' => by rw [hd0]; simp [go_sem]
  clear hv0 hd0
  refine C.wots_From ?_
  unfold F.wots_From
  refine sp_newr hs (by kernel_rfl) fun g6 w hs => ?_
  repeat with_reducible refine mv.mk ?_
  refine st_of (hlen2 w) ?_
  refine cl (wots_check hs) ?_
  rintro e w hs
  repeat with_reducible refine mv.mk ?_
  refine st_of (err_neq hs .hd) ?_
  by_cases hc : wCheck leaf d.length = 0
  · rw [hc]
    refine br_f ?_
    repeat with_reducible refine mv.mk ?_
    have hok : 0 ≤ leaf ∧ leaf < 1024 ∧ digOk d.length = true := by
      unfold wCheck at hc
      split at hc
      · assumption
      · cases hc
    obtain ⟨k1, k2, k3⟩ := hok
    have k4 : 1 ≤ d.length ∧ d.length ≤ 32 := by simp [digOk] at k3; omega
    obtain ⟨lf, rfl⟩ := Int.eq_ofNat_of_zero_le k1
    refine st_of (hlen _) ?_
    repeat with_reducible refine mv.mk ?_
    refine st_of (hlen2 _) ?_
    refine cl (wots_Len k3) ?_
    rintro _ w ⟨rfl, rfl⟩
    refine sn_mul (by omega) ?_
    refine st_of (n_neq _) ?_
    by_cases hl : sig.length = 32 * (2 * d.length + 3)
    · rw [decide_eq_true (show (sig.length : Int) = 32 * (2 * (d.length : Int) + 3) by omega)]
      refine br_f ?_
      repeat with_reducible refine mv.mk ?_
      replace hs := hs.drop .hd
      refine cl (wots_Digits hs (.tl hd) k4.1 k4.2) ?_
      rintro ds w hs
      have hDs := hs.reads .row
      obtain ⟨A3, c3, hds0, -⟩ := id hDs
      have hlen3 : ∀ w', (Builtin.len_ #[T.sl_int] T.int #[ds]).run Tryz.prog w' = .ok (.int .i64 ((2 * d.length + 3 : Nat) : Int)) w' := fun w' => by rw [hds0]; simp [go_sem]
      clear hds0 hDs
      replace hs := hs.rowF .hd
      refine st_of (hlen3 w) ?_
      repeat with_reducible refine mv.mk ?_
      refine lp_by (fun us w' => ∃ (i : Nat) (v9 y z : Value), us = [v9, y, z, .int .i64 (i : Int)] ∧ i ≤ 2 * d.length + 3 ∧ Isk.Sep b w' (rowI v9 T.uint8 1 (endsB sig lf (digitsB d) i).length (u8s (endsB sig lf (digitsB d) i)) :: (slF ds (2 * d.length + 3) 1 (ints (digitsB d))).it :: resI Tryz.prog g6 T.api_Hash :: L)) (fun us _ => match us with | [_, _, _, .int _ i] => (2 * d.length + 3 - i).toNat | _ => 0) ⟨0, _, undef, undef, rfl, Nat.zero_le _, hs.row0 T.uint8 1⟩ ?_
      clear hs w
      rintro x1 w ⟨i, v9, y, z, hx1, hi, hs⟩
      simp only [List.cons.injEq, and_true] at hx1
      simp only [hx1.1, hx1.2.1, hx1.2.2.1, hx1.2.2.2]
      have hel : (endsB sig lf (digitsB d) i).length = 32 * i := endsB_len (by omega)
      repeat (first
       | (with_reducible (first | refine st_lens ?_ | refine st_nels ?_ | refine mv.mk ?_ | refine br_t ?_ | refine br_f ?_))
       | (with_reducible ((first | apply st_bin | apply st_len); intro k' hk; simp [go_sem, thenR_ok, bin]; refine hk _ _ ?_; clear hk k'))
       | ((with_reducible apply sp_newr hs); (· kernel_rfl); intro g w hs))
      refine br_split (fun hq => ?_) (fun hq => ?_)
      · have hq := of_decide_eq_true hq
        have hin : i < 2 * d.length + 3 := by omega
        have hix : i < (digitsB d).length := by rw [digitsB_len]; exact hin
        have hx15 := digitsB_lt d _ (List.getElem_mem hix)
        repeat with_reducible refine mv.mk ?_
        refine int_at (hs.reads (.tl .sl)) hin (List.getElem?_eq_getElem hix) ?_
        repeat with_reducible refine mv.mk ?_
        refine sn_mul (by omega) ?_
        repeat with_reducible refine mv.mk ?_
        refine sn_add (by omega) ?_
        refine sn_mul (by omega) ?_
        refine hash_at (p := 32 * i) (hs.get (.tl (.tl (.tl hm)))).1 (by omega) (by omega) (by omega) ?_
        repeat with_reducible refine mv.mk ?_
        have hpl : ((sig.drop (32 * i)).take 32).length = 32 := by rw [List.length_take, List.length_drop]; omega
        refine cl (wots_Step (to := 15) hs (.tl (.tl (.tl hR))) hpl (by omega) (by omega) hx15 (by decide)) ?_
        rintro _ w ⟨rfl, hs⟩
        generalize hval : stepB ((sig.drop (32 * i)).take 32) lf i (digitsB d)[i] 15 = val at *
        have hvl : val.length = 32 := by rw [← hval]; exact stepB_len hpl
        refine sp_newr hs (by kernel_rfl) fun g12 w hs => ?_
        refine sp_setr (ds := u8s val) hs .hd (by kernel_rfl) ((u8s_length _).trans hvl) (u8s_one _) fun w hs => ?_
        repeat with_reducible refine mv.mk ?_
        refine sp_sla tHash (by decide) ?_
        replace hs := Sep.blkSl hs .hd hvl
        refine sp_app (m := 32) (ys := u8s val) hs (.tl .hd) tByt (hvl ▸ .byt) (u8s_one _) (by omega) (by omega) fun v10 w hs => ?_
        repeat with_reducible refine mv.mk ?_
        refine sn_add (by omega) ?_
        repeat with_reducible refine mv.mk ?_
        have e : endsB sig lf (digitsB d) i ++ val = endsB sig lf (digitsB d) (i + 1) := by
          rw [endsB_succ, ← hval, List.getD_eq_getElem?_getD, List.getElem?_eq_getElem hix]
          rfl
        have e2 : u8s (endsB sig lf (digitsB d) i) ++ u8s val = u8s (endsB sig lf (digitsB d) (i + 1)) := by rw [← e]; simp [u8s]
        have e3 : (endsB sig lf (digitsB d) i).length + 32 = (endsB sig lf (digitsB d) (i + 1)).length := by rw [← e, List.length_append, hvl]
        rw [e2, e3] at hs
        refine ⟨⟨i + 1, v10, _, _, rfl, by omega, hs.sbl (.cons .hd (.drop .all))⟩, ?_⟩
        show (2 * (d.length : Int) + 3 - ((i + 1 : Nat) : Int)).toNat < (2 * (d.length : Int) + 3 - (i : Int)).toNat
        omega
      · have hq := of_decide_eq_false hq
        have hie : i = 2 * d.length + 3 := by omega
        subst hie
        repeat with_reducible refine mv.mk ?_
        replace hs := hs.rowB .hd
        refine cl (sha_Leaf hs (.tl (.tl (.tl hR))) .hd (by omega)) ?_
        rintro _ w ⟨rfl, hs⟩
        have ef : fromB sig lf d = (leafB (endsB sig lf (digitsB d) (2 * d.length + 3)), 0) := by
          rw [fromB, if_neg (by rw [hc]; decide), if_neg (by rw [hl]; simp)]
          rfl
        rw [ef]
        refine sp_setr (ds := u8s (leafB (endsB sig lf (digitsB d) (2 * d.length + 3)))) hs (.tl (.tl .hd)) (by kernel_rfl) ((u8s_length _).trans (shaB_len _)) (u8s_one _) fun w hs => mv.mk (sp_rc hs .hd (by kernel_rfl) ((u8s_length _).trans (shaB_len _)) ?_)
        exact ⟨_, rfl, errF_nil (hs.sbl (.drop (.drop (.drop .all))))⟩
    · rw [decide_eq_false (show ¬ (sig.length : Int) = 32 * (2 * (d.length : Int) + 3) by omega)]
      refine br_t ?_
      refine st_build (cells := (u8s (List.replicate 32 0)).toArray) (by kernel_rfl) ?_
      refine cl (wots_fault (by decide) (by decide) (by decide) hs) ?_
      rintro e w hs
      refine sp_setr (ds := u8s (List.replicate 32 0)) hs (.tl (.tl .hd)) (by kernel_rfl) (u8s_length _) (u8s_one _) fun w hs => mv.mk (sp_rc hs .hd (by kernel_rfl) (u8s_length _) ?_)
      have ef : fromB sig lf d = (List.replicate 32 0, 2) := by rw [fromB, if_neg (by rw [hc]; decide), if_pos hl]
      rw [ef]
      exact ⟨_, rfl, hs.sbl (.cons (.tl .hd) (.drop (.drop .all)))⟩
  · rw [show decide (wCheck leaf d.length = 0) = false from decide_eq_false hc]
    refine br_t ?_
    refine st_build (cells := (u8s (List.replicate 32 0)).toArray) (by kernel_rfl) ?_
    repeat with_reducible refine mv.mk ?_
    refine sp_setr (ds := u8s (List.replicate 32 0)) hs (.tl .hd) (by kernel_rfl) (u8s_length _) (u8s_one _) fun w hs => mv.mk (sp_rc hs .hd (by kernel_rfl) (u8s_length _) ?_)
    replace hs := hs.drop .hd
    have e1 : wCheck leaf d.length = 1 := by
      unfold wCheck at hc ⊢
      split at hc
      · exact absurd rfl hc
      · rename_i h; rw [if_neg h]
    have ef : fromB sig leaf d = (List.replicate 32 0, 1) := by rw [fromB, if_pos hc]
    rw [ef]
    rw [e1] at hs
    exact ⟨_, rfl, hs⟩
end
end Go.Proofs.YtbbmgkbinnomgaaGreatDoor
