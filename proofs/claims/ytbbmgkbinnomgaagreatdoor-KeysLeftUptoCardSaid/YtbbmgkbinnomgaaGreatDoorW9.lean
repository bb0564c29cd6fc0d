/- Folds: the turns from a root down to a leaf, in the program. -/
import Derived.Test.YtbbmgkbinnomgaaGreatDoorW7
set_option linter.unusedVariables false
set_option linter.unusedSimpArgs false
set_option linter.unusedSectionVars false
namespace Go.Proofs.YtbbmgkbinnomgaaGreatDoor
open Go Go.Isk Go.RowKit
set_option maxRecDepth 20000
def turnsN : Nat → Nat → Nat → List Bool
  | 0, _, _ => []
  | f + 1, i, n => if 1 < n then decide (halfN n ≤ i) :: (if halfN n ≤ i then turnsN f (i - halfN n) (n - halfN n) else turnsN f i (halfN n)) else []
def turnsB (i n : Nat) : List Bool := turnsN n i n
def bools (l : List Bool) : List Value := l.map .bool
section
variable {b : Base} {w : World} {L R : List It} {g : Nat} {v sv : Value} {cs : List Value} {l : Bytes}
theorem tBools : slT Tryz.prog T.sl_bool T.bool 1 1 = true := by kernel_rfl
theorem turnsN_len : ∀ (f i n : Nat), (turnsN f i n).length ≤ f
  | 0, _, _ => Nat.le_refl _
  | f + 1, i, n => by
    rw [turnsN]
    split
    · split
      · have := turnsN_len f (i - halfN n) (n - halfN n); simp only [List.length_cons]; omega
      · have := turnsN_len f i (halfN n); simp only [List.length_cons]; omega
    · exact Nat.zero_le _
theorem sp_appL {T' : TypeId} {ls : List Bool} {x : Bool} {k : Value → World → Prop} (hs : Isk.Sep b w L) (hm : Has L (rowI v T.bool 1 ls.length (bools ls)) R) (hn : ls.length < 1000000)
    (hk : ∀ v' w', Isk.Sep b w' (rowI v' T.bool 1 (ls ++ [x]).length (bools (ls ++ [x])) :: R) → k v' w') :
    o1 Tryz.prog (Instr.buildSlice T.sl_bool 1 #[(0, .bool x)]) w fun u w => ob Tryz.prog (fun _ => Builtin.append_ #[T.sl_bool, T.sl_bool] T' #[v, u]) w k := by
  replace hs := hs.perm hm.perm
  refine sp_litv hs tBools rfl fun u w hs => ?_
  refine sp_app hs (.tl .hd) tBools (m := 1) .sl (by intro u hu; simp only [List.mem_cons, List.not_mem_nil, or_false] at hu; subst hu; rfl) (by omega) (by omega) fun v' w hs => hk v' w ?_
  have e : bools ls ++ [.bool x] = bools (ls ++ [x]) := by simp [bools]
  rw [e] at hs
  rw [List.length_append]
  exact (hs.perm (.swap _ _ _)).drop .hd
theorem sha_turns {i0 n0 : Nat} (hs : Isk.Sep b w L) (hi0 : i0 < n0) (hn0 : n0 ≤ 65536) :
    C Tryz.prog N.sha_turns #[.int .i64 (i0 : Int), .int .i64 (n0 : Int)] w fun r w' => Isk.Sep b w' (rowI r T.bool 1 (turnsB i0 n0).length (bools (turnsB i0 n0)) :: L) := by
  refine C.sha_turns ?_
  unfold F.sha_turns
  repeat with_reducible refine mv.mk ?_
  refine lp_by (fun us w' => ∃ (i n f : Nat) (ls : List Bool) (v y z : Value), us = [.int .i64 (i : Int), .int .i64 (n : Int), v, y, z] ∧ ls ++ turnsN f i n = turnsB i0 n0 ∧ n ≤ f ∧ i < n ∧ n ≤ n0 ∧ Isk.Sep b w' (rowI v T.bool 1 ls.length (bools ls) :: L)) (fun us _ => match us with | [_, .int _ n, _, _, _] => n.toNat | _ => 0) ⟨i0, n0, n0, [], _, undef, undef, rfl, rfl, Nat.le_refl _, hi0, Nat.le_refl _, hs.row0 T.bool 1⟩ ?_
  clear hs
  rintro x1 w ⟨i, n, f, ls, v, y, z, hx1, he, hf, hi, hn, hs⟩
  simp only [List.cons.injEq, and_true] at hx1
  simp only [hx1.1, hx1.2.1, hx1.2.2.1, hx1.2.2.2.1, hx1.2.2.2.2]
  have hlen : ls.length ≤ 65536 := by
    have := congrArg List.length he
    have h2 := turnsN_len n0 i0 n0
    rw [List.length_append] at this
    rw [turnsB] at this
    omega
  repeat (first
   | (with_reducible (first | refine mv.mk ?_ | refine br_t ?_ | refine br_f ?_))
   | (with_reducible ((first | apply st_bin); intro k' hk; simp [go_sem, thenR_ok, bin]; refine hk _ _ ?_; clear hk k')))
  refine br_split (fun hq => ?_) (fun hq => ?_)
  · have hq := of_decide_eq_true hq
    have hn2 : 2 ≤ n := by omega
    obtain ⟨f, rfl⟩ : ∃ f', f = f' + 1 := ⟨f - 1, by omega⟩
    repeat with_reducible refine mv.mk ?_
    refine cl (sha_half hn2 (by omega)) ?_
    rintro _ w ⟨rfl, rfl⟩
    have hp := halfN_pos n
    have hlt := halfN_lt hn2
    have hge : ∀ (o1 o2 : Operand), (bin .geq T.int o1 o2 (.int .i64 (i : Int)) (.int .i64 (halfN n : Nat))).run Tryz.prog w = .ok (.bool (decide (halfN n ≤ i))) w := fun o1 o2 => by
      simp [go_sem, bin]
    rw [turnsN, if_pos (by omega)] at he
    repeat with_reducible refine mv.mk ?_
    refine st_of (hge _ _) ?_
    repeat with_reducible refine mv.mk ?_
    refine sp_appL (x := decide (halfN n ≤ i)) hs .hd (by omega) fun v' w hs => ?_
    repeat with_reducible refine mv.mk ?_
    refine jn_in ?_
    by_cases hc : halfN n ≤ i
    · rw [if_pos hc, decide_eq_true hc] at he
      rw [decide_eq_true hc] at hs ⊢
      refine br_t ?_
      repeat with_reducible refine mv.mk ?_
      refine sn_sub (by omega) ?_
      repeat with_reducible refine mv.mk ?_
      refine sn_sub (by omega) ?_
      repeat with_reducible refine mv.mk ?_
      rintro x2 hx2
      simp only [List.cons.injEq, and_true] at hx2
      simp only [hx2.1, hx2.2]
      refine ⟨⟨i - halfN n, n - halfN n, f, ls ++ [true], v', _, _, by rw [Int.ofNat_sub hc, Int.ofNat_sub (Nat.le_of_lt hlt)], by rw [List.append_assoc]; exact he, by omega, by omega, by omega, hs⟩, ?_⟩
      show ((n : Int) - (halfN n : Int)).toNat < (n : Int).toNat
      omega
    · rw [if_neg hc, decide_eq_false hc] at he
      rw [decide_eq_false hc] at hs ⊢
      refine br_f ?_
      repeat with_reducible refine mv.mk ?_
      rintro x2 hx2
      simp only [List.cons.injEq, and_true] at hx2
      simp only [hx2.1, hx2.2]
      refine ⟨⟨i, halfN n, f, ls ++ [false], v', _, _, rfl, by rw [List.append_assoc]; exact he, by omega, by omega, by omega, hs⟩, ?_⟩
      show (halfN n : Int).toNat < (n : Int).toNat
      omega
  · have hq := of_decide_eq_false hq
    have hn1 : ¬ 1 < n := by omega
    have : turnsN f i n = [] := by
      cases f with
      | zero => rfl
      | succ f => rw [turnsN, if_neg hn1]
    rw [this, List.append_nil] at he
    repeat with_reducible refine mv.mk ?_
    rw [← he]
    exact hs
end
end Go.Proofs.YtbbmgkbinnomgaaGreatDoor
set_option linter.unusedVariables false
set_option linter.unusedSimpArgs false
set_option linter.unusedSectionVars false
namespace Go.Proofs.YtbbmgkbinnomgaaGreatDoor
open Go Go.Isk Go.RowKit
set_option maxRecDepth 20000
/-- k parts of a path on -/
def foldK (leaf : Bytes) (t : List Bool) (path : List Bytes) : Nat → Bytes
  | 0 => leaf
  | k + 1 => if t.getD (t.length - 1 - k) false = true then nodeB (path.getD k []) (foldK leaf t path k) else nodeB (foldK leaf t path k) (path.getD k [])
def foldB (leaf : Bytes) (i n : Nat) (path : List Bytes) : Bytes × Int :=
  if n ≤ i then (List.replicate 32 0, 1) else if (turnsB i n).length ≠ path.length then (List.replicate 32 0, 2) else (foldK leaf (turnsB i n) path path.length, 0)
theorem foldK_len {leaf : Bytes} {t : List Bool} {path : List Bytes} (h : leaf.length = 32) : ∀ (k : Nat), (foldK leaf t path k).length = 32
  | 0 => h
  | k + 1 => by
    rw [foldK]
    split <;> exact shaB_len _
section
variable {b : Base} {w : World} {L R : List It} {g : Nat} {v sv : Value} {cs : List Value} {l leaf : Bytes} {path : List Bytes}
theorem bool_at {ls : List Bool} {n : Nat} (h : Sl w v n 1 (bools ls)) {i : Nat} (hi : i < n) {x : Bool} (hx : ls[i]? = some x) {q : IntKind} {k : Value → World → Prop} (hk : k (.bool x) w) :
    o1 Tryz.prog (Instr.indexAt T.sl_bool v (.int q (i : Nat))) w fun a w => o1 Tryz.prog (Instr.loadAt T.bool a) w k := by
  obtain ⟨g, o, hr, hg, _⟩ := idx_at tBools h i hi (q := q)
  refine st_of hr (st_of (load_one (by kernel_rfl) (v := .bool x) ?_) hk)
  have := hg 0 (.bool x) (by simp [bools, hx])
  simpa using this
theorem sha_Fold {i n : Nat} (hs : Isk.Sep b w L) (hR : Ins L rndF.it) (hm : Ins L (listF hshF 32 sv path).it) (hl : leaf.length = 32) (hi : i < 65536) (hn : n ≤ 65536) (hpl : path.length ≤ 65536) :
    C Tryz.prog N.sha_Fold #[.agg (u8s leaf).toArray, .int .i64 (i : Int), .int .i64 (n : Int), sv] w fun r w' => ∃ e, r = .tuple #[.agg (u8s (foldB leaf i n path).1).toArray, e] ∧ Isk.Sep b w' ((errF e (foldB leaf i n path).2).it :: L) := by
  obtain ⟨A, c, hsv⟩ := hs.lst_len hm.lst
  have hlen : ∀ w', (Builtin.len_ #[T.sl_api_Hash] T.int #[sv]).run Tryz.prog w' = .ok (.int .i64 path.length) w' := fun w' => by rw [hsv]; simp [go_sem]
  clear hsv
  refine C.sha_Fold ?_
  unfold F.sha_Fold
  refine sp_boxa hs fun g4 w hs => ?_
  refine sp_newr hs (by kernel_rfl) fun g8 w hs => ?_
  have hlss : ∀ (o1 o2 : Operand), (bin .lss T.int o1 o2 (.int .i64 (i : Int)) (.int .i64 0)).run Tryz.prog w = .ok (.bool false) w := fun o1 o2 => by
    simp [go_sem, bin]
  repeat with_reducible refine mv.mk ?_
  refine st_of (hlss _ _) ?_
  repeat (first
   | (with_reducible (first | refine st_lens ?_ | refine st_nels ?_ | refine mv.mk ?_ | refine gd_u ?_ | refine gd_ft ?_ | refine gd_tf ?_ | refine gd_i ?_ | refine pk_t ?_ | refine pk_f ?_ | refine br_t ?_ | refine br_f ?_ | refine sp_boxa hs fun g w hs => ?_))
   | (with_reducible ((first | apply st_bin | apply st_len | apply st_mki); intro k' hk; simp [go_sem, thenR_ok, bin]; refine hk _ _ ?_; clear hk k'))
   | ((with_reducible apply sp_newr hs); (· kernel_rfl); intro g w hs))
  by_cases hc : n ≤ i
  · rw [decide_eq_true hc]
    refine br_t ?_
    refine st_build (cells := (u8s (List.replicate 32 0)).toArray) (by kernel_rfl) ?_
    refine st1 fun k' hk => ?_; simp [go_sem, thenR_ok, bin]; refine hk _ _ ?_; clear hk k'
    refine st_build (cells := #[.string ⟨#[112, 108, 97, 99, 101]⟩, .iface EN (.int .i64 1)]) (by kernel_rfl) ?_
    refine sp_box (cs := [.string ⟨#[112, 108, 97, 99, 101]⟩, .iface EN (.int .i64 1)]) hs rfl fun g w hs => ?_
    refine st1 fun k' hk => ?_; simp [go_sem, thenR_ok, bin]; refine hk _ _ ?_; clear hk k'
    replace hs := mkFault (e := 1) (by decide) (by decide) (by decide) hs .hd
    refine sp_setr (ds := u8s (List.replicate 32 0)) hs (.tl .hd) (by kernel_rfl) (u8s_length _) (u8s_one _) fun w hs => mv.mk (sp_rc hs .hd (by kernel_rfl) (u8s_length _) ?_)
    rw [foldB, if_pos hc]
    exact ⟨_, rfl, hs.sbl (.cons (.tl .hd) (.drop (.drop .all)))⟩
  rw [decide_eq_false hc]
  refine br_f ?_
  repeat with_reducible refine mv.mk ?_
  refine cl (sha_turns hs (by omega) hn) ?_
  rintro tv w hs
  repeat with_reducible refine mv.mk ?_
  have htl := turnsN_len n i n
  change (turnsB i n).length ≤ n at htl
  have hDs := hs.reads .row
  obtain ⟨A3, c3, hds0, -⟩ := id hDs
  have hlen3 : ∀ w', (Builtin.len_ #[T.sl_bool] T.int #[tv]).run Tryz.prog w' = .ok (.int .i64 (turnsB i n).length) w' := fun w' => by rw [hds0]; simp [go_sem]
  clear hds0 hDs
  replace hs := hs.rowF .hd
  refine st_of (hlen3 w) ?_
  repeat with_reducible refine mv.mk ?_
  refine st_of (hlen w) ?_
  refine st_of (n_neq _) ?_
  by_cases hc2 : (turnsB i n).length = path.length
  · rw [decide_eq_true (show ((turnsB i n).length : Int) = (path.length : Int) by omega)]
    refine br_f ?_
    repeat with_reducible refine mv.mk ?_
    refine st_of (hlen w) ?_
    repeat with_reducible refine mv.mk ?_
    refine lp_by (fun us w' => ∃ (j : Nat) (y : Value), us = [y, .int .i64 (j : Int)] ∧ j ≤ path.length ∧ Isk.Sep b w' (blkI g4 T.api_Hash (u8s (foldK leaf (turnsB i n) path j)) :: (slF tv (turnsB i n).length 1 (bools (turnsB i n))).it :: resI Tryz.prog g8 T.api_Hash :: L)) (fun us _ => match us with | [_, .int _ j] => (path.length - j).toNat | _ => 0) ⟨0, undef, rfl, Nat.zero_le _, hs.sbl (.cons (.tl (.tl .hd)) .all)⟩ ?_
    clear hs hlss w
    rintro x1 w ⟨j, y, hx1, hj, hs⟩
    simp only [List.cons.injEq, and_true] at hx1
    simp only [hx1.1, hx1.2]
    have hfl := foldK_len (t := turnsB i n) (path := path) hl j
    repeat (first
     | (with_reducible (first | refine st_lens ?_ | refine st_nels ?_ | refine mv.mk ?_ | refine gd_u ?_ | refine gd_ft ?_ | refine gd_tf ?_ | refine gd_i ?_ | refine pk_t ?_ | refine pk_f ?_ | refine br_t ?_ | refine br_f ?_ | refine sp_boxa hs fun g w hs => ?_))
     | (with_reducible ((first | apply st_bin | apply st_len | apply st_mki); intro k' hk; simp [go_sem, thenR_ok, bin]; refine hk _ _ ?_; clear hk k'))
     | ((with_reducible apply sp_newr hs); (· kernel_rfl); intro g w hs))
    refine br_split (fun hq => ?_) (fun hq => ?_)
    · have hq := of_decide_eq_true hq
      have hjl : j < path.length := by omega
      repeat with_reducible refine mv.mk ?_
      refine sp_eln hs (.tl (.tl (.tl hm.lst))) tHashes (by kernel_rfl) j rfl hjl fun xs hxl hs => ?_
      obtain ⟨hxs, hpl⟩ : xs = u8s path[j] ∧ path[j].length = 32 := hs.get .hd
      subst hxs
      replace hs := hs.drop .hd
      refine sp_newr hs (by kernel_rfl) fun g12 w hs => ?_
      repeat with_reducible refine mv.mk ?_
      refine sp_setr (ds := u8s path[j]) hs .hd (by kernel_rfl) ((u8s_length _).trans hpl) (u8s_one _) fun w hs => ?_
      repeat with_reducible refine mv.mk ?_
      refine st_of (hlen3 w) ?_
      refine sn_sub (by omega) ?_
      repeat with_reducible refine mv.mk ?_
      refine sn_sub (by omega) ?_
      have hjt : (turnsB i n).length - 1 - j < (turnsB i n).length := by omega
      rw [show ((turnsB i n).length : Int) - 1 - (j : Int) = (((turnsB i n).length - 1 - j : Nat) : Int) by omega]
      refine bool_at (hs.reads (.tl (.tl .sl))) hjt (List.getElem?_eq_getElem hjt) ?_
      refine jn_in ?_
      have hgd : (turnsB i n).getD ((turnsB i n).length - 1 - j) false = (turnsB i n)[(turnsB i n).length - 1 - j] := by rw [List.getD_eq_getElem?_getD, List.getElem?_eq_getElem hjt]; rfl
      have hgp : path.getD j [] = path[j] := by rw [List.getD_eq_getElem?_getD, List.getElem?_eq_getElem hjl]; rfl
      generalize hb : (turnsB i n)[(turnsB i n).length - 1 - j] = bb at hgd ⊢
      cases bb with
      | true =>
        refine br_t ?_
        refine sp_loadall hs .hd (by kernel_rfl) ((u8s_length _).trans hpl) ?_
        refine sp_loadall hs (.tl .hd) (by kernel_rfl) ((u8s_length _).trans hfl) ?_
        refine cl (sha_Node hs (.tl (.tl (.tl (.tl hR)))) hpl hfl) ?_
        rintro _ w ⟨rfl, hs⟩
        have e : nodeB path[j] (foldK leaf (turnsB i n) path j) = foldK leaf (turnsB i n) path (j + 1) := by rw [foldK, if_pos hgd, hgp]
        rw [e]
        refine sp_all (ds := u8s (foldK leaf (turnsB i n) path (j + 1))) hs (.tl .hd) (by kernel_rfl) ((u8s_length _).trans hfl) ((u8s_length _).trans (foldK_len hl _)) (u8s_one _) fun w hs => ?_
        rintro x2 -
        refine sn_add (by omega) ?_
        repeat with_reducible refine mv.mk ?_
        refine ⟨⟨j + 1, _, rfl, by omega, hs.sbl (.cons .hd (.drop .all))⟩, ?_⟩
        show ((path.length : Int) - ((j + 1 : Nat) : Int)).toNat < ((path.length : Int) - (j : Int)).toNat
        omega
      | false =>
        refine br_f ?_
        refine sp_loadall hs (.tl .hd) (by kernel_rfl) ((u8s_length _).trans hfl) ?_
        refine sp_loadall hs .hd (by kernel_rfl) ((u8s_length _).trans hpl) ?_
        refine cl (sha_Node hs (.tl (.tl (.tl (.tl hR)))) hfl hpl) ?_
        rintro _ w ⟨rfl, hs⟩
        have e : nodeB (foldK leaf (turnsB i n) path j) path[j] = foldK leaf (turnsB i n) path (j + 1) := by rw [foldK, if_neg (by rw [hgd]; decide), hgp]
        rw [e]
        refine sp_all (ds := u8s (foldK leaf (turnsB i n) path (j + 1))) hs (.tl .hd) (by kernel_rfl) ((u8s_length _).trans hfl) ((u8s_length _).trans (foldK_len hl _)) (u8s_one _) fun w hs => ?_
        rintro x2 -
        refine sn_add (by omega) ?_
        repeat with_reducible refine mv.mk ?_
        refine ⟨⟨j + 1, _, rfl, by omega, hs.sbl (.cons .hd (.drop .all))⟩, ?_⟩
        show ((path.length : Int) - ((j + 1 : Nat) : Int)).toNat < ((path.length : Int) - (j : Int)).toNat
        omega
    · have hq := of_decide_eq_false hq
      have hje : j = path.length := by omega
      subst hje
      refine sp_loadall hs .hd (by kernel_rfl) ((u8s_length _).trans hfl) ?_
      have ef : foldB leaf i n path = (foldK leaf (turnsB i n) path path.length, 0) := by rw [foldB, if_neg hc, if_neg (by simpa using hc2)]
      rw [ef]
      refine sp_setr (ds := u8s (foldK leaf (turnsB i n) path path.length)) hs (.tl (.tl .hd)) (by kernel_rfl) ((u8s_length _).trans hfl) (u8s_one _) fun w hs => mv.mk (sp_rc hs .hd (by kernel_rfl) ((u8s_length _).trans hfl) ?_)
      exact ⟨_, rfl, errF_nil (hs.sbl (.drop (.drop (.drop .all))))⟩
  · rw [decide_eq_false (show ¬ ((turnsB i n).length : Int) = (path.length : Int) by omega)]
    refine br_t ?_
    refine st_build (cells := (u8s (List.replicate 32 0)).toArray) (by kernel_rfl) ?_
    refine st1 fun k' hk => ?_; simp [go_sem, thenR_ok, bin]; refine hk _ _ ?_; clear hk k'
    refine st_build (cells := #[.string ⟨#[112, 97, 116, 104]⟩, .iface EN (.int .i64 2)]) (by kernel_rfl) ?_
    refine sp_box (cs := [.string ⟨#[112, 97, 116, 104]⟩, .iface EN (.int .i64 2)]) hs rfl fun g w hs => ?_
    refine st1 fun k' hk => ?_; simp [go_sem, thenR_ok, bin]; refine hk _ _ ?_; clear hk k'
    replace hs := mkFault (e := 2) (by decide) (by decide) (by decide) hs .hd
    refine sp_setr (ds := u8s (List.replicate 32 0)) hs (.tl (.tl .hd)) (by kernel_rfl) (u8s_length _) (u8s_one _) fun w hs => mv.mk (sp_rc hs .hd (by kernel_rfl) (u8s_length _) ?_)
    rw [foldB, if_neg hc, if_pos hc2]
    exact ⟨_, rfl, hs.sbl (.cons (.tl .hd) (.drop (.drop (.drop .all))))⟩
end
end Go.Proofs.YtbbmgkbinnomgaaGreatDoor
