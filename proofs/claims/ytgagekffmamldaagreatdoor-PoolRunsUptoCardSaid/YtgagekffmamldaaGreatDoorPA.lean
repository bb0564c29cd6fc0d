/- pool: what is remembered: forget, remember. -/
import Derived.Test.YtgagekffmamldaaGreatDoorP9
import Derived.Test.YtgagekffmamldaaGreatDoorP4
set_option linter.unusedVariables false
set_option linter.unusedSimpArgs false
set_option linter.unusedSectionVars false
namespace Go.Proofs.YtgagekffmamldaaGreatDoor
open Go Go.Isk Go.RowKit
set_option maxRecDepth 20000
def cellsH (l : List Bytes) : List Value := (l.map u8s).flatten
theorem cellsH_len {l : List Bytes} (h : ∀ k ∈ l, k.length = 32) : (cellsH l).length = l.length * 32 := by
  unfold cellsH
  induction l with
  | nil => rfl
  | cons k l ih =>
    simp only [List.map_cons, List.flatten_cons, List.length_append, u8s_length, List.length_cons]
    rw [ih fun x hx => h x (List.mem_cons_of_mem _ hx), h k (List.mem_cons_self ..)]
    omega
theorem cellsH_app (l m : List Bytes) : cellsH (l ++ m) = cellsH l ++ cellsH m := by simp [cellsH]
theorem cellsH_split (l : List Bytes) (i : Nat) : cellsH l = cellsH (l.take i) ++ cellsH (l.drop i) := by rw [← cellsH_app, List.take_append_drop]
theorem cellsH_tl {l : List Bytes} (h : ∀ k ∈ l, k.length = 32) (i : Nat) (hi : i ≤ l.length) : (cellsH (l.take i)).length = i * 32 := by
  rw [cellsH_len fun k hk => h k (List.mem_of_mem_take hk), List.length_take, Nat.min_eq_left hi]
theorem cellsH_take {l : List Bytes} (h : ∀ k ∈ l, k.length = 32) (i : Nat) (hi : i ≤ l.length) : cellsH (l.take i) = (cellsH l).take (i * 32) := by
  conv => rhs; rw [cellsH_split l i]
  rw [List.take_left' (cellsH_tl h i hi)]
theorem cellsH_drop {l : List Bytes} (h : ∀ k ∈ l, k.length = 32) (i : Nat) (hi : i ≤ l.length) : cellsH (l.drop i) = (cellsH l).drop (i * 32) := by
  conv => rhs; rw [cellsH_split l i]
  rw [List.drop_left' (cellsH_tl h i hi)]
theorem cellsH_set {l : List Bytes} {x : Bytes} (h : ∀ k ∈ l, k.length = 32) (i : Nat) (hi : i < l.length) : cellsH (l.set i x) = (cellsH l).take (i * 32) ++ u8s x ++ (cellsH l).drop (i * 32 + 32) := by
  rw [List.set_eq_take_append_cons_drop, if_pos hi, cellsH_app, cellsH_take h i (by omega), show x :: l.drop (i + 1) = [x] ++ l.drop (i + 1) from rfl, cellsH_app, cellsH_drop h (i + 1) (by omega), Nat.succ_mul, ← List.append_assoc]
  congr 2
  simp [cellsH]
section
variable {b : Base} {w : World} {L R : List It} {g g3 : Nat} {v sv lv kv f : Value} {cs : List Value} {p : PoolD} {x : ItemD} {l h : Bytes} {ls : List ItemD} {ks ys : List Bytes}
theorem hxss {S : Nat → Prop} {xss : List (List Value)} (h1 : allF hashF xss ks S w) : xss.flatten = cellsH ks ∧ ∀ k ∈ ks, k.length = 32 := by
  have he : ∀ i (hi : i < ks.length), xss[i]? = some (u8s ks[i]) ∧ ks[i].length = 32 := fun i hi => by
    have hix : i < xss.length := by rw [h1.1]; exact hi
    obtain ⟨a, c⟩ : xss[i] = u8s ks[i] ∧ ks[i].length = 32 := h1.2 i hi _ (List.getElem?_eq_getElem hix)
    exact ⟨by rw [List.getElem?_eq_getElem hix, a], c⟩
  refine ⟨?_, fun k hk => ?_⟩
  · unfold cellsH
    congr 1
    apply List.ext_getElem?
    intro i
    by_cases hi : i < ks.length
    · rw [(he i hi).1, List.getElem?_map, List.getElem?_eq_getElem hi]
      rfl
    · rw [List.getElem?_eq_none (by rw [h1.1]; omega), List.getElem?_eq_none (by simp; omega)]
  · obtain ⟨i, hi, rfl⟩ := List.mem_iff_getElem.1 hk
    exact (he i hi).2
theorem growH {E : Nat} (hs : Isk.Sep b w L) (hm : Has L (growI hashF E 32 v ks) R) : Isk.Sep b w (rowI v E 32 ks.length (cellsH ks) :: R) ∧ ∀ k ∈ ks, k.length = 32 := by
  obtain ⟨xss, q1, q2, q3⟩ := hs.get hm.ins
  obtain ⟨e1, e2⟩ := hxss q1
  rw [e1] at q3
  refine ⟨hs.turn hm (D := fun _ => False) Upd.refl (fun _ _ hf => hf.elim) (fun k hk => ⟨own_ids q3 k hk, .inl ?_⟩) q3, e2⟩
  simpa [rowI, growI] using hk
theorem hl_of (hs : Isk.Sep b w L) (hk : ∀ k ∈ ks, k.length = 32) (h : SlS (Stb w L) w v ks.length 32 (cellsH ks)) : Isk.Sep b w ((listF hashF 32 v ks).it :: L) :=
  hs.fact ⟨ks.map u8s, ⟨by simp, fun i hi x hx => by
    rw [List.getElem?_map, List.getElem?_eq_getElem hi] at hx
    simp only [Option.map_some, Option.some.injEq] at hx
    exact ⟨hx.symm, hk _ (List.getElem_mem hi)⟩⟩, fun x hx => by
    obtain ⟨y, hy, rfl⟩ := List.mem_map.1 hx
    rw [u8s_length]
    exact hk y hy, h⟩
theorem slices_Clone_h (hs : Isk.Sep b w L) (hm : Ins L (listF hashF 32 kv ks).it) (hn : ks.length ≤ 1000000000) : C Tryz.prog N.slices_Clone_api_Hash_api_Hash #[kv] w fun r w' => Isk.Sep b w' (growI hashF T.api_Hash 32 r ks :: L) :=
  C.slices_Clone_api_Hash_api_Hash (by
    show CloneBody Tryz.prog T.sl_api_Hash _ _ _
    exact clone_grow hsT hs hm.lst hashF_ok (by omega) (by omega) fun v' w' hs => hs)
theorem pool_forget_1 (hs : Isk.Sep b w L) (hl : l.length = 32) (hh : h.length = 32) (hg : Rng L g3 0 (u8s h)) : C Tryz.prog N.pool_Pool_forget_1 #[.agg (u8s l).toArray, .pointer (some ⟨g3, 0, none⟩)] w fun r w' => r = .bool (decide (l = h)) ∧ Isk.Sep b w' L := by
  refine C.pool_Pool_forget_1 ?_
  unfold F.pool_Pool_forget_1
  refine sp_boxa hs fun g2 w hs => ?_
  repeat with_reducible refine mv.mk ?_
  refine sp_ldn hs .blk (by kernel_rfl) (by rw [u8s_length, hl]) ?_
  refine sp_ldn hs (.tl hg) (by kernel_rfl) (by rw [u8s_length, hh]) ?_
  refine st_of (hash_eq hl hh _ _ w) ?_
  repeat with_reducible refine mv.mk ?_
  exact ⟨rfl, hs.drop .hd⟩
theorem forget_none {ks : List Bytes} (h1 : ∀ j (hj : j < ks.length), decide (ks[j] = h) = false) : forgetK h ks = ks := by
  unfold forgetK
  rw [List.filter_eq_self]
  intro k hk
  obtain ⟨j, hj, rfl⟩ := List.mem_iff_getElem.1 hk
  rw [h1 j hj]
  rfl
theorem slices_IndexFunc_h {K : Value → World → Prop} (hs : Isk.Sep b w L) (hm : Lst hashF 32 L v ks) (hn : ks.length ≤ 1000000000) (hh : h.length = 32) (hg : Rng L g3 0 (u8s h)) :
    C Tryz.prog N.slices_IndexFunc_api_Hash_api_Hash #[v, .func (.func N.pool_Pool_forget_1) #[] #[.pointer (some ⟨g3, 0, none⟩)]] w fun r w' => r = .int .i64 (idxOf (fun k => decide (k = h)) ks) ∧ Isk.Sep b w' L := by
  refine C.slices_IndexFunc_api_Hash_api_Hash ?_
  show IdxBody Tryz.prog T.int T.sl_api_Hash T.api_Hash _ _ _ _
  refine idx_agg (F := hashF) (p := fun k => decide (k = h)) (by_ := 32) plT paT hsT (by kernel_rfl) hs hm (by omega) ?_ ?_
  · intro w i hi xs K hxl hs hK
    obtain ⟨e1, e2⟩ : xs = u8s ks[i] ∧ ks[i].length = 32 := hs.get .hd
    subst e1
    refine cv_g (by kernel_rfl) ?_
    refine cl (pool_forget_1 hs e2 hh (.tl hg)) ?_
    rintro _ w ⟨rfl, hs⟩
    exact hK w (hs.drop .hd)
  · intro w hs
    exact ⟨rfl, hs⟩
theorem idxOf_spec {p : Bytes → Bool} : (idxOf p ks = -1 ∧ ∀ j (hj : j < ks.length), p ks[j] = false) ∨ ∃ (i : Nat) (hi : i < ks.length), idxOf p ks = i ∧ (∀ j (hj : j < i), p (ks[j]'(by omega)) = false) ∧ p ks[i] = true := by
  unfold idxOf
  cases hx : ks.findIdx? p with
  | none =>
    rw [List.findIdx?_eq_none_iff] at hx
    exact .inl ⟨rfl, fun j hj => by simpa using hx _ (List.getElem_mem hj)⟩
  | some i =>
    rw [List.findIdx?_eq_some_iff_getElem] at hx
    obtain ⟨hi, h1, h2⟩ := hx
    exact .inr ⟨i, hi, rfl, fun j hj => by simpa using h2 j hj, h1⟩
def FInv (h : Bytes) (ks ys : List Bytes) (i j : Nat) : Prop := ys.length = ks.length ∧ i < j ∧ j ≤ ks.length ∧ ys.take i = forgetK h (ks.take j) ∧ ys.drop j = ks.drop j ∧ ∀ k ∈ ys, k.length = 32
theorem FInv.at {i j : Nat} (hI : FInv h ks ys i j) (hj : j < ks.length) (hy : j < ys.length) : ys[j] = ks[j] := by
  obtain ⟨_, _, _, _, h1, _⟩ := hI
  have h2 := congrArg (fun l : List Bytes => l[0]?) h1
  simp only [List.getElem?_drop, Nat.add_zero] at h2
  rw [List.getElem?_eq_getElem hy, List.getElem?_eq_getElem hj] at h2
  exact Option.some.inj h2
theorem FInv.keepIt {i j : Nat} (hI : FInv h ks ys i j) (hj : j < ks.length) (hne : ks[j] ≠ h) (hl : ks[j].length = 32) : FInv h ks (ys.set i ks[j]) (i + 1) (j + 1) := by
  obtain ⟨h1, h2, h3, h4, h5, h6⟩ := hI
  have hi : i < ys.length := by omega
  refine ⟨by simp [h1], by omega, hj, ?_, ?_, fun k hk => ?_⟩
  · rw [List.take_succ_eq_append_getElem (by simpa using hi), List.take_set_of_le (Nat.le_refl _), h4, List.getElem_set_self, List.take_succ_eq_append_getElem hj]
    unfold forgetK
    rw [List.filter_append]
    congr 1
    simp [hne]
  · rw [List.drop_set_of_lt (by omega)]
    rw [← List.drop_drop, ← List.drop_drop, h5]
  · rcases List.mem_or_eq_of_mem_set hk with hk | rfl
    · exact h6 k hk
    · exact hl
theorem FInv.skip {i j : Nat} (hI : FInv h ks ys i j) (hj : j < ks.length) (he : ks[j] = h) : FInv h ks ys i (j + 1) := by
  obtain ⟨h1, h2, h3, h4, h5, h6⟩ := hI
  refine ⟨h1, by omega, hj, ?_, ?_, h6⟩
  · rw [h4, List.take_succ_eq_append_getElem hj]
    unfold forgetK
    rw [List.filter_append]
    simp [he]
  · rw [← List.drop_drop, ← List.drop_drop, h5]
theorem FInv.start {i : Nat} (hi : i < ks.length) (h1 : ∀ j (hj : j < i), decide ((ks[j]'(by omega)) = h) = false) (h2 : ks[i] = h) (hk : ∀ k ∈ ks, k.length = 32) : FInv h ks ks i (i + 1) := by
  refine ⟨rfl, by omega, hi, ?_, rfl, hk⟩
  rw [List.take_succ_eq_append_getElem hi]
  unfold forgetK
  rw [List.filter_append]
  simp only [h2, List.filter_cons, decide_true, Bool.not_true, Bool.false_eq_true, if_false, List.filter_nil, List.append_nil]
  symm
  rw [List.filter_eq_self]
  intro k hk
  obtain ⟨j, hj, rfl⟩ := List.mem_iff_getElem.1 hk
  rw [List.length_take] at hj
  rw [List.getElem_take, h1 j (by omega)]
  rfl
theorem sp_ldr {T E sz by_ n : Nat} {q : IntKind} {i : Int} {xs : List Value} {K : Value → World → Prop} (hs : Isk.Sep b w L) (hr : Rds L v n sz xs) (hT : slT Tryz.prog T E sz by_ = true) (ht : aggT Tryz.prog E sz = true) (j : Nat) (hj : i = j) (hn : j < n) (hk : K (.agg ((xs.drop (j * sz)).take sz).toArray) w) :
    o1 Tryz.prog (Instr.indexAt T v (.int q i)) w fun a w => o1 Tryz.prog (Instr.loadAt E a) w K := by
  subst hj
  have hsl := hs.reads hr
  obtain ⟨g, o, h1, h2, h3⟩ := idx_at (P := Tryz.prog) hT hsl j hn (q := q)
  have hxl : xs.length = n * sz := by
    obtain ⟨A, c, _, _, hl, _⟩ := hsl
    exact hl
  have hle : j * sz + sz ≤ n * sz := by
    have := Nat.mul_le_mul_right sz (show j + 1 ≤ n by omega)
    rwa [Nat.succ_mul] at this
  exact st_of h1 (st_of (load_agg ht h2 (by rw [List.length_take, List.length_drop]; omega)) hk)
theorem cellsH_el (hk : ∀ k ∈ ys, k.length = 32) {j : Nat} (hj : j < ys.length) : ((cellsH ys).drop (j * 32)).take 32 = u8s ys[j] := by
  rw [← cellsH_drop hk j (by omega), List.drop_eq_getElem_cons hj]
  unfold cellsH
  rw [List.map_cons, List.flatten_cons, List.take_left' (by rw [u8s_length]; exact hk _ (List.getElem_mem hj))]
theorem slices_DeleteFunc_h (hs : Isk.Sep b w (growI hashF T.api_Hash 32 v ks :: L)) (hn : ks.length ≤ 1000000000) (hh : h.length = 32) (hg : Rng L g3 0 (u8s h)) :
    C Tryz.prog N.slices_DeleteFunc_api_Hash_api_Hash #[v, .func (.func N.pool_Pool_forget_1) #[] #[.pointer (some ⟨g3, 0, none⟩)]] w fun r w' => Isk.Sep b w' (rowI r T.api_Hash 32 (forgetK h ks).length (cellsH (forgetK h ks)) :: L) := by
  obtain ⟨A, c, rfl⟩ := hs.lst_len .gr
  refine C.slices_DeleteFunc_api_Hash_api_Hash ?_
  unfold F.slices_DeleteFunc_api_Hash_api_Hash
  repeat with_reducible refine mv.mk ?_
  refine cl (slices_IndexFunc_h (K := fun _ _ => True) hs .gr hn hh (.tl hg)) ?_
  rintro _ w ⟨rfl, hs⟩
  obtain ⟨hs, hk⟩ := growH hs .hd
  rcases idxOf_spec (ks := ks) (p := fun k => decide (k = h)) with ⟨e, hno⟩ | ⟨i, hi, e, hno, hp⟩
  · rw [e]
    repeat (first
     | (with_reducible (first | refine st_lens ?_ | refine st_eqls ?_ | refine mv.mk ?_ | refine br_t ?_ | refine br_f ?_))
     | (with_reducible ((first | apply st_bin | apply st_len | apply st_un); intro k' hk; simp [go_sem, thenR_ok, bin]; refine hk _ _ ?_; clear hk k'))
     | ((with_reducible apply sp_newr hs); (· kernel_rfl); intro g w hs))
    rw [forget_none hno]
    exact hs
  · rw [e]
    repeat (first
     | (with_reducible (first | refine st_lens ?_ | refine st_eqls ?_ | refine mv.mk ?_ | refine br_t ?_ | refine br_f ?_))
     | (with_reducible ((first | apply st_bin | apply st_len | apply st_un); intro k' hk; simp [go_sem, thenR_ok, bin]; refine hk _ _ ?_; clear hk k'))
     | ((with_reducible apply sp_newr hs); (· kernel_rfl); intro g w hs))
    rw [show ((i : Int) == -1) = false by simp]
    repeat (first
     | (with_reducible (first | refine st_lens ?_ | refine st_eqls ?_ | refine mv.mk ?_ | refine br_t ?_ | refine br_f ?_))
     | (with_reducible ((first | apply st_bin | apply st_len | apply st_un); intro k' hk; simp [go_sem, thenR_ok, bin]; refine hk _ _ ?_; clear hk k'))
     | ((with_reducible apply sp_newr hs); (· kernel_rfl); intro g w hs))
    rw [i64_succ (by omega)]
    refine lp_by (fun us w' => ∃ (i j : Nat) (ys : List Bytes), us = [.int .i64 (i : Int), .int .i64 (j : Int)] ∧ FInv h ks ys i j ∧ Isk.Sep b w' (rowI (.slice A ks.length c) T.api_Hash 32 ks.length (cellsH ys) :: L)) (fun us _ => match us with | [_, .int _ m] => ks.length - m.toNat | _ => 0) ⟨i, i + 1, ks, rfl, FInv.start hi hno (of_decide_eq_true hp) hk, hs⟩ ?_
    clear hs
    rintro x1 w ⟨i, j, ys, hx1, hI, hs⟩
    simp only [List.cons.injEq, and_true] at hx1
    simp only [hx1.1, hx1.2]
    have hyl := hI.1
    have hij := hI.2.1
    have hjn := hI.2.2.1
    have hyk := hI.2.2.2.2.2
    repeat (first
     | (with_reducible (first | refine st_lens ?_ | refine st_eqls ?_ | refine mv.mk ?_ | refine br_t ?_ | refine br_f ?_))
     | (with_reducible ((first | apply st_bin | apply st_len | apply st_un); intro k' hk; simp [go_sem, thenR_ok, bin]; refine hk _ _ ?_; clear hk k'))
     | ((with_reducible apply sp_newr hs); (· kernel_rfl); intro g w hs))
    refine br_split (fun hq => ?_) (fun hq => ?_)
    · have hj : j < ks.length := by have := of_decide_eq_true hq; omega
      have hat := hI.at hj (by omega)
      have hlj := hk _ (List.getElem_mem hj)
      repeat with_reducible refine mv.mk ?_
      refine sp_ldr hs .row hsT (by kernel_rfl) j rfl hj ?_
      rw [cellsH_el hyk (by omega), hat]
      refine sp_newr hs (by kernel_rfl) fun g7 w hs => ?_
      refine sp_setr (ds := u8s ks[j]) hs .hd (by kernel_rfl) (by rw [u8s_length, hlj]) (u8s_one _) fun w hs => ?_
      repeat with_reducible refine mv.mk ?_
      refine sp_loadall hs .hd (by kernel_rfl) (by rw [u8s_length, hlj]) ?_
      refine cv_g (by kernel_rfl) ?_
      refine cl (pool_forget_1 hs hlj hh (.tl (.tl hg))) ?_
      rintro _ w ⟨rfl, hs⟩
      repeat (first
       | (with_reducible (first | refine st_lens ?_ | refine st_eqls ?_ | refine mv.mk ?_ | refine br_t ?_ | refine br_f ?_))
       | (with_reducible ((first | apply st_bin | apply st_len | apply st_un); intro k' hk; simp [go_sem, thenR_ok, bin]; refine hk _ _ ?_; clear hk k'))
       | ((with_reducible apply sp_newr hs); (· kernel_rfl); intro g w hs))
      refine jn_by (fun us w' => ∃ (i : Nat) (ys : List Bytes), us = [.int .i64 (i : Int)] ∧ FInv h ks ys i (j + 1) ∧ Isk.Sep b w' (rowI (.slice A ks.length c) T.api_Hash 32 ks.length (cellsH ys) :: L)) ?_ ?_
      · by_cases hq : ks[j] = h
        · rw [decide_eq_true hq, Bool.not_true]
          repeat (first
           | (with_reducible (first | refine st_lens ?_ | refine st_eqls ?_ | refine mv.mk ?_ | refine br_t ?_ | refine br_f ?_))
           | (with_reducible ((first | apply st_bin | apply st_len | apply st_un); intro k' hk; simp [go_sem, thenR_ok, bin]; refine hk _ _ ?_; clear hk k'))
           | ((with_reducible apply sp_newr hs); (· kernel_rfl); intro g w hs))
          exact ⟨i, ys, rfl, hI.skip hj hq, hs.drop .hd⟩
        · rw [decide_eq_false hq, Bool.not_false]
          repeat (first
           | (with_reducible (first | refine st_lens ?_ | refine st_eqls ?_ | refine mv.mk ?_ | refine br_t ?_ | refine br_f ?_))
           | (with_reducible ((first | apply st_bin | apply st_len | apply st_un); intro k' hk; simp [go_sem, thenR_ok, bin]; refine hk _ _ ?_; clear hk k'))
           | ((with_reducible apply sp_newr hs); (· kernel_rfl); intro g w hs))
          refine sp_loadall hs .hd (by kernel_rfl) (by rw [u8s_length, hlj]) ?_
          refine sp_setn hs (.tl .hd) hsT (by kernel_rfl) i rfl (by omega) (by rw [u8s_length, hlj]) (u8s_one _) fun w hs => ?_
          rw [← cellsH_set hyk i (by omega)] at hs
          repeat (first
           | (with_reducible (first | refine st_lens ?_ | refine st_eqls ?_ | refine mv.mk ?_ | refine br_t ?_ | refine br_f ?_))
           | (with_reducible ((first | apply st_bin | apply st_len | apply st_un); intro k' hk; simp [go_sem, thenR_ok, bin]; refine hk _ _ ?_; clear hk k'))
           | ((with_reducible apply sp_newr hs); (· kernel_rfl); intro g w hs))
          rw [i64_succ (by omega)]
          exact ⟨i + 1, _, rfl, hI.keepIt hj hq hlj, hs.drop (.tl .hd)⟩
      · rintro x2 w ⟨i2, ys2, hx2, hI2, hs⟩
        simp only [List.cons.injEq, and_true] at hx2
        simp only [hx2]
        repeat (first
         | (with_reducible (first | refine st_lens ?_ | refine st_eqls ?_ | refine mv.mk ?_ | refine br_t ?_ | refine br_f ?_))
         | (with_reducible ((first | apply st_bin | apply st_len | apply st_un); intro k' hk; simp [go_sem, thenR_ok, bin]; refine hk _ _ ?_; clear hk k'))
         | ((with_reducible apply sp_newr hs); (· kernel_rfl); intro g w hs))
        rw [i64_succ (by omega)]
        exact ⟨⟨i2, j + 1, ys2, rfl, hI2, hs⟩, by simp; omega⟩
    · obtain rfl : j = ks.length := by have := of_decide_eq_false hq; omega
      repeat with_reducible refine mv.mk ?_
      refine sp_cutclear hs .hd hsT (by kernel_rfl) (by omega) fun v' w' hs => ?_
      repeat with_reducible refine mv.mk ?_
      have hf : forgetK h ks = ys.take i := by rw [hI.2.2.2.1, List.take_length]
      have hl : (ys.take i).length = i := by rw [List.length_take]; omega
      rw [hf, hl, cellsH_take hyk i (by omega)]
      exact hs
theorem pool_forget {lv kv : Value} (hn : p.known.length ≤ 1000000000) (hh : h.length = 32) (hs : Isk.Sep b w (blkI g T.pool_Pool (poolV p lv kv) :: L)) (hm : Ins L (listF hashF 32 kv p.known).it) :
    C Tryz.prog N.pool_Pool_forget #[.pointer (some ⟨g, 0, none⟩), .agg (u8s h).toArray] w fun r w' => r = .tuple #[] ∧ ∃ kv', Isk.Sep b w' (rowI kv' T.api_Hash 32 (forgetK h p.known).length (cellsH (forgetK h p.known)) :: blkI g T.pool_Pool (poolV { p with known := forgetK h p.known } lv kv') :: L) := by
  refine C.pool_Pool_forget ?_
  unfold F.pool_Pool_forget
  refine sp_boxa hs fun g3 w hs => ?_
  repeat (first
   | (with_reducible refine pool.a4 ?_)
   | ((with_reducible apply pool.r4 hs); (· (with_reducible (repeat (first | exact .blk | exact .rng | apply Rng.tl)))))
   | (with_reducible (first | refine mv.mk ?_ | refine nk_p ?_ | refine sp_boxa hs fun g w hs => ?_))
   | (with_reducible ((first | apply st_mkf); intro k' hk; simp [go_sem, thenR_ok, bin]; refine hk _ _ ?_; clear hk k')))
  refine cl (slices_Clone_h hs (.tl (.tl hm)) hn) ?_
  rintro v w hs
  repeat (first
   | (with_reducible (first | refine mv.mk ?_ | refine nk_p ?_ | refine sp_boxa hs fun g w hs => ?_))
   | (with_reducible ((first | apply st_mkf); intro k' hk; simp [go_sem, thenR_ok, bin]; refine hk _ _ ?_; clear hk k')))
  refine cl (slices_DeleteFunc_h hs hn hh .blk) ?_
  rintro v2 w hs
  have hv := own_cells (hs.get .hd)
  repeat (first
   | (with_reducible refine pool.a4 ?_)
   | ((with_reducible apply pool.r4 hs); (· (with_reducible (repeat (first | exact .blk | exact .rng | apply Rng.tl)))))
   | (with_reducible (first | refine mv.mk ?_ | refine nk_p ?_ | refine sp_boxa hs fun g w hs => ?_))
   | (with_reducible ((first | apply st_mkf); intro k' hk; simp [go_sem, thenR_ok, bin]; refine hk _ _ ?_; clear hk k')))
  refine sx_st (p := 4) hs (.tl (.tl .hd)) (by kernel_rfl) hv (by simp [poolC]) fun w hs => ?_
  exact ⟨rfl, v2, hs.sbl (.cons (.tl .hd) (.cons .hd (.drop .all)))⟩
theorem forgetK_len (h : Bytes) (l : List Bytes) : (forgetK h l).length ≤ l.length := List.length_filter_le _ _
theorem forgetK_32 (hk : ∀ k ∈ ks, k.length = 32) : ∀ k ∈ forgetK h ks, k.length = 32 := fun k hm => hk k (List.mem_filter.1 hm).1
theorem h32 (hs : Isk.Sep b w L) (hm : Ins L (listF hashF 32 kv ks).it) : ∀ k ∈ ks, k.length = 32 := by
  obtain ⟨xss, h1, _⟩ := hs.get hm
  exact (hxss h1).2
theorem max_run8 (a c : Int) (w : World) : (Builtin.max_ #[T.int, T.int] T.int #[.int .i64 a, .int .i64 c]).run Tryz.prog w = .ok (.int .i64 (max a c)) w := by
  simp [go_sem]
  rw [Int.max_def]
  split <;> split <;> omega
theorem pool_remember {lv kv : Value} (hn : p.known.length ≤ 1000000000) (hc : 0 ≤ p.cache) (hc2 : p.cache ≤ 1000000000) (hh : h.length = 32) (hs : Isk.Sep b w (blkI g T.pool_Pool (poolV p lv kv) :: L)) (hm : Ins L (listF hashF 32 kv p.known).it) :
    C Tryz.prog N.pool_Pool_remember #[.pointer (some ⟨g, 0, none⟩), .agg (u8s h).toArray] w fun r w' => r = .tuple #[] ∧ ∃ kv', Isk.Sep b w' ((listF hashF 32 kv' (rememberK p.cache h p.known)).it :: blkI g T.pool_Pool (poolV { p with known := rememberK p.cache h p.known } lv kv') :: L) := by
  have hk := h32 hs (.tl hm)
  have hfl := forgetK_len h p.known
  have hfk := forgetK_32 (h := h) hk
  refine C.pool_Pool_remember ?_
  unfold F.pool_Pool_remember
  refine sp_boxa hs fun g3 w hs => ?_
  repeat with_reducible refine mv.mk ?_
  refine sp_ldn hs .blk (by kernel_rfl) (by rw [u8s_length, hh]) ?_
  refine cl (pool_forget hn hh (hs.sbl (.cons (.tl .hd) .all)) (.tl hm)) ?_
  rintro _ w ⟨rfl, v, hs⟩
  repeat with_reducible refine mv.mk ?_
  replace hs := hs.drew
  refine dr_can (R := [blkI g T.pool_Pool (poolV { p with known := forgetK h p.known } lv v), blkI g3 T.api_Hash (u8s h)]) hs (.drop (.cons .hd (.cons .hd .nil))) ?_
  have hS : ∀ w, Mayr [blkI g T.pool_Pool (poolV { p with known := forgetK h p.known } lv v), blkI g3 T.api_Hash (u8s h)] w → Mayr [blkI g T.pool_Pool (poolV { p with known := forgetK h p.known } lv v), blkI g3 T.api_Hash (u8s h)] w := fun _ h => h
  repeat (first
   | (with_reducible refine pool.a2 ?_)
   | ((with_reducible apply pool.r2 hs); (· (with_reducible (repeat (first | exact .blk | exact .rng | apply Rng.tl)))))
   | (with_reducible refine pool.c2 ?_)
   | ((with_reducible apply pool.e2); (· first | exact hS | exact hid); (· (with_reducible (repeat (first | exact .blk | exact .rng | apply Rng.tl)))))
   | (with_reducible refine pool.a4 ?_)
   | ((with_reducible apply pool.r4 hs); (· (with_reducible (repeat (first | exact .blk | exact .rng | apply Rng.tl)))))
   | (with_reducible refine pool.c4 ?_)
   | ((with_reducible apply pool.e4); (· first | exact hS | exact hid); (· (with_reducible (repeat (first | exact .blk | exact .rng | apply Rng.tl)))))
   | (with_reducible (first | refine st_lens ?_ | refine mv.mk ?_ | refine nk_p ?_ | refine sp_boxa hs fun g w hs => ?_))
   | (with_reducible ((first | apply st_bin | apply st_len | apply st_max); intro k' hk; simp [go_sem, thenR_ok, bin]; refine hk _ _ ?_; clear hk k'))
   | ((with_reducible (first | apply tk_bin | apply tk_len)); (· intro w; simp [go_sem, bin]; rfl)))
  refine tk_ldn hid (.tl .blk) (by kernel_rfl) (by rw [u8s_length, hh]) ?_
  refine sp_lita hs hsT (by rw [u8s_length, hh]) (by decide) fun v5 w hs => ?_
  refine ⟨hs.mayr (.drop (.drop (.cons .hd (.cons .hd .nil)))), ?_⟩
  refine sp_app hs (.tl .hd) hsT .sl (u8s_one _) (by omega) (by omega) fun v6 w hs => ?_
  have hcells : cellsH (forgetK h p.known ++ [h]) = cellsH (forgetK h p.known) ++ u8s h := by rw [cellsH_app]; simp [cellsH]
  have hlen : (forgetK h p.known ++ [h]).length = (forgetK h p.known).length + 1 := by simp
  rw [← hcells, ← hlen] at hs
  generalize hT : forgetK h p.known ++ [h] = t at *
  have ht32 : ∀ k ∈ t, k.length = 32 := fun k hm => by
    rw [← hT] at hm
    rcases List.mem_append.1 hm with hm | hm
    · exact hfk k hm
    · simp only [List.mem_cons, List.not_mem_nil, or_false] at hm
      rw [hm]; exact hh
  refine ⟨hs.mayr (.drop (.drop (.cons .hd (.cons .hd .nil)))), ?_⟩
  obtain ⟨A, c, rfl, hcap⟩ := own_cap (hs.get .hd)
  repeat (first
   | (with_reducible refine pool.a2 ?_)
   | ((with_reducible apply pool.r2 hs); (· (with_reducible (repeat (first | exact .blk | exact .rng | apply Rng.tl)))))
   | (with_reducible refine pool.c2 ?_)
   | ((with_reducible apply pool.e2); (· first | exact hS | exact hid); (· (with_reducible (repeat (first | exact .blk | exact .rng | apply Rng.tl)))))
   | (with_reducible refine pool.a4 ?_)
   | ((with_reducible apply pool.r4 hs); (· (with_reducible (repeat (first | exact .blk | exact .rng | apply Rng.tl)))))
   | (with_reducible refine pool.c4 ?_)
   | ((with_reducible apply pool.e4); (· first | exact hS | exact hid); (· (with_reducible (repeat (first | exact .blk | exact .rng | apply Rng.tl)))))
   | (with_reducible (first | refine st_lens ?_ | refine mv.mk ?_ | refine nk_p ?_ | refine sp_boxa hs fun g w hs => ?_))
   | (with_reducible ((first | apply st_bin | apply st_len | apply st_max); intro k' hk; simp [go_sem, thenR_ok, bin]; refine hk _ _ ?_; clear hk k'))
   | ((with_reducible (first | apply tk_bin | apply tk_len)); (· intro w; simp [go_sem, bin]; rfl)))
  refine sx_st (p := 4) hs (.tl (.tl .hd)) (by kernel_rfl) ⟨rfl, rfl⟩ (by simp [poolC]) fun w hs => ?_
  replace hs : Isk.Sep b w (blkI g T.pool_Pool (poolV { p with known := t } lv (.slice A t.length c)) :: rowI (.slice A t.length c) T.api_Hash 32 t.length (cellsH t) :: L) := hs.sbl (.cons .hd (.cons .hd (.drop (.drop .all))))
  replace hs := (hs.drew.rowF (.tl .hd)).sbl (L' := blkI g T.pool_Pool (poolV { p with known := t } lv (.slice A t.length c)) :: (slF (.slice A t.length c) t.length 32 (cellsH t)).it :: L) (.cons (.tl .hd) .all)
  have hi : t.length - p.cache.toNat ≤ t.length := Nat.sub_le _ _
  have hmx : max 0 ((t.length : Int) - p.cache) = ((t.length - p.cache.toNat : Nat) : Int) := by omega
  have htl : t.length ≤ 1000000001 := by omega
  refine dr_can (R := [blkI g T.pool_Pool (poolV { p with known := t } lv (.slice A t.length c))]) hs (.cons .hd .nil) ?_
  have hS : ∀ w, Mayr [blkI g T.pool_Pool (poolV { p with known := t } lv (.slice A t.length c))] w → Mayr [blkI g T.pool_Pool (poolV { p with known := t } lv (.slice A t.length c))] w := fun _ h => h
  repeat (first
   | (with_reducible refine pool.a2 ?_)
   | ((with_reducible apply pool.r2 hs); (· (with_reducible (repeat (first | exact .blk | exact .rng | apply Rng.tl)))))
   | (with_reducible refine pool.c2 ?_)
   | ((with_reducible apply pool.e2); (· first | exact hS | exact hid); (· (with_reducible (repeat (first | exact .blk | exact .rng | apply Rng.tl)))))
   | (with_reducible refine pool.a4 ?_)
   | ((with_reducible apply pool.r4 hs); (· (with_reducible (repeat (first | exact .blk | exact .rng | apply Rng.tl)))))
   | (with_reducible refine pool.c4 ?_)
   | ((with_reducible apply pool.e4); (· first | exact hS | exact hid); (· (with_reducible (repeat (first | exact .blk | exact .rng | apply Rng.tl)))))
   | ((with_reducible apply tn_add); (· omega))
   | ((with_reducible apply tn_sub); (· omega))
   | ((with_reducible apply tn_mul); (· omega))
   | ((with_reducible apply sn_add); (· omega))
   | ((with_reducible apply sn_sub); (· omega))
   | ((with_reducible apply sn_mul); (· omega))
   | (with_reducible (first | refine st_lens ?_ | refine mv.mk ?_ | refine nk_p ?_ | refine sp_boxa hs fun g w hs => ?_))
   | (with_reducible ((first | apply st_bin | apply st_len | apply st_max); intro k' hk; simp [go_sem, thenR_ok, bin]; refine hk _ _ ?_; clear hk k'))
   | ((with_reducible (first | apply tk_bin | apply tk_len)); (· intro w; simp [go_sem, bin]; rfl)))
  refine tk_run (max_run8 _ _) ?_
  rw [show IntKind.i64.wrap ((t.length : Int) - p.cache) = (t.length : Int) - p.cache by simp [IntKind.wrap, IntKind.signed, IntKind.bits]; omega, hmx]
  obtain ⟨v7, hrun, hsl, hob⟩ := sl_from hsT (hs.get (.tl .hd)).1 (t.length - p.cache.toNat) hi .i64
  obtain ⟨A7, c7, rfl, _⟩ := hsl
  refine tk_run hrun ?_
  repeat (first
   | (with_reducible refine pool.a2 ?_)
   | ((with_reducible apply pool.r2 hs); (· (with_reducible (repeat (first | exact .blk | exact .rng | apply Rng.tl)))))
   | (with_reducible refine pool.c2 ?_)
   | ((with_reducible apply pool.e2); (· first | exact hS | exact hid); (· (with_reducible (repeat (first | exact .blk | exact .rng | apply Rng.tl)))))
   | (with_reducible refine pool.a4 ?_)
   | ((with_reducible apply pool.r4 hs); (· (with_reducible (repeat (first | exact .blk | exact .rng | apply Rng.tl)))))
   | (with_reducible refine pool.c4 ?_)
   | ((with_reducible apply pool.e4); (· first | exact hS | exact hid); (· (with_reducible (repeat (first | exact .blk | exact .rng | apply Rng.tl)))))
   | (with_reducible (first | refine st_lens ?_ | refine mv.mk ?_ | refine nk_p ?_ | refine sp_boxa hs fun g w hs => ?_))
   | (with_reducible ((first | apply st_bin | apply st_len | apply st_max); intro k' hk; simp [go_sem, thenR_ok, bin]; refine hk _ _ ?_; clear hk k'))
   | ((with_reducible (first | apply tk_bin | apply tk_len)); (· intro w; simp [go_sem, bin]; rfl)))
  refine sx_st (p := 4) hs .hd (by kernel_rfl) ⟨rfl, rfl⟩ (by simp [poolC]) fun w hs => ?_
  obtain ⟨v8, hrun8, hsl8, hob8⟩ := sl_from hsT (hs.get (.tl .hd)).1 (t.length - p.cache.toNat) hi .i64
  have e8 := (hrun8 w).symm.trans (hrun w)
  simp only [Result.ok.injEq, and_true] at e8
  subst e8
  have hrk : rememberK p.cache h p.known = t.drop (t.length - p.cache.toNat) := by rw [← hT]; rfl
  rw [hrk]
  have hdl : (t.drop (t.length - p.cache.toNat)).length = t.length - (t.length - p.cache.toNat) := List.length_drop
  have hfact := hl_of (ks := t.drop (t.length - p.cache.toNat)) hs (fun k hm => ht32 k (List.mem_of_mem_drop hm)) ⟨by rw [hdl, cellsH_drop ht32 _ hi]; exact hsl8, fun hpos k hk => (hs.get (.tl .hd)).2 (by omega) k (hob8 ▸ hk)⟩
  refine ⟨rfl, _, hfact.sbl (L' := (listF hashF 32 _ (t.drop (t.length - p.cache.toNat))).it :: blkI g T.pool_Pool (poolV { p with known := t.drop (t.length - p.cache.toNat) } lv _) :: L) (.cons .hd (.cons .hd (.drop .all)))⟩
end
end Go.Proofs.YtgagekffmamldaaGreatDoor
