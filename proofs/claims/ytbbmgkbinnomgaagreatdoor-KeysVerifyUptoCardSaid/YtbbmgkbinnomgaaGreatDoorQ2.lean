/- One-time signatures of the document: what may be, a text's digest, how far each chain goes. -/
import Derived.Test.YtbbmgkbinnomgaaGreatDoorW9
import Derived.Test.YtbbmgkbinnomgaaGreatDoorL2
set_option linter.unusedVariables false
set_option linter.unusedSimpArgs false
set_option linter.unusedSectionVars false
namespace Go.Proofs.YtbbmgkbinnomgaaGreatDoor
open Go Go.Isk Go.RowKit
set_option maxRecDepth 20000
section
variable {b : Base} {w : World} {L R : List It} {g : Nat} {v sv : Value} {cs : List Value} {l : Bytes}
theorem isthmusref05_check {leaf n : Int} : C Tryz.prog N.isthmusref05_check #[.int .i64 leaf, .int .i64 n] w fun r w' => r = .bool (decide (wCheck leaf n = 0)) ∧ w' = w := by
  refine C.isthmusref05_check ?_
  unfold F.isthmusref05_check
  repeat (first
   | (with_reducible (first | refine mv.mk ?_ | refine gd_u ?_ | refine gd_ft ?_ | refine gd_tf ?_ | refine gd_i ?_ | refine pk_t ?_ | refine pk_f ?_))
   | (with_reducible ((first | apply st_bin); intro k' hk; simp [go_sem, thenR_ok, bin]; refine hk _ _ ?_; clear hk k')))
  by_cases h1 : 0 ≤ leaf
  rotate_left
  · rw [decide_eq_false h1]
    repeat (first
     | (with_reducible (first | refine mv.mk ?_ | refine gd_u ?_ | refine gd_ft ?_ | refine gd_tf ?_ | refine gd_i ?_ | refine pk_t ?_ | refine pk_f ?_))
     | (with_reducible ((first | apply st_bin); intro k' hk; simp [go_sem, thenR_ok, bin]; refine hk _ _ ?_; clear hk k')))
    exact ⟨by rw [wCheck, if_neg (by omega)]; rfl, rfl⟩
  rw [decide_eq_true h1]
  repeat (first
   | (with_reducible (first | refine mv.mk ?_ | refine gd_u ?_ | refine gd_ft ?_ | refine gd_tf ?_ | refine gd_i ?_ | refine pk_t ?_ | refine pk_f ?_))
   | (with_reducible ((first | apply st_bin); intro k' hk; simp [go_sem, thenR_ok, bin]; refine hk _ _ ?_; clear hk k')))
  by_cases h2 : leaf < 1024
  rotate_left
  · rw [decide_eq_false h2]
    repeat (first
     | (with_reducible (first | refine mv.mk ?_ | refine gd_u ?_ | refine gd_ft ?_ | refine gd_tf ?_ | refine gd_i ?_ | refine pk_t ?_ | refine pk_f ?_))
     | (with_reducible ((first | apply st_bin); intro k' hk; simp [go_sem, thenR_ok, bin]; refine hk _ _ ?_; clear hk k')))
    exact ⟨by rw [wCheck, if_neg (by omega)]; rfl, rfl⟩
  rw [decide_eq_true h2]
  repeat (first
   | (with_reducible (first | refine mv.mk ?_ | refine gd_u ?_ | refine gd_ft ?_ | refine gd_tf ?_ | refine gd_i ?_ | refine pk_t ?_ | refine pk_f ?_))
   | (with_reducible ((first | apply st_bin); intro k' hk; simp [go_sem, thenR_ok, bin]; refine hk _ _ ?_; clear hk k')))
  by_cases h3 : 1 ≤ n
  rotate_left
  · rw [decide_eq_false h3]
    repeat (first
     | (with_reducible (first | refine mv.mk ?_ | refine gd_u ?_ | refine gd_ft ?_ | refine gd_tf ?_ | refine gd_i ?_ | refine pk_t ?_ | refine pk_f ?_))
     | (with_reducible ((first | apply st_bin); intro k' hk; simp [go_sem, thenR_ok, bin]; refine hk _ _ ?_; clear hk k')))
    exact ⟨by rw [wCheck, if_neg (by simp [digOk]; omega)]; rfl, rfl⟩
  rw [decide_eq_true h3]
  repeat (first
   | (with_reducible (first | refine mv.mk ?_ | refine gd_u ?_ | refine gd_ft ?_ | refine gd_tf ?_ | refine gd_i ?_ | refine pk_t ?_ | refine pk_f ?_))
   | (with_reducible ((first | apply st_bin); intro k' hk; simp [go_sem, thenR_ok, bin]; refine hk _ _ ?_; clear hk k')))
  refine ⟨?_, rfl⟩
  by_cases h4 : n ≤ 32
  · rw [wCheck, if_pos ⟨h1, h2, by simp [digOk, h3, h4]⟩]; simp [h4]
  · rw [wCheck, if_neg (by simp [digOk, h4])]; simp [h4]
theorem isthmusref05_Digest {n : Int} (hs : Isk.Sep b w L) (hm : Ins L (byF v l).it) (hl : l.length < 140737488354000) :
    C Tryz.prog N.isthmusref05_Digest #[v, .int .i64 n] w fun r w' => ∃ u, r = .tuple #[u, .int .i64 (if digOk n = true then 0 else 1)] ∧ Isk.Sep b w' ((byF u (if digOk n = true then digestB l n.toNat else [])).it :: L) := by
  refine C.isthmusref05_Digest ?_
  unfold F.isthmusref05_Digest
  repeat (first
   | (with_reducible (first | refine mv.mk ?_ | refine gd_u ?_ | refine gd_ft ?_ | refine gd_tf ?_ | refine gd_i ?_ | refine pk_t ?_ | refine pk_f ?_ | refine br_t ?_ | refine br_f ?_))
   | (with_reducible ((first | apply st_bin); intro k' hk; simp [go_sem, thenR_ok, bin]; refine hk _ _ ?_; clear hk k'))
   | ((with_reducible apply sp_newr hs); (· kernel_rfl); intro g w hs))
  by_cases h1 : n < 1
  · rw [decide_eq_true h1]
    repeat (first
     | (with_reducible (first | refine mv.mk ?_ | refine gd_u ?_ | refine gd_ft ?_ | refine gd_tf ?_ | refine gd_i ?_ | refine pk_t ?_ | refine pk_f ?_ | refine br_t ?_ | refine br_f ?_))
     | (with_reducible ((first | apply st_bin); intro k' hk; simp [go_sem, thenR_ok, bin]; refine hk _ _ ?_; clear hk k'))
     | ((with_reducible apply sp_newr hs); (· kernel_rfl); intro g w hs))
    have h : ¬ digOk n = true := by simp [digOk]; omega
    rw [if_neg h, if_neg h]
    exact ⟨_, rfl, hs.fact (f := byF (.slice none 0 0) []) (SlS.nil 1)⟩
  rw [decide_eq_false h1]
  repeat (first
   | (with_reducible (first | refine mv.mk ?_ | refine gd_u ?_ | refine gd_ft ?_ | refine gd_tf ?_ | refine gd_i ?_ | refine pk_t ?_ | refine pk_f ?_ | refine br_t ?_ | refine br_f ?_))
   | (with_reducible ((first | apply st_bin); intro k' hk; simp [go_sem, thenR_ok, bin]; refine hk _ _ ?_; clear hk k'))
   | ((with_reducible apply sp_newr hs); (· kernel_rfl); intro g w hs))
  by_cases h2 : 32 < n
  · rw [decide_eq_true h2]
    repeat (first
     | (with_reducible (first | refine mv.mk ?_ | refine gd_u ?_ | refine gd_ft ?_ | refine gd_tf ?_ | refine gd_i ?_ | refine pk_t ?_ | refine pk_f ?_ | refine br_t ?_ | refine br_f ?_))
     | (with_reducible ((first | apply st_bin); intro k' hk; simp [go_sem, thenR_ok, bin]; refine hk _ _ ?_; clear hk k'))
     | ((with_reducible apply sp_newr hs); (· kernel_rfl); intro g w hs))
    have h : ¬ digOk n = true := by simp [digOk]; omega
    rw [if_neg h, if_neg h]
    exact ⟨_, rfl, hs.fact (f := byF (.slice none 0 0) []) (SlS.nil 1)⟩
  rw [decide_eq_false h2]
  have h : digOk n = true := by simp [digOk]; omega
  rw [if_pos h, if_pos h]
  obtain ⟨m, rfl⟩ := Int.eq_ofNat_of_zero_le (show 0 ≤ n by omega)
  repeat (first
   | (with_reducible (first | refine mv.mk ?_ | refine gd_u ?_ | refine gd_ft ?_ | refine gd_tf ?_ | refine gd_i ?_ | refine pk_t ?_ | refine pk_f ?_ | refine br_t ?_ | refine br_f ?_))
   | (with_reducible ((first | apply st_bin); intro k' hk; simp [go_sem, thenR_ok, bin]; refine hk _ _ ?_; clear hk k'))
   | ((with_reducible apply sp_newr hs); (· kernel_rfl); intro g w hs))
  refine sp_row1 (c := 4) hs fun u w hs => ?_
  repeat with_reducible refine mv.mk ?_
  replace hs := hs.fact (f := byF v l) (hs.get (.tl hm))
  refine sp_appY (m := l) hs (.tl .hd) .byt (by simp only [List.length_cons, List.length_nil]; omega) fun u w hs => ?_
  replace hs := hs.rowB .hd
  refine cl (isthmusref01_Sum hs .hd (by simp only [List.length_append, List.length_cons, List.length_nil]; omega)) ?_
  rintro _ w ⟨rfl, hs⟩
  refine sp_newr hs (by kernel_rfl) fun g6 w hs => ?_
  refine sp_setr hs .hd (by kernel_rfl) ((u8s_length _).trans (shaB_len _)) (u8s_one _) fun w hs => ?_
  repeat with_reducible refine mv.mk ?_
  refine st_of (sla_to tHash m rfl (by omega) (by decide) w) ?_
  have hdl : (digestB l m).length = m := by rw [digestB, List.length_take, shaB_len]; omega
  replace hs := hs.freeze (f := byF (.slice (some ⟨g6, 0, none⟩) m 32) (digestB l m)) .hd fun S hB => SlS.of (by
    have hsl := Sl.of_blk (n := m) (m := 32) (o := 0) (sz := 1) (show Blk w g6 _ _ from hB) (by rw [u8s_length, shaB_len]; omega) (by omega)
    rw [List.drop_zero, Nat.mul_one, u8s_take] at hsl
    rw [hdl]
    exact hsl) fun k hk => .inr (by simp [Value.ownBlock] at hk; simp [blkI, hk])
  repeat with_reducible refine mv.mk ?_
  exact ⟨_, rfl, hs.sbl (.cons .hd (.drop (.drop .all)))⟩
end
end Go.Proofs.YtbbmgkbinnomgaaGreatDoor
set_option linter.unusedVariables false
set_option linter.unusedSimpArgs false
set_option linter.unusedSectionVars false
namespace Go.Proofs.YtbbmgkbinnomgaaGreatDoor
open Go Go.Isk Go.RowKit
set_option maxRecDepth 20000
section
variable {P : Program} {b : Base} {w : World} {L R : List It} {g : Nat} {v sv : Value} {cs : List Value} {l : Bytes} {k : Value → World → Prop} {x1 x2 : Operand} {t : TypeId}
theorem w_quoI (w : World) {x d : Nat} (hx : x < 1000000) (hd : 0 < d) : (bin .quo t x1 x2 (.int .i64 (x : Int)) (.int .i64 (d : Int))).run P w = .ok (.int .i64 ((x / d : Nat) : Int)) w := by
  have h1 : ¬ d = 0 := by omega
  have h2 : x / d ≤ x := Nat.div_le_self _ _
  have e : (x : Int) / (d : Int) = ((x / d : Nat) : Int) := by simp
  have e2 : IntKind.i64.wrap ((x : Int) / (d : Int)) = (x : Int) / (d : Int) := by rw [e]; generalize x / d = q at h2; exact i64_wrap (by omega) (by omega)
  simp [go_sem, bin, h1, e2]
theorem w_remI (w : World) {x d : Nat} (hx : x < 1000000) (hd : 0 < d) : (bin .rem t x1 x2 (.int .i64 (x : Int)) (.int .i64 (d : Int))).run P w = .ok (.int .i64 ((x % d : Nat) : Int)) w := by
  have h1 : ¬ d = 0 := by omega
  have e : ((x : Int)).tmod (d : Int) = (x : Int) % (d : Int) := Int.tmod_eq_emod_of_nonneg (by omega)
  simp [go_sem, bin, h1, e]
theorem w_quo8 (w : World) {c : UInt8} : (bin .quo t x1 x2 (.int .u8 c.toNat) (.int .u8 16)).run P w = .ok (.int .u8 ((c.toNat / 16 : Nat) : Int)) w := by
  have h := c.toNat_lt
  have e : IntKind.u8.wrap ((c.toNat : Int) / 16) = (c.toNat : Int) / 16 := by
    unfold IntKind.wrap
    simp only [IntKind.signed, IntKind.bits, Bool.false_and, Bool.false_eq_true, if_false]
    omega
  simp [go_sem, bin, e]
theorem w_rem8 (w : World) {c : UInt8} : (bin .rem t x1 x2 (.int .u8 c.toNat) (.int .u8 16)).run P w = .ok (.int .u8 ((c.toNat % 16 : Nat) : Int)) w := by
  have e : ((c.toNat : Int)).tmod 16 = (c.toNat : Int) % 16 := Int.tmod_eq_emod_of_nonneg (by omega)
  simp [go_sem, bin, e]
/-- a slice literal of numbers -/
theorem sp_ints {ls : List Nat} {parts : Array (Nat × Value)} (hs : Isk.Sep b w L) (hp : parts.toList = ((ints ls).zipIdx 0).map fun p => (p.2, p.1)) (h0 : 0 < ls.length) (hn : ls.length ≤ 1000)
    (hk : ∀ v w', Isk.Sep b w' ((slF v ls.length 1 (ints ls)).it :: L) → k v w') : o1 Tryz.prog (Instr.buildSlice T.sl_int ls.length parts) w k :=
  st_bslice tInts (ints ls) hp (by intro v hv; obtain ⟨n, _, rfl⟩ := List.mem_map.1 hv; rfl) (ints_len ls) h0 (by omega) fun g w' hb hu hg => by
    have e : ((ints ls).map fun v => v.cells.toList).flatten = ints ls := by
      clear hp h0 hn hb hk
      induction ls with
      | nil => rfl
      | cons n r ih => simp only [ints, List.map_cons, List.flatten_cons] at ih ⊢; rw [ih]; rfl
    rw [e] at hb
    have h' : Isk.Sep b w' (blkI g T.int (ints ls) :: L) := hs.add hu (by simp [blkI, hb.lt, hg]) hb
    refine hk _ w' (h'.freeze .hd fun S hB => ?_)
    have hsl := Sl.of_blk (n := ls.length) (m := ls.length) (o := 0) (sz := 1) (show Blk w' g T.int (ints ls) from hB) (by rw [ints_len]; omega) (Nat.le_refl _)
    rw [List.drop_zero, List.take_of_length_le (by rw [ints_len]; omega)] at hsl
    exact SlS.of hsl fun k hk => .inr (by simp [Value.ownBlock] at hk; simp [blkI, hk])
theorem tk_at {w0 : World} {s : Sem Value} {x : Value} {kt : Value → Prop} (h : s.run P w0 = .ok x w0) (hk : kt x) : tk P (fun w' => w' = w0) s kt := tk_of x (fun w e => by subst e; exact h) hk
theorem tk_byte {w0 : World} {n : Nat} {kt : Value → Prop} (h : Sl w0 v l.length 1 (u8s l)) (hn : n < l.length) {q : IntKind} (hk : kt (.int .u8 l[n].toNat)) :
    tk Tryz.prog (fun w' => w' = w0) (Instr.indexAt T.sl_uint8 v (.int q (n : Nat))) fun a => tk Tryz.prog (fun w' => w' = w0) (Instr.loadAt T.uint8 a) kt := by
  obtain ⟨g, o, hr, hg, _⟩ := idx_at tBytes h n hn (q := q)
  refine tk_at hr (tk_at (load_one (by kernel_rfl) (v := .int .u8 l[n].toNat) ?_) hk)
  have := hg 0 (.int .u8 l[n].toNat) (by simp [u8s, hn])
  simpa using this
theorem isthmusref05_Digits (hs : Isk.Sep b w L) (hm : Ins L (byF v l).it) (hl1 : 1 ≤ l.length) (hl2 : l.length ≤ 32) :
    C Tryz.prog N.isthmusref05_Digits #[v] w fun r w' => Isk.Sep b w' (rowI r T.int 1 (2 * l.length + 3) (ints (digitsB l)) :: L) := by
  obtain ⟨A, c, hv0⟩ := bytesF_slice hs hm
  have hlen : ∀ w', (Builtin.len_ #[T.sl_uint8] T.int #[v]).run Tryz.prog w' = .ok (.int .i64 l.length) w' := fun w' => by rw [hv0]; simp [go_sem]
  clear hv0
  refine C.isthmusref05_Digits ?_
  unfold F.isthmusref05_Digits
  repeat with_reducible refine mv.mk ?_
  refine st_of (hlen w) ?_
  repeat (first
   | (with_reducible (first | refine st_lens ?_ | refine mv.mk ?_ | refine gd_u ?_ | refine gd_ft ?_ | refine gd_tf ?_ | refine gd_i ?_ | refine pk_t ?_ | refine pk_f ?_ | refine br_t ?_ | refine br_f ?_))
   | (with_reducible ((first | apply st_bin | apply st_len | apply st_conv); intro k' hk; simp [go_sem, thenR_ok, bin]; refine hk _ _ ?_; clear hk k'))
   | ((with_reducible (first | apply tk_bin)); (· intro w; simp [go_sem, bin]; rfl)))
  rw [show decide ((l.length : Int) < 1) = false by simp; omega]
  repeat with_reducible refine mv.mk ?_
  refine gd_i ?_
  refine mv.mk ?_
  refine gd_i ?_
  refine st_of (hlen w) ?_
  repeat (first
   | (with_reducible (first | refine st_lens ?_ | refine mv.mk ?_ | refine gd_u ?_ | refine gd_ft ?_ | refine gd_tf ?_ | refine gd_i ?_ | refine pk_t ?_ | refine pk_f ?_ | refine br_t ?_ | refine br_f ?_))
   | (with_reducible ((first | apply st_bin | apply st_len | apply st_conv); intro k' hk; simp [go_sem, thenR_ok, bin]; refine hk _ _ ?_; clear hk k'))
   | ((with_reducible (first | apply tk_bin)); (· intro w; simp [go_sem, bin]; rfl)))
  rw [show decide ((32 : Int) < (l.length : Int)) = false by simp; omega]
  repeat (first
   | (with_reducible (first | refine st_lens ?_ | refine mv.mk ?_ | refine gd_u ?_ | refine gd_ft ?_ | refine gd_tf ?_ | refine gd_i ?_ | refine pk_t ?_ | refine pk_f ?_ | refine br_t ?_ | refine br_f ?_))
   | (with_reducible ((first | apply st_bin | apply st_len | apply st_conv); intro k' hk; simp [go_sem, thenR_ok, bin]; refine hk _ _ ?_; clear hk k'))
   | ((with_reducible (first | apply tk_bin)); (· intro w; simp [go_sem, bin]; rfl)))
  refine lp_by (fun us w' => ∃ (i : Nat) (v1 y6 y7 : Value), us = [v1, .int .i64 ((restS (digsB (l.take i)) : Nat) : Int), .int .i64 (i : Int), y6, y7] ∧ i ≤ l.length ∧ Isk.Sep b w' (rowI v1 T.int 1 (2 * i) (ints (digsB (l.take i))) :: L)) (fun us _ => match us with | [_, _, .int _ i, _, _] => (l.length - i).toNat | _ => 0) ⟨0, _, undef, undef, rfl, Nat.zero_le _, hs.row0 T.int 1⟩ ?_
  clear hs
  rintro x1 w ⟨i, v1, y6, y7, hx1, hi, hs⟩
  simp only [List.cons.injEq, and_true] at hx1
  simp only [hx1.1, hx1.2.1, hx1.2.2.1, hx1.2.2.2.1, hx1.2.2.2.2]
  have hrl := restS_le (digsB (l.take i))
  rw [digsB_len, List.length_take] at hrl
  repeat with_reducible refine mv.mk ?_
  refine st_of (hlen w) ?_
  repeat (first
   | (with_reducible (first | refine st_lens ?_ | refine mv.mk ?_ | refine gd_u ?_ | refine gd_ft ?_ | refine gd_tf ?_ | refine gd_i ?_ | refine pk_t ?_ | refine pk_f ?_ | refine br_t ?_ | refine br_f ?_))
   | (with_reducible ((first | apply st_bin | apply st_len | apply st_conv); intro k' hk; simp [go_sem, thenR_ok, bin]; refine hk _ _ ?_; clear hk k'))
   | ((with_reducible (first | apply tk_bin)); (· intro w; simp [go_sem, bin]; rfl)))
  refine br_split (fun hq => ?_) (fun hq => ?_)
  · have hq := of_decide_eq_true hq
    have hil : i < l.length := by omega
    have hcl := l[i].toNat_lt
    replace hs := hs.drew
    have hB := (hs.get (.tl hm)).1
    repeat with_reducible refine mv.mk ?_
    refine tk_byte hB hil ?_
    refine tk_at (w_quo8 _) (tk_at (w_toI _ (by omega)) ?_)
    repeat with_reducible refine mv.mk ?_
    refine tk_byte hB hil ?_
    refine tk_at (w_rem8 _) (tk_at (w_toI _ (by omega)) ?_)
    repeat with_reducible refine mv.mk ?_
    refine sp_ints (ls := [l[i].toNat / 16, l[i].toNat % 16]) hs rfl (by simp) (by simp) fun u w hs => ?_
    refine sp_app hs (.tl .hd) tInts (m := 2) .sl (ints_one _) (by omega) (by omega) fun v2 w hs => ?_
    repeat with_reducible refine mv.mk ?_
    refine sn_add (by omega) ?_
    repeat with_reducible refine mv.mk ?_
    refine sn_sub (by omega) ?_
    repeat with_reducible refine mv.mk ?_
    refine sn_sub (by omega) ?_
    repeat with_reducible refine mv.mk ?_
    refine sn_add (by omega) ?_
    repeat with_reducible refine mv.mk ?_
    have e : digsB (l.take (i + 1)) = digsB (l.take i) ++ [l[i].toNat / 16, l[i].toNat % 16] := by
      rw [List.take_succ_eq_append_getElem hil, digsB_push]
    have e2 : ints (digsB (l.take i)) ++ ints [l[i].toNat / 16, l[i].toNat % 16] = ints (digsB (l.take (i + 1))) := by rw [e]; simp [ints]
    rw [e2, show 2 * i + 2 = 2 * (i + 1) by omega] at hs
    refine ⟨⟨i + 1, v2, .int .i64 ((l[i].toNat / 16 : Nat) : Int), .int .i64 ((l[i].toNat % 16 : Nat) : Int), ?_, by omega, hs.sbl (.cons .hd (.drop .all))⟩, ?_⟩
    · have e3 : restS (digsB (l.take (i + 1))) = restS (digsB (l.take i)) + (15 - l[i].toNat / 16) + (15 - l[i].toNat % 16) := by
        rw [e, show [l[i].toNat / 16, l[i].toNat % 16] = [l[i].toNat / 16] ++ [l[i].toNat % 16] from rfl, ← List.append_assoc, restS_push, restS_push]
      rw [e3]
      simp only [List.cons.injEq, and_true, true_and, Value.int.injEq]
      refine ⟨?_, by omega⟩
      omega
    · show ((l.length : Int) - ((i + 1 : Nat) : Int)).toNat < ((l.length : Int) - (i : Int)).toNat
      omega
  · have hq := of_decide_eq_false hq
    have hie : i = l.length := by omega
    subst hie
    rw [List.take_length] at hs hrl ⊢
    have hr1 : restS (digsB l) < 1000000 := by omega
    repeat with_reducible refine mv.mk ?_
    refine st_of (w_quoI (d := 256) w hr1 (by decide)) ?_
    refine st_of (w_remI (d := 16) w (Nat.lt_of_le_of_lt (Nat.div_le_self _ _) hr1) (by decide)) ?_
    repeat with_reducible refine mv.mk ?_
    refine st_of (w_quoI (d := 16) w hr1 (by decide)) ?_
    refine st_of (w_remI (d := 16) w (Nat.lt_of_le_of_lt (Nat.div_le_self _ _) hr1) (by decide)) ?_
    repeat with_reducible refine mv.mk ?_
    refine st_of (w_remI (d := 16) w hr1 (by decide)) ?_
    refine sp_ints (ls := [restS (digsB l) / 256 % 16, restS (digsB l) / 16 % 16, restS (digsB l) % 16]) hs rfl (by simp) (by simp) fun u w hs => ?_
    refine sp_app hs (.tl .hd) tInts (m := 3) .sl (ints_one _) (by omega) (by omega) fun v2 w hs => ?_
    repeat with_reducible refine mv.mk ?_
    have e2 : ints (digsB l) ++ ints [restS (digsB l) / 256 % 16, restS (digsB l) / 16 % 16, restS (digsB l) % 16] = ints (digitsB l) := by simp [ints, digitsB]
    rw [e2] at hs
    exact hs.sbl (.cons .hd (.drop .all))
end
end Go.Proofs.YtbbmgkbinnomgaaGreatDoor
