/- One-time signatures of the document: what may be, a text's digest, how far each chain goes. -/
import Derived.Test.YtlfelmikcdmkhaaGreatDoorW9
import Derived.Test.YtlfelmikcdmkhaaGreatDoorRE
import Derived.Test.YtlfelmikcdmkhaaGreatDoorL2
set_option linter.unusedVariables false
set_option linter.unusedSimpArgs false
set_option linter.unusedSectionVars false
namespace Go.Proofs.YtlfelmikcdmkhaaGreatDoor
open Go Go.Isk Go.RowKit
set_option maxRecDepth 20000
section
variable {b : Base} {w : World} {L R : List It} {g : Nat} {v sv : Value} {cs : List Value} {l : Bytes}
theorem isthmusref05_check {leaf n : Int} : C Tryz.prog N.isthmusref05_check #[.int .i64 leaf, .int .i64 n] w fun r w' => r = .bool (decide (wCheck leaf n = 0)) ∧ w' = w := by
  refine C.isthmusref05_check ?_
  unfold F.isthmusref05_check
  repeat (first
   | (with_reducible (first | refine mv.mk ?_ | refine gd_u ?_ | refine gd_ft ?_ | refine gd_tf ?_ | refine gd_i ?_ | refine pk_t ?_ | refine pk_f ?_))
   | (with_reducible ((first | apply st_bin); intro k' hk; simp [go_sem, thenR_ok, bin]; refine hk _ _ ?_; clear hk k')))
  by_cases h1 : 0 ≤ leaf
  rotate_left
  · rw [decide_eq_false h1]
    repeat (first
     | (with_reducible (first | refine mv.mk ?_ | refine gd_u ?_ | refine gd_ft ?_ | refine gd_tf ?_ | refine gd_i ?_ | refine pk_t ?_ | refine pk_f ?_))
     | (with_reducible ((first | apply st_bin); intro k' hk; simp [go_sem, thenR_ok, bin]; refine hk _ _ ?_; clear hk k')))
    exact ⟨by rw [wCheck, if_neg (by omega)]; rfl, rfl⟩
  rw [decide_eq_true h1]
  repeat (first
   | (with_reducible (first | refine mv.mk ?_ | refine gd_u ?_ | refine gd_ft ?_ | refine gd_tf ?_ | refine gd_i ?_ | refine pk_t ?_ | refine pk_f ?_))
   | (with_reducible ((first | apply st_bin); intro k' hk; simp [go_sem, thenR_ok, bin]; refine hk _ _ ?_; clear hk k')))
  by_cases h2 : leaf < 1024
  rotate_left
  · rw [decide_eq_false h2]
    repeat (first
     | (with_reducible (first | refine mv.mk ?_ | refine gd_u ?_ | refine gd_ft ?_ | refine gd_tf ?_ | refine gd_i ?_ | refine pk_t ?_ | refine pk_f ?_))
     | (with_reducible ((first | apply st_bin); intro k' hk; simp [go_sem, thenR_ok, bin]; refine hk _ _ ?_; clear hk k')))
    exact ⟨by rw [wCheck, if_neg (by omega)]; rfl, rfl⟩
  rw [decide_eq_true h2]
  repeat (first
   | (with_reducible (first | refine mv.mk ?_ | refine gd_u ?_ | refine gd_ft ?_ | refine gd_tf ?_ | refine gd_i ?_ | refine pk_t ?_ | refine pk_f ?_))
   | (with_reducible ((first | apply st_bin); intro k' hk; simp [go_sem, thenR_ok, bin]; refine hk _ _ ?_; clear hk k')))
  by_cases h3 : 1 ≤ n
  rotate_left
  · rw [decide_eq_false h3]
    repeat (first
     | (with_reducible (first | refine mv.mk ?_ | refine gd_u ?_ | refine gd_ft ?_ | refine gd_tf ?_ | refine gd_i ?_ | refine pk_t ?_ | refine pk_f ?_))
     | (with_reducible ((first | apply st_bin); intro k' hk; simp [go_sem, thenR_ok, bin]; refine hk _ _ ?_; clear hk k')))
    exact ⟨by rw [wCheck, if_neg (by simp [digOk]; omega)]; rfl, rfl⟩
  rw [decide_eq_true h3]
  repeat (first
   | (with_reducible (first | refine mv.mk ?_ | refine gd_u ?_ | refine gd_ft ?_ | refine gd_tf ?_ | refine gd_i ?_ | refine pk_t ?_ | refine pk_f ?_))
   | (with_reducible ((first | apply st_bin); intro k' hk; simp [go_sem, thenR_ok, bin]; refine hk _ _ ?_; clear hk k')))
  refine ⟨?_, rfl⟩
  by_cases h4 : n ≤ 32
  · rw [wCheck, if_pos ⟨h1, h2, by simp [digOk, h3, h4]⟩]; simp [h4]
  · rw [wCheck, if_neg (by simp [digOk, h4])]; simp [h4]
theorem isthmusref05_Digest {n : Int} (hs : Isk.Sep b w L) (hm : Ins L (byF v l).it) (hl : l.length < 140737488354000) :
    C Tryz.prog N.isthmusref05_Digest #[v, .int .i64 n] w fun r w' => ∃ u, r = .tuple #[u, .int .i64 (if digOk n = true then 0 else 1)] ∧ Isk.Sep b w' ((byF u (if digOk n = true then digestB l n.toNat else [])).it :: L) := by
  refine C.isthmusref05_Digest ?_
  unfold F.isthmusref05_Digest
  repeat (first
   | (with_reducible (first | refine mv.mk ?_ | refine gd_u ?_ | refine gd_ft ?_ | refine gd_tf ?_ | refine gd_i ?_ | refine pk_t ?_ | refine pk_f ?_ | refine br_t ?_ | refine br_f ?_))
   | (with_reducible ((first | apply st_bin); intro k' hk; simp [go_sem, thenR_ok, bin]; refine hk _ _ ?_; clear hk k'))
   | ((with_reducible apply sp_newr hs); (· kernel_rfl); intro g w hs))
  by_cases h1 : n < 1
  · rw [decide_eq_true h1]
    repeat (first
     | (with_reducible (first | refine mv.mk ?_ | refine gd_u ?_ | refine gd_ft ?_ | refine gd_tf ?_ | refine gd_i ?_ | refine pk_t ?_ | refine pk_f ?_ | refine br_t ?_ | refine br_f ?_))
     | (with_reducible ((first | apply st_bin); intro k' hk; simp [go_sem, thenR_ok, bin]; refine hk _ _ ?_; clear hk k'))
     | ((with_reducible apply sp_newr hs); (· kernel_rfl); intro g w hs))
    have h : ¬ digOk n = true := by simp [digOk]; omega
    rw [if_neg h, if_neg h]
    exact ⟨_, rfl, hs.fact (f := byF (.slice none 0 0) []) (SlS.nil 1)⟩
  rw [decide_eq_false h1]
  repeat (first
   | (with_reducible (first | refine mv.mk ?_ | refine gd_u ?_ | refine gd_ft ?_ | refine gd_tf ?_ | refine gd_i ?_ | refine pk_t ?_ | refine pk_f ?_ | refine br_t ?_ | refine br_f ?_))
   | (with_reducible ((first | apply st_bin); intro k' hk; simp [go_sem, thenR_ok, bin]; refine hk _ _ ?_; clear hk k'))
   | ((with_reducible apply sp_newr hs); (· kernel_rfl); intro g w hs))
  by_cases h2 : 32 < n
  · rw [decide_eq_true h2]
    repeat (first
     | (with_reducible (first | refine mv.mk ?_ | refine gd_u ?_ | refine gd_ft ?_ | refine gd_tf ?_ | refine gd_i ?_ | refine pk_t ?_ | refine pk_f ?_ | refine br_t ?_ | refine br_f ?_))
     | (with_reducible ((first | apply st_bin); intro k' hk; simp [go_sem, thenR_ok, bin]; refine hk _ _ ?_; clear hk k'))
     | ((with_reducible apply sp_newr hs); (· kernel_rfl); intro g w hs))
    have h : ¬ digOk n = true := by simp [digOk]; omega
    rw [if_neg h, if_neg h]
    exact ⟨_, rfl, hs.fact (f := byF (.slice none 0 0) []) (SlS.nil 1)⟩
  rw [decide_eq_false h2]
  have h : digOk n = true := by simp [digOk]; omega
  rw [if_pos h, if_pos h]
  obtain ⟨m, rfl⟩ := Int.eq_ofNat_of_zero_le (show 0 ≤ n by omega)
  repeat (first
   | (with_reducible (first | refine mv.mk ?_ | refine gd_u ?_ | refine gd_ft ?_ | refine gd_tf ?_ | refine gd_i ?_ | refine pk_t ?_ | refine pk_f ?_ | refine br_t ?_ | refine br_f ?_))
   | (with_reducible ((first | apply st_bin); intro k' hk; simp [go_sem, thenR_ok, bin]; refine hk _ _ ?_; clear hk k'))
   | ((with_reducible apply sp_newr hs); (· kernel_rfl); intro g w hs))
  refine sp_row1 (c := 4) hs fun u w hs => ?_
  repeat with_reducible refine mv.mk ?_
  replace hs := hs.fact (f := byF v l) (hs.get (.tl hm))
  refine sp_appY (m := l) hs (.tl .hd) .byt (by simp only [List.length_cons, List.length_nil]; omega) fun u w hs => ?_
  replace hs := hs.rowB .hd
  refine cl (isthmusref01_Sum hs .hd (by simp only [List.length_append, List.length_cons, List.length_nil]; omega)) ?_
  rintro _ w ⟨rfl, hs⟩
  refine sp_newr hs (by kernel_rfl) fun g6 w hs => ?_
  refine sp_setr hs .hd (by kernel_rfl) ((u8s_length _).trans (shaB_len _)) (u8s_one _) fun w hs => ?_
  repeat with_reducible refine mv.mk ?_
  refine st_of (sla_to tHash m rfl (by omega) (by decide) w) ?_
  have hdl : (digestB l m).length = m := by rw [digestB, List.length_take, shaB_len]; omega
  replace hs := hs.freeze (f := byF (.slice (some ⟨g6, 0, none⟩) m 32) (digestB l m)) .hd fun S hB => SlS.of (by
    have hsl := Sl.of_blk (n := m) (m := 32) (o := 0) (sz := 1) (show Blk w g6 _ _ from hB) (by rw [u8s_length, shaB_len]; omega) (by omega)
    rw [List.drop_zero, Nat.mul_one, u8s_take] at hsl
    rw [hdl]
    exact hsl) fun k hk => .inr (by simp [Value.ownBlock] at hk; simp [blkI, hk])
  repeat with_reducible refine mv.mk ?_
  exact ⟨_, rfl, hs.sbl (.cons .hd (.drop (.drop .all)))⟩
end
end Go.Proofs.YtlfelmikcdmkhaaGreatDoor
set_option linter.unusedVariables false
set_option linter.unusedSimpArgs false
set_option linter.unusedSectionVars false
namespace Go.Proofs.YtlfelmikcdmkhaaGreatDoor
open Go Go.Isk Go.RowKit
set_option maxRecDepth 20000
section
variable {P : Program} {b : Base} {w : World} {L R : List It} {g : Nat} {v sv : Value} {cs : List Value} {l : Bytes} {k : Value → World → Prop} {x1 x2 : Operand} {t : TypeId}
theorem w_quoI (w : World) {x d : Nat} (hx : x < 1000000) (hd : 0 < d) : (bin .quo t x1 x2 (.int .i64 (x : Int)) (.int .i64 (d : Int))).run P w = .ok (.int .i64 ((x / d : Nat) : Int)) w := by
  have h1 : ¬ d = 0 := by omega
  have h2 : x / d ≤ x := Nat.div_le_self _ _
  have e : (x : Int) / (d : Int) = ((x / d : Nat) : Int) := by simp
  have e2 : IntKind.i64.wrap ((x : Int) / (d : Int)) = (x : Int) / (d : Int) := by rw [e]; generalize x / d = q at h2; exact i64_wrap (by omega) (by omega)
  simp [go_sem, bin, h1, e2]
theorem w_remI (w : World) {x d : Nat} (hx : x < 1000000) (hd : 0 < d) : (bin .rem t x1 x2 (.int .i64 (x : Int)) (.int .i64 (d : Int))).run P w = .ok (.int .i64 ((x % d : Nat) : Int)) w := by
  have h1 : ¬ d = 0 := by omega
  have e : ((x : Int)).tmod (d : Int) = (x : Int) % (d : Int) := Int.tmod_eq_emod_of_nonneg (by omega)
  simp [go_sem, bin, h1, e]
theorem w_quo8 (w : World) {c : UInt8} : (bin .quo t x1 x2 (.int .u8 c.toNat) (.int .u8 16)).run P w = .ok (.int .u8 ((c.toNat / 16 : Nat) : Int)) w := by
  have h := c.toNat_lt
  have e : IntKind.u8.wrap ((c.toNat : Int) / 16) = (c.toNat : Int) / 16 := by
    unfold IntKind.wrap
    simp only [IntKind.signed, IntKind.bits, Bool.false_and, Bool.false_eq_true, if_false]
    omega
  simp [go_sem, bin, e]
theorem w_rem8 (w : World) {c : UInt8} : (bin .rem t x1 x2 (.int .u8 c.toNat) (.int .u8 16)).run P w = .ok (.int .u8 ((c.toNat % 16 : Nat) : Int)) w := by
  have e : ((c.toNat : Int)).tmod 16 = (c.toNat : Int) % 16 := Int.tmod_eq_emod_of_nonneg (by omega)
  simp [go_sem, bin, e]
/-- a slice literal of numbers -/
theorem sp_ints {ls : List Nat} {parts : Array (Nat × Value)} (hs : Isk.Sep b w L) (hp : parts.toList = ((ints ls).zipIdx 0).map fun p => (p.2, p.1)) (h0 : 0 < ls.length) (hn : ls.length ≤ 1000)
    (hk : ∀ v w', Isk.Sep b w' ((slF v ls.length 1 (ints ls)).it :: L) → k v w') : o1 Tryz.prog (Instr.buildSlice T.sl_int ls.length parts) w k :=
  st_bslice tInts (ints ls) hp (by intro v hv; obtain ⟨n, _, rfl⟩ := List.mem_map.1 hv; rfl) (ints_len ls) h0 (by omega) fun g w' hb hu hg => by
    have e : ((ints ls).map fun v => v.cells.toList).flatten = ints ls := by
      clear hp h0 hn hb hk
      induction ls with
      | nil => rfl
      | cons n r ih => simp only [ints, List.map_cons, List.flatten_cons] at ih ⊢; rw [ih]; rfl
    rw [e] at hb
    have h' : Isk.Sep b w' (blkI g T.int (ints ls) :: L) := hs.add hu (by simp [blkI, hb.lt, hg]) hb
    refine hk _ w' (h'.freeze .hd fun S hB => ?_)
    have hsl := Sl.of_blk (n := ls.length) (m := ls.length) (o := 0) (sz := 1) (show Blk w' g T.int (ints ls) from hB) (by rw [ints_len]; omega) (Nat.le_refl _)
    rw [List.drop_zero, List.take_of_length_le (by rw [ints_len]; omega)] at hsl
    exact SlS.of hsl fun k hk => .inr (by simp [Value.ownBlock] at hk; simp [blkI, hk])
theorem tk_at {w0 : World} {s : Sem Value} {x : Value} {kt : Value → Prop} (h : s.run P w0 = .ok x w0) (hk : kt x) : tk P (fun w' => w' = w0) s kt := tk_of x (fun w e => by subst e; exact h) hk
theorem tk_byte {w0 : World} {n : Nat} {kt : Value → Prop} (h : Sl w0 v l.length 1 (u8s l)) (hn : n < l.length) {q : IntKind} (hk : kt (.int .u8 l[n].toNat)) :
    tk Tryz.prog (fun w' => w' = w0) (Instr.indexAt T.sl_uint8 v (.int q (n : Nat))) fun a => tk Tryz.prog (fun w' => w' = w0) (Instr.loadAt T.uint8 a) kt := by
  obtain ⟨g, o, hr, hg, _⟩ := idx_at tBytes h n hn (q := q)
  refine tk_at hr (tk_at (load_one (by kernel_rfl) (v := .int .u8 l[n].toNat) ?_) hk)
  have := hg 0 (.int .u8 l[n].toNat) (by simp [u8s, hn])
  simpa using this
theorem isthmusref05_Digits (hs : Isk.Sep b w L) (hm : Ins L (byF v l).it) (hl1 : 1 ≤ l.length) (hl2 : l.length ≤ 32) :
    C Tryz.prog N.isthmusref05_Digits #[v] w fun r w' => Isk.Sep b w' (rowI r T.int 1 (2 * l.length + 3) (ints (digitsB l)) :: L) := by
  obtain ⟨A, c, hv0⟩ := bytesF_slice hs hm
  have hlen : ∀ w', (Builtin.len_ #[T.sl_uint8] T.int #[v]).run Tryz.prog w' = .ok (.int .i64 l.length) w' := fun w' => by rw [hv0]; simp [go_sem]
  clear hv0
  refine C.isthmusref05_Digits ?_
  unfold F.isthmusref05_Digits
  repeat with_reducible refine mv.mk ?_
  refine st_of (hlen w) ?_
  repeat (first
   | (with_reducible (first | refine st_lens ?_ | refine mv.mk ?_ | refine gd_u ?_ | refine gd_ft ?_ | refine gd_tf ?_ | refine gd_i ?_ | refine pk_t ?_ | refine pk_f ?_ | refine br_t ?_ | refine br_f ?_))
   | (with_reducible ((first | apply st_bin | apply st_len | apply st_conv); intro k' hk; simp [go_sem, thenR_ok, bin]; refine hk _ _ ?_; clear hk k'))
   | ((with_reducible (first | apply tk_bin)); (· intro w; simp [go_sem, bin]; rfl)))
  rw [show decide ((l.length : Int) < 1) = false by simp; omega]
  repeat with_reducible refine mv.mk ?_
  refine gd_i ?_
  refine mv.mk ?_
  refine gd_i ?_
  refine st_of (hlen w) ?_
  repeat (first
   | (with_reducible (first | refine st_lens ?_ | refine mv.mk ?_ | refine gd_u ?_ | refine gd_ft ?_ | refine gd_tf ?_ | refine gd_i ?_ | refine pk_t ?_ | refine pk_f ?_ | refine br_t ?_ | refine br_f ?_))
   | (with_reducible ((first | apply st_bin | apply st_len | apply st_conv); intro k' hk; simp [go_sem, thenR_ok, bin]; refine hk _ _ ?_; clear hk k'))
   | ((with_reducible (first | apply tk_bin)); (· intro w; simp [go_sem, bin]; rfl)))
  rw [show decide ((32 : Int) < (l.length : Int)) = false by simp; omega]
  repeat (first
   | (with_reducible (first | refine st_lens ?_ | refine mv.mk ?_ | refine gd_u ?_ | refine gd_ft ?_ | refine gd_tf ?_ | refine gd_i ?_ | refine pk_t ?_ | refine pk_f ?_ | refine br_t ?_ | refine br_f ?_))
   | (with_reducible ((first | apply st_bin | apply st_len | apply st_conv); intro k' hk; simp [go_sem, thenR_ok, bin]; refine hk _ _ ?_; clear hk k'))
   | ((with_reducible (first | apply tk_bin)); (· intro w; simp [go_sem, bin]; rfl)))
  refine lp_by (fun us w' => ∃ (i : Nat) (v1 y6 y7 : Value), us = [v1, .int .i64 ((restS (digsB (l.take i)) : Nat) : Int), .int .i64 (i : Int), y6, y7] ∧ i ≤ l.length ∧ Isk.Sep b w' (rowI v1 T.int 1 (2 * i) (ints (digsB (l.take i))) :: L)) (fun us _ => match us with | [_, _, .int _ i, _, _] => (l.length - i).toNat | _ => 0) ⟨0, _, undef, undef, rfl, Nat.zero_le _, hs.row0 T.int 1⟩ ?_
  clear hs
  rintro x1 w ⟨i, v1, y6, y7, hx1, hi, hs⟩
  simp only [List.cons.injEq, and_true] at hx1
  simp only [hx1.1, hx1.2.1, hx1.2.2.1, hx1.2.2.2.1, hx1.2.2.2.2]
  have hrl := restS_le (digsB (l.take i))
  rw [digsB_len, List.length_take] at hrl
  repeat with_reducible refine mv.mk ?_
  refine st_of (hlen w) ?_
  repeat (first
   | (with_reducible (first | refine st_lens ?_ | refine mv.mk ?_ | refine gd_u ?_ | refine gd_ft ?_ | refine gd_tf ?_ | refine gd_i ?_ | refine pk_t ?_ | refine pk_f ?_ | refine br_t ?_ | refine br_f ?_))
   | (with_reducible ((first | apply st_bin | apply st_len | apply st_conv); intro k' hk; simp [go_sem, thenR_ok, bin]; refine hk _ _ ?_; clear hk k'))
   | ((with_reducible (first | apply tk_bin)); (· intro w; simp [go_sem, bin]; rfl)))
  refine br_split (fun hq => ?_) (fun hq => ?_)
  · have hq := of_decide_eq_true hq
    have hil : i < l.length := by omega
    have hcl := l[i].toNat_lt
    replace hs := hs.drew
    have hB := (hs.get (.tl hm)).1
    repeat with_reducible refine mv.mk ?_
    refine tk_byte hB hil ?_
    refine tk_at (w_quo8 _) (tk_at (w_toI _ (by omega)) ?_)
    repeat with_reducible refine mv.mk ?_
    refine tk_byte hB hil ?_
    refine tk_at (w_rem8 _) (tk_at (w_toI _ (by omega)) ?_)
    repeat with_reducible refine mv.mk ?_
    refine sp_ints (ls := [l[i].toNat / 16, l[i].toNat % 16]) hs rfl (by simp) (by simp) fun u w hs => ?_
    refine sp_app hs (.tl .hd) tInts (m := 2) .sl (ints_one _) (by omega) (by omega) fun v2 w hs => ?_
    repeat with_reducible refine mv.mk ?_
    refine sn_add (by omega) ?_
    repeat with_reducible refine mv.mk ?_
    refine sn_sub (by omega) ?_
    repeat with_reducible refine mv.mk ?_
    refine sn_sub (by omega) ?_
    repeat with_reducible refine mv.mk ?_
    refine sn_add (by omega) ?_
    repeat with_reducible refine mv.mk ?_
    have e : digsB (l.take (i + 1)) = digsB (l.take i) ++ [l[i].toNat / 16, l[i].toNat % 16] := by
      rw [List.take_succ_eq_append_getElem hil, digsB_push]
    have e2 : ints (digsB (l.take i)) ++ ints [l[i].toNat / 16, l[i].toNat % 16] = ints (digsB (l.take (i + 1))) := by rw [e]; simp [ints]
    rw [e2, show 2 * i + 2 = 2 * (i + 1) by omega] at hs
    refine ⟨⟨i + 1, v2, .int .i64 ((l[i].toNat / 16 : Nat) : Int), .int .i64 ((l[i].toNat % 16 : Nat) : Int), ?_, by omega, hs.sbl (.cons .hd (.drop .all))⟩, ?_⟩
    · have e3 : restS (digsB (l.take (i + 1))) = restS (digsB (l.take i)) + (15 - l[i].toNat / 16) + (15 - l[i].toNat % 16) := by
        rw [e, show [l[i].toNat / 16, l[i].toNat % 16] = [l[i].toNat / 16] ++ [l[i].toNat % 16] from rfl, ← List.append_assoc, restS_push, restS_push]
      rw [e3]
      simp only [List.cons.injEq, and_true, true_and, Value.int.injEq]
      refine ⟨?_, by omega⟩
      omega
    · show ((l.length : Int) - ((i + 1 : Nat) : Int)).toNat < ((l.length : Int) - (i : Int)).toNat
      omega
  · have hq := of_decide_eq_false hq
    have hie : i = l.length := by omega
    subst hie
    rw [List.take_length] at hs hrl ⊢
    have hr1 : restS (digsB l) < 1000000 := by omega
    repeat with_reducible refine mv.mk ?_
    refine st_of (w_quoI (d := 256) w hr1 (by decide)) ?_
    refine st_of (w_remI (d := 16) w (Nat.lt_of_le_of_lt (Nat.div_le_self _ _) hr1) (by decide)) ?_
    repeat with_reducible refine mv.mk ?_
    refine st_of (w_quoI (d := 16) w hr1 (by decide)) ?_
    refine st_of (w_remI (d := 16) w (Nat.lt_of_le_of_lt (Nat.div_le_self _ _) hr1) (by decide)) ?_
    repeat with_reducible refine mv.mk ?_
    refine st_of (w_remI (d := 16) w hr1 (by decide)) ?_
    refine sp_ints (ls := [restS (digsB l) / 256 % 16, restS (digsB l) / 16 % 16, restS (digsB l) % 16]) hs rfl (by simp) (by simp) fun u w hs => ?_
    refine sp_app hs (.tl .hd) tInts (m := 3) .sl (ints_one _) (by omega) (by omega) fun v2 w hs => ?_
    repeat with_reducible refine mv.mk ?_
    have e2 : ints (digsB l) ++ ints [restS (digsB l) / 256 % 16, restS (digsB l) / 16 % 16, restS (digsB l) % 16] = ints (digitsB l) := by simp [ints, digitsB]
    rw [e2] at hs
    exact hs.sbl (.cons .hd (.drop .all))
end
end Go.Proofs.YtlfelmikcdmkhaaGreatDoor
set_option linter.unusedVariables false
set_option linter.unusedSimpArgs false
set_option linter.unusedSectionVars false
namespace Go.Proofs.YtlfelmikcdmkhaaGreatDoor
open Go Go.Isk Go.RowKit
set_option maxRecDepth 20000
section
variable {P : Program} {b : Base} {w : World} {L R : List It} {g : Nat} {v sv dv : Value} {cs : List Value} {l sig d : Bytes} {k : Value → World → Prop}
theorem sp_Uint {n : Nat} (hs : Isk.Sep b w L) (hm : Ins L (byF v l).it) (hn : n < 18446744073709551616) (hl : l.length + 10 ≤ 2147483648) :
    C Tryz.prog N.isthmusref02_Uint #[v, .int .u64 (n : Int)] w fun r w' => Isk.Sep b w' ((byF r (l ++ encU n)).it :: L) :=
  (isthmusref02_Uint (hs.get hm).1 hn hl).mono fun r w' h => newB_sep hs h.b
theorem sp_HashW {h : Bytes} (hs : Isk.Sep b w L) (hm : Ins L (byF v l).it) (hh : h.length = 32) (hl : l.length + 32 ≤ 2147483648) :
    C Tryz.prog N.isthmusref02_Hash #[v, .agg (u8s h).toArray] w fun r w' => Isk.Sep b w' ((byF r (l ++ h)).it :: L) :=
  (isthmusref02_Hash (hs.get hm).1 hh hl).mono fun r w' h => newB_sep hs h.b
theorem isthmusref05_Step {x : Bytes} {leaf chain f to : Nat} (hs : Isk.Sep b w L) (hx : x.length = 32) (hl : leaf < 1024) (hc : chain < 1024) (hf : f ≤ 15) (ht : to < 4294967296) :
    C Tryz.prog N.isthmusref05_Step #[.agg (u8s x).toArray, .int .i64 (leaf : Int), .int .i64 (chain : Int), .int .i64 (f : Int), .int .i64 (to : Int)] w fun r w' => r = .agg (u8s (stepB x leaf chain f to)).toArray ∧ Isk.Sep b w' L := by
  have l1 := encU_two (n := leaf) (by omega)
  have l2 := encU_two (n := chain) (by omega)
  refine C.isthmusref05_Step ?_
  unfold F.isthmusref05_Step
  refine sp_boxa hs fun g5 w hs => ?_
  refine sp_newr hs (by kernel_rfl) fun g10 w hs => ?_
  repeat (first
   | (with_reducible (first | refine mv.mk ?_ | refine gd_u ?_ | refine gd_ft ?_ | refine gd_tf ?_ | refine gd_i ?_ | refine pk_t ?_ | refine pk_f ?_ | refine br_t ?_ | refine br_f ?_ | refine sp_boxa hs fun g w hs => ?_))
   | (with_reducible ((first | apply st_bin | apply st_conv | apply st_max); intro k' hk; simp [go_sem, thenR_ok, bin]; refine hk _ _ ?_; clear hk k'))
   | ((with_reducible apply sp_newr hs); (· kernel_rfl); intro g w hs))
  rw [if_neg (show ¬ (f : Int) < 0 by omega)]
  refine lp_by (fun us w' => ∃ (i : Nat) (y : Value), us = [.int .i64 (i : Int), y] ∧ f ≤ i ∧ (i = f ∨ i ≤ min to 15) ∧ Isk.Sep b w' (blkI g5 T.api_Hash (u8s (stepsB leaf chain f (i - f) x)) :: resI Tryz.prog g10 T.api_Hash :: L)) (fun us _ => match us with | [.int _ i, _] => (15 - i).toNat | _ => 0) ⟨f, undef, rfl, Nat.le_refl _, .inl rfl, by
    rw [Nat.sub_self]
    exact hs.sbl (.cons (.tl .hd) (.cons .hd .all))⟩ ?_
  clear hs w
  rintro x1 w ⟨i, y, hx1, h1, h2, hs⟩
  simp only [List.cons.injEq, and_true] at hx1
  simp only [hx1.1, hx1.2]
  have hlenS : (stepsB leaf chain f (i - f) x).length = 32 := stepsB_len _ _ _ _ _ hx
  have hend : ¬ (i < to ∧ i < 15) → ∀ w, Isk.Sep b w (blkI g5 T.api_Hash (u8s (stepsB leaf chain f (i - f) x)) :: resI Tryz.prog g10 T.api_Hash :: L) →
      o1 Tryz.prog (Instr.loadAt T.api_Hash (.pointer (some ⟨g5, 0, none⟩))) w fun t38 w => o0 Tryz.prog (Instr.storeAt T.api_Hash (.pointer (some ⟨g10, 0, none⟩)) t38) w fun _ w =>
        rc Tryz.prog T.api_Hash (.pointer (some ⟨g10, 0, none⟩)) w fun r => r = .agg (u8s (stepB x leaf chain f to)).toArray ∧ Isk.Sep b w L := by
    intro hn w hs
    refine sp_loadall hs .hd (by kernel_rfl) ((u8s_length _).trans hlenS) ?_
    refine sp_ret (K := fun r w => r = .agg (u8s (stepB x leaf chain f to)).toArray ∧ Isk.Sep b w L) hs (.tl .hd) (by kernel_rfl) ((u8s_length _).trans hlenS) (u8s_one _) fun w hs => ?_
    have e : i - f = min to 15 - f := by omega
    rw [stepB, ← e]
    exact ⟨rfl, hs.drop .hd⟩
  repeat (first
   | (with_reducible (first | refine mv.mk ?_ | refine gd_u ?_ | refine gd_ft ?_ | refine gd_tf ?_ | refine gd_i ?_ | refine pk_t ?_ | refine pk_f ?_ | refine br_t ?_ | refine br_f ?_ | refine sp_boxa hs fun g w hs => ?_))
   | (with_reducible ((first | apply st_bin | apply st_conv | apply st_max); intro k' hk; simp [go_sem, thenR_ok, bin]; refine hk _ _ ?_; clear hk k'))
   | ((with_reducible apply sp_newr hs); (· kernel_rfl); intro g w hs))
  by_cases c1 : i < to
  rotate_left
  · rw [decide_eq_false c1]
    repeat (first
     | (with_reducible (first | refine mv.mk ?_ | refine gd_u ?_ | refine gd_ft ?_ | refine gd_tf ?_ | refine gd_i ?_ | refine pk_t ?_ | refine pk_f ?_ | refine br_t ?_ | refine br_f ?_ | refine sp_boxa hs fun g w hs => ?_))
     | (with_reducible ((first | apply st_bin | apply st_conv | apply st_max); intro k' hk; simp [go_sem, thenR_ok, bin]; refine hk _ _ ?_; clear hk k'))
     | ((with_reducible apply sp_newr hs); (· kernel_rfl); intro g w hs))
    exact hend (fun h => c1 h.1) w hs
  rw [decide_eq_true c1]
  repeat (first
   | (with_reducible (first | refine mv.mk ?_ | refine gd_u ?_ | refine gd_ft ?_ | refine gd_tf ?_ | refine gd_i ?_ | refine pk_t ?_ | refine pk_f ?_ | refine br_t ?_ | refine br_f ?_ | refine sp_boxa hs fun g w hs => ?_))
   | (with_reducible ((first | apply st_bin | apply st_conv | apply st_max); intro k' hk; simp [go_sem, thenR_ok, bin]; refine hk _ _ ?_; clear hk k'))
   | ((with_reducible apply sp_newr hs); (· kernel_rfl); intro g w hs))
  by_cases c2 : i < 15
  rotate_left
  · rw [show decide ((i : Int) < 15) = false by simp; omega]
    repeat (first
     | (with_reducible (first | refine mv.mk ?_ | refine gd_u ?_ | refine gd_ft ?_ | refine gd_tf ?_ | refine gd_i ?_ | refine pk_t ?_ | refine pk_f ?_ | refine br_t ?_ | refine br_f ?_ | refine sp_boxa hs fun g w hs => ?_))
     | (with_reducible ((first | apply st_bin | apply st_conv | apply st_max); intro k' hk; simp [go_sem, thenR_ok, bin]; refine hk _ _ ?_; clear hk k'))
     | ((with_reducible apply sp_newr hs); (· kernel_rfl); intro g w hs))
    exact hend (fun h => c2 h.2) w hs
  rw [show decide ((i : Int) < 15) = true by simp; omega]
  clear hend
  have l3 := encU_two (n := i) (by omega)
  refine br_t ?_
  refine sp_row1 (c := 3) hs fun u w hs => ?_
  replace hs := hs.rowB .hd
  repeat with_reducible refine mv.mk ?_
  refine st_of (n_u w (by kernel_rfl) (by kernel_rfl) (by omega)) ?_
  refine cl (sp_Uint hs .hd (by omega) (by simp)) ?_
  rintro v1 w hs
  repeat with_reducible refine mv.mk ?_
  refine st_of (n_u w (by kernel_rfl) (by kernel_rfl) (by omega)) ?_
  refine cl (sp_Uint hs .hd (by omega) (by simp; omega)) ?_
  rintro v2 w hs
  repeat with_reducible refine mv.mk ?_
  refine st_of (n_u w (by kernel_rfl) (by kernel_rfl) (by omega)) ?_
  refine cl (sp_Uint hs .hd (by omega) (by simp; omega)) ?_
  rintro v3 w hs
  repeat with_reducible refine mv.mk ?_
  refine sp_loadall hs (.tl (.tl (.tl (.tl .hd)))) (by kernel_rfl) ((u8s_length _).trans hlenS) ?_
  refine cl (sp_HashW hs .hd hlenS (by simp; omega)) ?_
  rintro v4 w hs
  refine cl (isthmusref01_Sum hs .hd (by simp [hlenS]; omega)) ?_
  rintro _ w ⟨rfl, hs⟩
  have hmx : shaB (([3] : Bytes) ++ encU leaf ++ encU chain ++ encU i ++ stepsB leaf chain f (i - f) x) = next1 leaf chain i (stepsB leaf chain f (i - f) x) := by rw [next1]; simp
  rw [hmx]
  refine sp_all (ds := u8s (next1 leaf chain i (stepsB leaf chain f (i - f) x))) hs (.tl (.tl (.tl (.tl (.tl .hd))))) (by kernel_rfl) ((u8s_length _).trans hlenS) ((u8s_length _).trans (shaB_len _)) (u8s_one _) fun w hs => ?_
  repeat with_reducible refine mv.mk ?_
  refine sn_add (by omega) ?_
  repeat with_reducible refine mv.mk ?_
  refine ⟨⟨i + 1, _, rfl, by omega, .inr (by omega), ?_⟩, ?_⟩
  · rw [show i + 1 - f = (i - f) + 1 by omega, stepsB_last, show f + (i - f) = i by omega]
    exact hs.sbl (.cons .hd (.drop (.drop (.drop (.drop (.drop .all))))))
  · show (15 - ((i + 1 : Nat) : Int)).toNat < (15 - (i : Int)).toNat
    omega
end
end Go.Proofs.YtlfelmikcdmkhaaGreatDoor
set_option linter.unusedVariables false
set_option linter.unusedSimpArgs false
set_option linter.unusedSectionVars false
namespace Go.Proofs.YtlfelmikcdmkhaaGreatDoor
open Go Go.Isk Go.RowKit
set_option maxRecDepth 20000
section
variable {P : Program} {b : Base} {w : World} {L R : List It} {g : Nat} {v sv dv : Value} {cs : List Value} {l sig d : Bytes} {k : Value → World → Prop}
theorem tk_int {ls : List Nat} {n i x : Nat} {S : World → Prop} {kt : Value → Prop} (hS : ∀ w, S w → Mayr L w) (hr : Rds L v n 1 (ints ls)) (hi : i < n) (hx : ls[i]? = some x) (hk : kt (.int .i64 (x : Int))) :
    tk Tryz.prog S (Instr.indexAt T.sl_int v (.int .i64 (i : Nat))) fun a => tk Tryz.prog S (Instr.loadAt T.int a) kt := by
  by_cases h : ∃ w, S w
  · obtain ⟨w0, h0⟩ := h
    obtain ⟨A, c, rfl, hc, hl, hr'⟩ := (hS w0 h0).reads hr
    obtain ⟨g, o, rfl, _⟩ := hr' (by omega)
    refine tx_sl tInts i rfl hi (tk_of (.int .i64 (x : Int)) (fun w hw => load_one tOneI ?_) hk)
    obtain ⟨A', c', e, _, _, hr2⟩ := (hS w hw).reads hr
    obtain ⟨g', o', e', hr3⟩ := hr2 (by omega)
    subst e'
    simp only [Value.slice.injEq, Option.some.injEq, Addr.mk.injEq] at e
    obtain ⟨⟨rfl, rfl, _⟩, _⟩ := e
    exact hr3 i (.int .i64 (x : Int)) (by simp [ints, hx])
  · exact tk_of undef (fun w hw => (h ⟨w, hw⟩).elim) (tk_of _ (fun w hw => (h ⟨w, hw⟩).elim) hk)
theorem isthmusref05_From {leaf : Int} (hs : Isk.Sep b w L) (hm : Ins L (byF sv sig).it) (hd : Ins L (byF dv d).it) :
    C Tryz.prog N.isthmusref05_From #[sv, .int .i64 leaf, dv] w fun r w' => r = .tuple #[.agg (u8s (fromB sig leaf d).1).toArray, .int .i64 (fromB sig leaf d).2] ∧ Isk.Sep b w' L := by
  obtain ⟨A, c, hv0⟩ := bytesF_slice hs hm
  obtain ⟨A2, c2, hd0⟩ := bytesF_slice hs hd
  have hlen : ∀ w', (Builtin.len_ #[T.sl_uint8] T.int #[sv]).run Tryz.prog w' = .ok (.int .i64 sig.length) w' := fun w' => by rw [hv0]; simp [go_sem]
  have hlen2 : ∀ w', (Builtin.len_ #[T.sl_uint8] T.int #[dv]).run Tryz.prog w' = .ok (.int .i64 d.length) w' := fun w' => by rw [hd0]; simp [go_sem]
  clear hv0 hd0
  have zH : zeroT Tryz.prog T.api_Hash (u8s zero32) := zeroT_of (by kernel_rfl)
  refine C.isthmusref05_From ?_
  unfold F.isthmusref05_From
  refine sp_newr hs (by kernel_rfl) fun g6 w hs => ?_
  repeat with_reducible refine mv.mk ?_
  refine st_of (hlen2 w) ?_
  refine cl (isthmusref05_check (leaf := leaf) (n := (d.length : Int))) ?_
  rintro _ w ⟨rfl, rfl⟩
  by_cases hc : wCheck leaf d.length = 0
  rotate_left
  · rw [decide_eq_false hc]
    repeat (first
     | (with_reducible (first | refine st_lens ?_ | refine st_nels ?_ | refine mv.mk ?_ | refine br_t ?_ | refine br_f ?_))
     | (with_reducible ((first | apply st_bin | apply st_len | apply st_un); intro k' hk; simp [go_sem, thenR_ok, bin]; refine hk _ _ ?_; clear hk k'))
     | ((with_reducible (first | apply tk_bin)); (· intro w; simp [go_sem, bin]; rfl))
     | ((with_reducible apply sp_newr hs); (· kernel_rfl); intro g w hs))
    refine st_build (cells := (u8s (List.replicate 32 0)).toArray) (by kernel_rfl) ?_
    refine sp_setr (ds := u8s (List.replicate 32 0)) hs .hd (by kernel_rfl) (u8s_length _) (u8s_one _) fun w hs => mv.mk (sp_rc hs .hd (by kernel_rfl) (u8s_length _) ?_)
    rw [fromB, if_pos hc]
    exact ⟨rfl, hs.drop .hd⟩
  rw [decide_eq_true hc]
  have hok : 0 ≤ leaf ∧ leaf < 1024 ∧ digOk d.length = true := by
    unfold wCheck at hc
    split at hc
    · assumption
    · cases hc
  obtain ⟨k1, k2, k3⟩ := hok
  have k4 : 1 ≤ d.length ∧ d.length ≤ 32 := by simp [digOk] at k3; omega
  obtain ⟨lf, rfl⟩ := Int.eq_ofNat_of_zero_le k1
  repeat (first
   | (with_reducible (first | refine st_lens ?_ | refine st_nels ?_ | refine mv.mk ?_ | refine br_t ?_ | refine br_f ?_))
   | (with_reducible ((first | apply st_bin | apply st_len | apply st_un); intro k' hk; simp [go_sem, thenR_ok, bin]; refine hk _ _ ?_; clear hk k'))
   | ((with_reducible (first | apply tk_bin)); (· intro w; simp [go_sem, bin]; rfl))
   | ((with_reducible apply sp_newr hs); (· kernel_rfl); intro g w hs))
  refine cl (isthmusref05_Digits hs (.tl hd) k4.1 k4.2) ?_
  rintro ds w hs
  have hDs := hs.reads .row
  obtain ⟨A3, c3, hds0, -⟩ := id hDs
  have hlen3 : ∀ w', (Builtin.len_ #[T.sl_int] T.int #[ds]).run Tryz.prog w' = .ok (.int .i64 ((2 * d.length + 3 : Nat) : Int)) w' := fun w' => by rw [hds0]; simp [go_sem]
  clear hds0 hDs
  replace hs := hs.rowF .hd
  repeat with_reducible refine mv.mk ?_
  refine st_of (hlen w) ?_
  repeat with_reducible refine mv.mk ?_
  refine st_of (hlen3 w) ?_
  refine sn_mul (by omega) ?_
  refine st_of (n_neq _) ?_
  by_cases hl : sig.length = 32 * (2 * d.length + 3)
  rotate_left
  · rw [decide_eq_false (show ¬ (sig.length : Int) = 32 * ((2 * d.length + 3 : Nat) : Int) by omega)]
    refine br_t ?_
    refine st_build (cells := (u8s (List.replicate 32 0)).toArray) (by kernel_rfl) ?_
    refine sp_setr (ds := u8s (List.replicate 32 0)) hs (.tl .hd) (by kernel_rfl) (u8s_length _) (u8s_one _) fun w hs => mv.mk (sp_rc hs .hd (by kernel_rfl) (u8s_length _) ?_)
    rw [fromB, if_neg (by rw [hc]; decide), if_pos hl]
    exact ⟨rfl, (hs.drop .hd).drop .hd⟩
  rw [decide_eq_true (show (sig.length : Int) = 32 * ((2 * d.length + 3 : Nat) : Int) by omega)]
  refine br_f ?_
  repeat with_reducible refine mv.mk ?_
  replace hs := hs.fact (f := byF (.slice none 0 0) []) (SlS.nil 1)
  refine lp_by (fun us w' => ∃ (i : Nat) (v9 : Value), us = [v9, .int .i64 (i : Int)] ∧ i ≤ 2 * d.length + 3 ∧ Isk.Sep b w' ((byF v9 (endsB sig lf (digitsB d) i)).it :: (slF ds (2 * d.length + 3) 1 (ints (digitsB d))).it :: resI Tryz.prog g6 T.api_Hash :: L)) (fun us _ => match us with | [_, .int _ i] => (2 * d.length + 3 - i).toNat | _ => 0) ⟨0, _, rfl, Nat.zero_le _, hs⟩ ?_
  clear hs w
  rintro x1 w ⟨i, v9, hx1, hi, hs⟩
  simp only [List.cons.injEq, and_true] at hx1
  simp only [hx1.1, hx1.2]
  have hel : (endsB sig lf (digitsB d) i).length = 32 * i := endsB_len (by omega)
  repeat with_reducible refine mv.mk ?_
  refine st_of (hlen3 w) ?_
  repeat (first
   | (with_reducible (first | refine st_lens ?_ | refine st_nels ?_ | refine mv.mk ?_ | refine br_t ?_ | refine br_f ?_))
   | (with_reducible ((first | apply st_bin | apply st_len | apply st_un); intro k' hk; simp [go_sem, thenR_ok, bin]; refine hk _ _ ?_; clear hk k'))
   | ((with_reducible (first | apply tk_bin)); (· intro w; simp [go_sem, bin]; rfl))
   | ((with_reducible apply sp_newr hs); (· kernel_rfl); intro g w hs))
  refine br_split (fun hq => ?_) (fun hq => ?_)
  · have hq := of_decide_eq_true hq
    have hin : i < 2 * d.length + 3 := by omega
    have hix : i < (digitsB d).length := by rw [digitsB_len]; exact hin
    have hx15 := digitsB_lt d _ (List.getElem_mem hix)
    refine sp_newr hs (by kernel_rfl) fun g11 w hs => ?_
    replace hs := (hs.zero .hd zH).drew
    refine dr_can (R := []) hs .nil ?_
    have hpl : ((sig.drop (32 * i)).take 32).length = 32 := by rw [List.length_take, List.length_drop]; omega
    refine tk_run (sla_all tHash (by decide)) ?_
    repeat with_reducible refine mv.mk ?_
    refine tn_mul (by omega) ?_
    rw [show (32 : Int) * (i : Int) = ((32 * i : Nat) : Int) by omega]
    have hsv := hs.get (.tl (.tl (.tl (.tl hm))))
    obtain ⟨u, hu, hsl, ho⟩ := sl_from tByt hsv.1 (32 * i) (by omega) .i64
    refine tk_run hu ?_
    have hdl : (sig.drop (32 * i)).length = sig.length - 32 * i := List.length_drop
    have hud : (u8s sig).drop (32 * i * 1) = u8s (sig.drop (32 * i)) := by rw [Nat.mul_one]; simp [u8s]
    replace hs := hs.fact (f := byF u (sig.drop (32 * i))) ⟨by rw [hdl, ← hud]; exact hsl, fun h0 k hk => hsv.2 (by omega) k (ho ▸ hk)⟩
    refine sp_copy hs (.tl .hd) tByt .byt (u8s_one _) (by rw [u8s_length]; decide) fun w hs => ?_
    have e : (u8s (sig.drop (32 * i))).take 32 ++ (u8s zero32).drop (min (sig.drop (32 * i)).length 32) = u8s ((sig.drop (32 * i)).take 32) := by
      have e0 : (u8s zero32).drop 32 = [] := List.drop_of_length_le (by rw [u8s_length]; decide)
      rw [show min (sig.drop (32 * i)).length 32 = 32 by omega, e0, List.append_nil]
      simp [u8s]
    rw [e] at hs
    replace hs := hs.drew
    refine dr_can hs .all ?_
    repeat with_reducible refine mv.mk ?_
    refine tk_ldn hid (by repeat (first | with_reducible exact Rng.blk | with_reducible exact Rng.rng | with_reducible apply Rng.tl)) (by kernel_rfl) ((u8s_length _).trans hpl) ?_
    repeat with_reducible refine mv.mk ?_
    refine tk_int hid (by repeat (first | exact Rds.sl | apply Rds.tl)) hin (List.getElem?_eq_getElem hix) ?_
    refine cl (isthmusref05_Step (to := 15) hs hpl (by omega) (by omega) hx15 (by decide)) ?_
    rintro _ w ⟨rfl, hs⟩
    refine ⟨hs.mayr .all, ?_⟩
    have hvl := stepB_len (leaf := lf) (chain := i) (f := (digitsB d)[i]) (to := 15) hpl
    refine cl (sp_HashW hs (v := v9) (by repeat (first | with_reducible exact Ins.hd | with_reducible apply Ins.tl)) hvl (by omega)) ?_
    rintro v10 w hs
    refine ⟨hs.mayr (.drop .all), ?_⟩
    repeat with_reducible refine mv.mk ?_
    refine sn_add (by omega) ?_
    repeat with_reducible refine mv.mk ?_
    have e : endsB sig lf (digitsB d) i ++ stepB ((sig.drop (32 * i)).take 32) lf i (digitsB d)[i] 15 = endsB sig lf (digitsB d) (i + 1) := by
      rw [endsB_succ, List.getD_eq_getElem?_getD, List.getElem?_eq_getElem hix]
      rfl
    rw [e] at hs
    refine ⟨⟨i + 1, v10, rfl, by omega, hs.sbl (.cons .hd (.drop (.drop (.drop .all))))⟩, ?_⟩
    show (2 * (d.length : Int) + 3 - ((i + 1 : Nat) : Int)).toNat < (2 * (d.length : Int) + 3 - (i : Int)).toNat
    omega
  · have hq := of_decide_eq_false hq
    have hie : i = 2 * d.length + 3 := by omega
    subst hie
    repeat with_reducible refine mv.mk ?_
    refine cl (isthmusref01_Leaf hs .hd (by omega)) ?_
    rintro _ w ⟨rfl, hs⟩
    have ef : fromB sig lf d = (leafB (endsB sig lf (digitsB d) (2 * d.length + 3)), 0) := by
      rw [fromB, if_neg (by rw [hc]; decide), if_neg (by rw [hl]; simp)]
      rfl
    rw [ef]
    refine sp_setr (ds := u8s (leafB (endsB sig lf (digitsB d) (2 * d.length + 3)))) hs (.tl (.tl .hd)) (by kernel_rfl) ((u8s_length _).trans (shaB_len _)) (u8s_one _) fun w hs => mv.mk (sp_rc hs .hd (by kernel_rfl) ((u8s_length _).trans (shaB_len _)) ?_)
    exact ⟨rfl, hs.sbl (.drop (.drop (.drop .all)))⟩
end
end Go.Proofs.YtlfelmikcdmkhaaGreatDoor
set_option linter.unusedVariables false
set_option linter.unusedSimpArgs false
set_option linter.unusedSectionVars false
namespace Go.Proofs.YtlfelmikcdmkhaaGreatDoor
open Go Go.Isk Go.RowKit
set_option maxRecDepth 20000
/-- enough is enough -/
theorem turnsN_fuel : ∀ {f g i n : Nat}, n ≤ f → n ≤ g → i < n → turnsN f i n = turnsN g i n
  | 0, g, i, n, hf, hg, hi => by omega
  | f + 1, 0, i, n, hf, hg, hi => by omega
  | f + 1, g + 1, i, n, hf, hg, hi => by
    rw [turnsN, turnsN]
    by_cases h : 1 < n
    · rw [if_pos h, if_pos h]
      have hp := halfN_pos n
      have hlt := halfN_lt (n := n) (by omega)
      by_cases hc : halfN n ≤ i
      · rw [if_pos hc, if_pos hc, turnsN_fuel (f := f) (g := g) (by omega) (by omega) (by omega)]
      · rw [if_neg hc, if_neg hc, turnsN_fuel (f := f) (g := g) (by omega) (by omega) (by omega)]
    · rw [if_neg h, if_neg h]
theorem turnsB_step {i n : Nat} (hn : 1 < n) (hi : i < n) : turnsB i n = decide (halfN n ≤ i) :: (if halfN n ≤ i then turnsB (i - halfN n) (n - halfN n) else turnsB i (halfN n)) := by
  have hp := halfN_pos n
  have hlt := halfN_lt (n := n) (by omega)
  obtain ⟨f, rfl⟩ : ∃ f, n = f + 1 := ⟨n - 1, by omega⟩
  rw [turnsB, turnsN, if_pos hn]
  by_cases hc : halfN (f + 1) ≤ i
  · rw [if_pos hc, if_pos hc, turnsB, turnsN_fuel (f := f) (g := f + 1 - halfN (f + 1)) (by omega) (by omega) (by omega)]
  · rw [if_neg hc, if_neg hc, turnsB, turnsN_fuel (f := f) (g := halfN (f + 1)) (by omega) (by omega) (by omega)]
theorem turnsB_one (i : Nat) : turnsB i 1 = [] := by rw [turnsB, turnsN, if_neg (by omega)]
theorem foldK_cons {leaf : Bytes} {t : Bool} {r : List Bool} {path : List Bytes} {m : Nat} : ∀ (k : Nat), k ≤ r.length → k ≤ m → foldK leaf (t :: r) path k = foldK leaf r (path.take m) k
  | 0, _, _ => rfl
  | k + 1, h, hm => by
    rw [foldK, foldK, foldK_cons (m := m) k (by omega) (by omega)]
    have e1 : (t :: r).getD ((t :: r).length - 1 - k) false = r.getD (r.length - 1 - k) false := by
      rw [List.length_cons, show r.length + 1 - 1 - k = (r.length - 1 - k) + 1 by omega, List.getD_cons_succ]
    have e2 : path.getD k [] = (path.take m).getD k [] := by
      rw [List.getD_eq_getElem?_getD, List.getD_eq_getElem?_getD, List.getElem?_take, if_pos (by omega)]
    rw [e1, e2]
theorem foldK_step {leaf : Bytes} {t : Bool} {r : List Bool} {path : List Bytes} (h : path.length = r.length + 1) : foldK leaf (t :: r) path path.length = if t = true then nodeB (path.getD r.length []) (foldK leaf r (path.take r.length) (path.take r.length).length) else nodeB (foldK leaf r (path.take r.length) (path.take r.length).length) (path.getD r.length []) := by
  rw [h, foldK, foldK_cons (m := r.length) r.length (Nat.le_refl _) (Nat.le_refl _), List.length_cons, show r.length + 1 - 1 - r.length = 0 by omega, show (path.take r.length).length = r.length by rw [List.length_take]; omega]
  rfl
section
variable {P : Program} {b : Base} {w : World} {L R : List It} {g : Nat} {v sv dv : Value} {cs : List Value} {l leaf : Bytes} {path : List Bytes} {k : Value → World → Prop} {α : Type} {F : Fam α} {sz : Nat} {ls : List α}
theorem slto_el {T E by_ : Nat} (h : Isk.Sep b w L) (hm : Ins L (listF F sz sv ls).it) (hT : slT P T E sz by_ = true) (i : Nat) (hi : i ≤ ls.length) (q : IntKind) :
    ∃ v, (∀ w', (Instr.sliceAt T sv none (some (.int q (i : Nat))) none).run P w' = .ok v w') ∧ Isk.Sep b w ((listF F sz v (ls.take i)).it :: L) := by
  obtain ⟨xss, h1, h2, h3⟩ := h.get hm
  obtain ⟨v', hr, hs, ho⟩ := sl_to hT h3.1 i hi q
  refine ⟨v', hr, h.fact ⟨xss.take i, h1.take i, fun x hx => h2 x (List.mem_of_mem_take hx), ?_, fun hn k hk => ?_⟩⟩
  · rw [flatten_take i h2 (by rw [h1.1]; exact hi), show (ls.take i).length = i by simp; omega]; exact hs
  · refine h3.2 (Nat.lt_of_lt_of_le hn (Nat.mul_le_mul_right _ (by rw [List.length_take]; exact Nat.min_le_right _ _))) k (ho ▸ hk)
theorem isthmusref01_Steps {i0 n0 : Nat} (hi0 : i0 < n0) (hn0 : n0 ≤ 65536) : C Tryz.prog N.isthmusref01_Steps #[.int .i64 (i0 : Int), .int .i64 (n0 : Int)] w fun r w' => r = .int .i64 ((turnsB i0 n0).length : Int) ∧ w' = w := by
  refine C.isthmusref01_Steps ?_
  unfold F.isthmusref01_Steps
  repeat with_reducible refine mv.mk ?_
  refine lp_by (fun us w' => ∃ (i n s : Nat) (y : Value), us = [.int .i64 (i : Int), .int .i64 (n : Int), .int .i64 (s : Int), y] ∧ s + (turnsB i n).length = (turnsB i0 n0).length ∧ i < n ∧ n ≤ n0 ∧ w' = w) (fun us _ => match us with | [_, .int _ n, _, _] => n.toNat | _ => 0) ⟨i0, n0, 0, undef, rfl, by omega, hi0, Nat.le_refl _, rfl⟩ ?_
  rintro x1 w' ⟨i, n, s, y, hx1, he, hi, hn, rfl⟩
  simp only [List.cons.injEq, and_true] at hx1
  simp only [hx1.1, hx1.2.1, hx1.2.2.1, hx1.2.2.2]
  have hlen : (turnsB i0 n0).length ≤ 65536 := Nat.le_trans (turnsN_len n0 i0 n0) hn0
  repeat (first
   | (with_reducible (first | refine mv.mk ?_ | refine br_t ?_ | refine br_f ?_))
   | (with_reducible ((first | apply st_bin); intro k' hk; simp [go_sem, thenR_ok, bin]; refine hk _ _ ?_; clear hk k')))
  refine br_split (fun hq => ?_) (fun hq => ?_)
  · have hq := of_decide_eq_true hq
    have hn2 : 2 ≤ n := by omega
    repeat with_reducible refine mv.mk ?_
    refine cl (isthmusref01_split hn2 (by omega)) ?_
    rintro _ w ⟨rfl, rfl⟩
    have hp := halfN_pos n
    have hlt := halfN_lt hn2
    have hls : ∀ (o1 o2 : Operand), (bin .lss T.int o1 o2 (.int .i64 (i : Int)) (.int .i64 (halfN n : Nat))).run Tryz.prog w = .ok (.bool (decide (i < halfN n))) w := fun o1 o2 => by
      simp [go_sem, bin]
    rw [turnsB_step (by omega) hi, List.length_cons] at he
    repeat with_reducible refine mv.mk ?_
    refine st_of (hls _ _) ?_
    refine jn_in ?_
    by_cases hc : halfN n ≤ i
    · rw [if_pos hc] at he
      rw [decide_eq_false (by omega)]
      refine br_f ?_
      repeat with_reducible refine mv.mk ?_
      refine sn_sub (by omega) ?_
      repeat with_reducible refine mv.mk ?_
      refine sn_sub (by omega) ?_
      repeat with_reducible refine mv.mk ?_
      rintro x2 hx2
      simp only [List.cons.injEq, and_true] at hx2
      simp only [hx2.1, hx2.2]
      repeat with_reducible refine mv.mk ?_
      refine sn_add (by omega) ?_
      repeat with_reducible refine mv.mk ?_
      refine ⟨⟨i - halfN n, n - halfN n, s + 1, _, by rw [Int.ofNat_sub hc, Int.ofNat_sub (Nat.le_of_lt hlt)]; rfl, by omega, by omega, by omega, rfl⟩, ?_⟩
      show ((n : Int) - (halfN n : Int)).toNat < (n : Int).toNat
      omega
    · rw [if_neg hc] at he
      rw [decide_eq_true (by omega)]
      refine br_t ?_
      repeat with_reducible refine mv.mk ?_
      rintro x2 hx2
      simp only [List.cons.injEq, and_true] at hx2
      simp only [hx2.1, hx2.2]
      repeat with_reducible refine mv.mk ?_
      refine sn_add (by omega) ?_
      repeat with_reducible refine mv.mk ?_
      refine ⟨⟨i, halfN n, s + 1, _, rfl, by omega, by omega, by omega, rfl⟩, ?_⟩
      show (halfN n : Int).toNat < (n : Int).toNat
      omega
  · have hq := of_decide_eq_false hq
    have hn1 : n = 1 := by omega
    subst hn1
    rw [turnsB_one] at he
    repeat with_reducible refine mv.mk ?_
    exact ⟨by rw [← he]; rfl, rfl⟩
theorem isthmusref01_fold : ∀ (f : Nat) {b : Base} {w : World} {L : List It} {i n : Nat} {path : List Bytes} {sv : Value}, n ≤ f → n ≤ 65536 → i < n → leaf.length = 32 → Isk.Sep b w L → Ins L (listF hshF 32 sv path).it → path.length = (turnsB i n).length →
    C Tryz.prog N.isthmusref01_fold #[.agg (u8s leaf).toArray, .int .i64 (i : Int), .int .i64 (n : Int), sv] w fun r w' => r = .agg (u8s (foldK leaf (turnsB i n) path path.length)).toArray ∧ Isk.Sep b w' L
  | 0, _, _, _, i, n, _, _, h, _, hi, _, _, _, _ => by omega
  | f + 1, b, w, L, i, n, path, sv, hf, hn, hi, hl, hs, hm, hpl => by
    have hpb : path.length ≤ 65536 := by rw [hpl]; exact Nat.le_trans (turnsN_len n i n) hn
    obtain ⟨A, c, hsv⟩ := hs.lst_len hm.lst
    have hlen : ∀ w', (Builtin.len_ #[T.sl_api_Hash] T.int #[sv]).run Tryz.prog w' = .ok (.int .i64 path.length) w' := fun w' => by rw [hsv]; simp [go_sem]
    clear hsv
    refine C.isthmusref01_fold ?_
    unfold F.isthmusref01_fold
    refine sp_boxa hs fun g4 w hs => ?_
    refine sp_newr hs (by kernel_rfl) fun g8 w hs => ?_
    repeat (first
     | (with_reducible (first | refine st_lens ?_ | refine st_eqls ?_ | refine mv.mk ?_ | refine br_t ?_ | refine br_f ?_ | refine sp_boxa hs fun g w hs => ?_))
     | (with_reducible ((first | apply st_bin | apply st_len); intro k' hk; simp [go_sem, thenR_ok, bin]; refine hk _ _ ?_; clear hk k'))
     | ((with_reducible (first | apply tk_bin)); (· intro w; simp [go_sem, bin]; rfl))
     | ((with_reducible apply sp_newr hs); (· kernel_rfl); intro g w hs))
    by_cases h1 : n = 1
    · subst h1
      rw [turnsB_one] at hpl ⊢
      rw [show (((1 : Nat) : Int) == 1) = true from rfl]
      refine br_t ?_
      refine sp_loadall hs (.tl .hd) (by kernel_rfl) ((u8s_length _).trans hl) ?_
      refine sp_ret hs .hd (by kernel_rfl) ((u8s_length _).trans hl) (u8s_one _) fun w hs => ?_
      rw [hpl]
      exact ⟨rfl, hs.drop .hd⟩
    rw [show ((n : Int) == 1) = false by simp; omega]
    have hp := halfN_pos n
    have hlt := halfN_lt (n := n) (by omega)
    rw [turnsB_step (by omega) hi] at hpl ⊢
    rw [List.length_cons] at hpl
    refine br_f ?_
    repeat with_reducible refine mv.mk ?_
    refine cl (isthmusref01_split (n := n) (by omega) (by omega)) ?_
    rintro _ w ⟨rfl, rfl⟩
    repeat with_reducible refine mv.mk ?_
    refine st_of (hlen w) ?_
    refine sn_sub (by omega) ?_
    repeat with_reducible refine mv.mk ?_
    have hls : ∀ (o1 o2 : Operand), (bin .lss T.int o1 o2 (.int .i64 (i : Int)) (.int .i64 (halfN n : Nat))).run Tryz.prog w = .ok (.bool (decide (i < halfN n))) w := fun o1 o2 => by
      simp [go_sem, bin]
    refine st_of (hls _ _) ?_
    rw [show (path.length : Int) - 1 = ((path.length - 1 : Nat) : Int) by omega]
    have hlast : path.length - 1 < path.length := by omega
    obtain ⟨g3, o3, xs, hrun, hxl, hs⟩ := hs.drew.el (F := hshF) (sv := sv) (ls := path) (.tl (.tl hm)) tHashes (path.length - 1) hlast
    obtain ⟨ps, hps, hs⟩ := slto_el hs (F := hshF) (sv := sv) (ls := path) (.tl (.tl (.tl (.tl hm)))) tHashes (path.length - 1) (by omega) .i64
    obtain ⟨hxs, hpl32⟩ : xs = u8s (path[path.length - 1]'hlast) ∧ (path[path.length - 1]'hlast).length = 32 := hs.get (I := (hshF xs _).it) (.tl (.tl .hd))
    subst hxs
    have hgd : path.getD (path.length - 1) [] = path[path.length - 1]'hlast := by rw [List.getD_eq_getElem?_getD, List.getElem?_eq_getElem hlast]; rfl
    generalize path[path.length - 1]'hlast = pe at hs hpl32 hgd
    have htl : (path.take (path.length - 1)).length = path.length - 1 := by rw [List.length_take]; omega
    by_cases hc : halfN n ≤ i
    · rw [if_pos hc] at hpl ⊢
      rw [decide_eq_false (show ¬ i < halfN n by omega), decide_eq_true hc]
      refine br_f ?_
      refine dr_can hs .all ?_
      repeat with_reducible refine mv.mk ?_
      refine tk_run (hrun .i64) ?_
      refine tk_ldn hid (by repeat (first | with_reducible exact Rng.blk | with_reducible exact Rng.rng | with_reducible apply Rng.tl)) (by kernel_rfl) ((u8s_length _).trans hpl32) ?_
      refine tk_ldn hid (by repeat (first | with_reducible exact Rng.blk | with_reducible exact Rng.rng | with_reducible apply Rng.tl)) (by kernel_rfl) ((u8s_length _).trans hl) ?_
      repeat with_reducible refine mv.mk ?_
      refine tn_sub (by omega) ?_
      repeat with_reducible refine mv.mk ?_
      refine tn_sub (by omega) ?_
      repeat with_reducible refine mv.mk ?_
      refine tk_run hps ?_
      rw [show (i : Int) - (halfN n : Int) = ((i - halfN n : Nat) : Int) by omega, show (n : Int) - (halfN n : Int) = ((n - halfN n : Nat) : Int) by omega]
      refine cl (isthmusref01_fold f (i := i - halfN n) (n := n - halfN n) (path := path.take (path.length - 1)) (sv := ps) (by omega) (by omega) (by omega) hl hs .hd (by omega)) ?_
      rintro _ w ⟨rfl, hs⟩
      refine ⟨hs.mayr .all, ?_⟩
      have hfl := foldK_len (t := turnsB (i - halfN n) (n - halfN n)) (path := path.take (path.length - 1)) hl (path.take (path.length - 1)).length
      refine cl (isthmusref01_Node hs hpl32 hfl) ?_
      rintro _ w ⟨rfl, hs⟩
      refine ⟨hs.mayr .all, ?_⟩
      have e : nodeB pe (foldK leaf (turnsB (i - halfN n) (n - halfN n)) (path.take (path.length - 1)) (path.take (path.length - 1)).length) = foldK leaf (true :: turnsB (i - halfN n) (n - halfN n)) path path.length := by
        rw [foldK_step hpl, if_pos rfl, ← hgd, show path.length - 1 = (turnsB (i - halfN n) (n - halfN n)).length by omega]
      rw [e]
      have hfl2 := foldK_len (t := true :: turnsB (i - halfN n) (n - halfN n)) (path := path) hl path.length
      refine sp_ret hs (by first | ((repeat (first | with_reducible exact Has.hd | with_reducible apply Has.tl)); done) | (repeat (first | exact Has.hd | with_reducible apply Has.tl))) (by kernel_rfl) ((u8s_length _).trans hfl2) (u8s_one _) fun w hs => ?_
      exact ⟨rfl, hs.sbl (by repeat (first | with_reducible exact Sbl.all | with_reducible exact Sbl.nil | refine Sbl.cons (by first | ((repeat (first | with_reducible exact Has.hd | with_reducible apply Has.tl)); done) | (repeat (first | exact Has.hd | with_reducible apply Has.tl))) ?_ | refine Sbl.drop ?_))⟩
    · rw [if_neg hc] at hpl ⊢
      rw [decide_eq_true (show i < halfN n by omega), decide_eq_false hc]
      refine br_t ?_
      refine dr_can hs .all ?_
      refine tk_ldn hid (by repeat (first | with_reducible exact Rng.blk | with_reducible exact Rng.rng | with_reducible apply Rng.tl)) (by kernel_rfl) ((u8s_length _).trans hl) ?_
      repeat with_reducible refine mv.mk ?_
      refine tk_run hps ?_
      repeat with_reducible refine mv.mk ?_
      refine tk_run (hrun .i64) ?_
      refine tk_ldn hid (by repeat (first | with_reducible exact Rng.blk | with_reducible exact Rng.rng | with_reducible apply Rng.tl)) (by kernel_rfl) ((u8s_length _).trans hpl32) ?_
      refine cl (isthmusref01_fold f (i := i) (n := halfN n) (path := path.take (path.length - 1)) (sv := ps) (by omega) (by omega) (by omega) hl hs .hd (by omega)) ?_
      rintro _ w ⟨rfl, hs⟩
      refine ⟨hs.mayr .all, ?_⟩
      have hfl := foldK_len (t := turnsB i (halfN n)) (path := path.take (path.length - 1)) hl (path.take (path.length - 1)).length
      refine cl (isthmusref01_Node hs hfl hpl32) ?_
      rintro _ w ⟨rfl, hs⟩
      refine ⟨hs.mayr .all, ?_⟩
      have e : nodeB (foldK leaf (turnsB i (halfN n)) (path.take (path.length - 1)) (path.take (path.length - 1)).length) pe = foldK leaf (false :: turnsB i (halfN n)) path path.length := by
        rw [foldK_step hpl, if_neg (by decide), ← hgd, show path.length - 1 = (turnsB i (halfN n)).length by omega]
      rw [e]
      have hfl2 := foldK_len (t := false :: turnsB i (halfN n)) (path := path) hl path.length
      refine sp_ret hs (by first | ((repeat (first | with_reducible exact Has.hd | with_reducible apply Has.tl)); done) | (repeat (first | exact Has.hd | with_reducible apply Has.tl))) (by kernel_rfl) ((u8s_length _).trans hfl2) (u8s_one _) fun w hs => ?_
      exact ⟨rfl, hs.sbl (by repeat (first | with_reducible exact Sbl.all | with_reducible exact Sbl.nil | refine Sbl.cons (by first | ((repeat (first | with_reducible exact Has.hd | with_reducible apply Has.tl)); done) | (repeat (first | exact Has.hd | with_reducible apply Has.tl))) ?_ | refine Sbl.drop ?_))⟩
theorem isthmusref01_Fold {i n : Nat} (hs : Isk.Sep b w L) (hm : Ins L (listF hshF 32 sv path).it) (hl : leaf.length = 32) (hi : i < 65536) (hn : n ≤ 65536) (hpl : path.length ≤ 65536) :
    C Tryz.prog N.isthmusref01_Fold #[.agg (u8s leaf).toArray, .int .i64 (i : Int), .int .i64 (n : Int), sv] w fun r w' => r = .tuple #[.agg (u8s (foldB leaf i n path).1).toArray, .int .i64 (foldB leaf i n path).2] ∧ Isk.Sep b w' L := by
  obtain ⟨A, c, hsv⟩ := hs.lst_len hm.lst
  have hlen : ∀ w', (Builtin.len_ #[T.sl_api_Hash] T.int #[sv]).run Tryz.prog w' = .ok (.int .i64 path.length) w' := fun w' => by rw [hsv]; simp [go_sem]
  clear hsv
  refine C.isthmusref01_Fold ?_
  unfold F.isthmusref01_Fold
  refine sp_boxa hs fun g4 w hs => ?_
  refine sp_newr hs (by kernel_rfl) fun g8 w hs => ?_
  repeat (first
   | (with_reducible (first | refine st_lens ?_ | refine st_nels ?_ | refine mv.mk ?_ | refine gd_u ?_ | refine gd_ft ?_ | refine gd_tf ?_ | refine gd_i ?_ | refine pk_t ?_ | refine pk_f ?_ | refine br_t ?_ | refine br_f ?_ | refine sp_boxa hs fun g w hs => ?_))
   | (with_reducible ((first | apply st_bin | apply st_len); intro k' hk; simp [go_sem, thenR_ok, bin]; refine hk _ _ ?_; clear hk k'))
   | ((with_reducible apply sp_newr hs); (· kernel_rfl); intro g w hs))
  rw [show decide ((i : Int) < 0) = false by simp]
  repeat (first
   | (with_reducible (first | refine st_lens ?_ | refine st_nels ?_ | refine mv.mk ?_ | refine gd_u ?_ | refine gd_ft ?_ | refine gd_tf ?_ | refine gd_i ?_ | refine pk_t ?_ | refine pk_f ?_ | refine br_t ?_ | refine br_f ?_ | refine sp_boxa hs fun g w hs => ?_))
   | (with_reducible ((first | apply st_bin | apply st_len); intro k' hk; simp [go_sem, thenR_ok, bin]; refine hk _ _ ?_; clear hk k'))
   | ((with_reducible apply sp_newr hs); (· kernel_rfl); intro g w hs))
  by_cases hc : n ≤ i
  · rw [decide_eq_true hc]
    repeat (first
     | (with_reducible (first | refine st_lens ?_ | refine st_nels ?_ | refine mv.mk ?_ | refine gd_u ?_ | refine gd_ft ?_ | refine gd_tf ?_ | refine gd_i ?_ | refine pk_t ?_ | refine pk_f ?_ | refine br_t ?_ | refine br_f ?_ | refine sp_boxa hs fun g w hs => ?_))
     | (with_reducible ((first | apply st_bin | apply st_len); intro k' hk; simp [go_sem, thenR_ok, bin]; refine hk _ _ ?_; clear hk k'))
     | ((with_reducible apply sp_newr hs); (· kernel_rfl); intro g w hs))
    refine st_build (cells := (u8s (List.replicate 32 0)).toArray) (by kernel_rfl) ?_
    refine sp_setr (ds := u8s (List.replicate 32 0)) hs .hd (by kernel_rfl) (u8s_length _) (u8s_one _) fun w hs => mv.mk (sp_rc hs .hd (by kernel_rfl) (u8s_length _) ?_)
    rw [foldB, if_pos hc]
    exact ⟨rfl, (hs.drop .hd).drop .hd⟩
  rw [decide_eq_false hc]
  repeat (first
   | (with_reducible (first | refine st_lens ?_ | refine st_nels ?_ | refine mv.mk ?_ | refine gd_u ?_ | refine gd_ft ?_ | refine gd_tf ?_ | refine gd_i ?_ | refine pk_t ?_ | refine pk_f ?_ | refine br_t ?_ | refine br_f ?_ | refine sp_boxa hs fun g w hs => ?_))
   | (with_reducible ((first | apply st_bin | apply st_len); intro k' hk; simp [go_sem, thenR_ok, bin]; refine hk _ _ ?_; clear hk k'))
   | ((with_reducible apply sp_newr hs); (· kernel_rfl); intro g w hs))
  refine st_of (hlen w) ?_
  repeat with_reducible refine mv.mk ?_
  refine cl (isthmusref01_Steps (i0 := i) (n0 := n) (by omega) hn) ?_
  rintro _ w ⟨rfl, rfl⟩
  refine st_of (n_neq _) ?_
  by_cases hc2 : (turnsB i n).length = path.length
  rotate_left
  · rw [decide_eq_false (show ¬ (path.length : Int) = ((turnsB i n).length : Int) by omega)]
    refine br_t ?_
    refine st_build (cells := (u8s (List.replicate 32 0)).toArray) (by kernel_rfl) ?_
    refine sp_setr (ds := u8s (List.replicate 32 0)) hs .hd (by kernel_rfl) (u8s_length _) (u8s_one _) fun w hs => mv.mk (sp_rc hs .hd (by kernel_rfl) (u8s_length _) ?_)
    rw [foldB, if_neg hc, if_pos hc2]
    exact ⟨rfl, (hs.drop .hd).drop .hd⟩
  rw [decide_eq_true (show (path.length : Int) = ((turnsB i n).length : Int) by omega)]
  refine br_f ?_
  refine sp_loadall hs (.tl .hd) (by kernel_rfl) ((u8s_length _).trans hl) ?_
  repeat with_reducible refine mv.mk ?_
  refine cl (isthmusref01_fold n (i := i) (n := n) (path := path) (sv := sv) (Nat.le_refl _) hn (by omega) hl hs (.tl (.tl hm)) hc2.symm) ?_
  rintro _ w ⟨rfl, hs⟩
  have hfl := foldK_len (t := turnsB i n) (path := path) hl path.length
  refine sp_setr (ds := u8s (foldK leaf (turnsB i n) path path.length)) hs .hd (by kernel_rfl) ((u8s_length _).trans hfl) (u8s_one _) fun w hs => mv.mk (sp_rc hs .hd (by kernel_rfl) ((u8s_length _).trans hfl) ?_)
  rw [foldB, if_neg hc, if_neg (by simpa using hc2)]
  exact ⟨rfl, (hs.drop .hd).drop .hd⟩
end
end Go.Proofs.YtlfelmikcdmkhaaGreatDoor
