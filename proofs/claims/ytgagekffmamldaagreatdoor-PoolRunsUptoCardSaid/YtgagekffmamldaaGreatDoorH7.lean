/- The document's pool: Add. -/
import Derived.Test.YtgagekffmamldaaGreatDoorH5
import Derived.Test.YtgagekffmamldaaGreatDoorPG
set_option linter.unusedVariables false
set_option linter.unusedSimpArgs false
set_option linter.unusedSectionVars false
namespace Go.Proofs.YtgagekffmamldaaGreatDoor
open Go Go.Isk Go.RowKit
set_option maxRecDepth 20000
def F.isthmusref18_Add_b (k : Value → World → Prop) (I1 : List Value → World → Prop) (μ1 : List Value → World → Nat) (a2 t3 t6 : Value) (x1 : Env) (w1 w : World) : Prop :=
  mv (x1 10) fun t52 =>
  mv (x1 10) fun t53 =>
  o1 Tryz.prog (Builtin.len_ #[30] 3 #[t53]) w fun t54 w =>
  o1 Tryz.prog (bin .sub 3 (.tmp 54) (.const (.int .i64 1)) t54 (.int .i64 1)) w fun t55 w =>
  o1 Tryz.prog (Instr.indexAt 30 t52 t55) w fun t56 w =>
  o1 Tryz.prog (Instr.loadAt 86 t56) w fun t57 w =>
  o1 Tryz.prog (Instr.alloc 86 true (.tuple #[])) w fun t12 w =>
  o0 Tryz.prog (Instr.storeAt 86 t12 t57) w fun _ w =>
  o1 Tryz.prog (Instr.fieldAt 86 t12 1) w fun t58 w =>
  o1 Tryz.prog (Instr.loadAt 3 t58) w fun t59 w =>
  mv a2 fun t60 =>
  o1 Tryz.prog (bin .geq 3 (.tmp 59) (.tmp 60) t59 t60) w fun t61 w =>
  br t61 (fun _ =>
  o1 Tryz.prog (Instr.loadAt 33 t3) w fun t62 w =>
  o0 Tryz.prog (Instr.storeAt 33 t6 t62) w fun _ w =>
  mv (.slice none 0 0) fun t7_4 =>
  mv (.int .i64 10) fun t8_4 =>
  rc Tryz.prog 33 t6 w fun r0 =>
  k (.tuple #[r0, t7_4, t8_4]) w) (fun _ =>
  mv (x1 11) fun t63 =>
  o1 Tryz.prog (Instr.fieldAt 86 t12 0) w fun t64 w =>
  o1 Tryz.prog (Instr.loadAt 9 t64) w fun t65 w =>
  o1 Tryz.prog (convert 9 38 t65) w fun t66 w =>
  C Tryz.prog N.isthmusref15_Hash #[t66] w fun t67 w =>
  o1 Tryz.prog (Instr.buildSlice 31 1 #[(0, t67)]) w fun t68 w =>
  ob Tryz.prog (fun _ => Builtin.append_ #[31, 31] 31 #[t63, t68]) w fun t69 w =>
  mv t69 fun t11_1 =>
  mv (x1 10) fun t70 =>
  mv (x1 10) fun t71 =>
  o1 Tryz.prog (Builtin.len_ #[30] 3 #[t71]) w fun t72 w =>
  o1 Tryz.prog (bin .sub 3 (.tmp 72) (.const (.int .i64 1)) t72 (.int .i64 1)) w fun t73 w =>
  o1 Tryz.prog (Instr.sliceAt 30 t70 none (some t73) none) w fun t74 w =>
  mv t74 fun t10_1 =>
  I1 [(x1 7), (x1 8), t10_1, t11_1] w ∧ μ1 [(x1 7), (x1 8), t10_1, t11_1] w < μ1 [x1 7, x1 8, x1 10, x1 11] w1)
def F.isthmusref18_Add_c (k : Value → World → Prop) (a1 a2 t3 t6 t9 t13 : Value) (x1 : Env) (w : World) : Prop :=
  lp [t13] w fun I2 μ2 => ∀ (x2 : Env) (w2 : World), I2 [x2 13] w2 →
  mv (x2 13) fun t75 =>
  mv (x1 10) fun t76 =>
  o1 Tryz.prog (Builtin.len_ #[30] 3 #[t76]) w2 fun t77 w =>
  o1 Tryz.prog (bin .lss 3 (.tmp 75) (.tmp 77) t75 t77) w fun t78 w =>
  mv t78 fun t79 =>
  gd t79 true (fun k11 => mv (x1 10) fun v => k11 v w) w fun t80 w =>
  gd t79 true (fun k12 => mv (x2 13) fun v => k12 v w) w fun t81 w =>
  gd t79 true (fun k13 => o1 Tryz.prog (Instr.indexAt 30 t80 t81) w k13) w fun t82 w =>
  gd t79 true (fun k14 => o1 Tryz.prog (Instr.fieldAt 86 t82 1) w k14) w fun t83 w =>
  gd t79 true (fun k15 => o1 Tryz.prog (Instr.loadAt 3 t83) w k15) w fun t84 w =>
  gd t79 true (fun k16 => mv a2 fun v => k16 v w) w fun t85 w =>
  gd t79 true (fun k17 => o1 Tryz.prog (bin .geq 3 (.tmp 84) (.tmp 85) t84 t85) w k17) w fun t86 w =>
  pk t79 t86 (.bool false) fun t87 =>
  br t87 (fun _ =>
  mv (x2 13) fun t88 =>
  o1 Tryz.prog (bin .add 3 (.tmp 88) (.const (.int .i64 1)) t88 (.int .i64 1)) w fun t89 w =>
  mv t89 fun t13_1 =>
  I2 [t13_1] w ∧ μ2 [t13_1] w < μ2 [x2 13] w2) (fun _ =>
  mv (.slice none 0 0) fun t14 =>
  mv t14 fun t90 =>
  mv (x1 10) fun t91 =>
  mv (x2 13) fun t92 =>
  o1 Tryz.prog (Instr.sliceAt 30 t91 none (some t92) none) w fun t93 w =>
  ob Tryz.prog (fun _ => Builtin.append_ #[30, 30] 30 #[t90, t93]) w fun t94 w =>
  mv a1 fun t95 =>
  mv a2 fun t96 =>
  o1 Tryz.prog (Instr.build 86 #[(0, t95), (1, t96)]) w fun t97 w =>
  o1 Tryz.prog (Instr.buildSlice 30 1 #[(0, t97)]) w fun t98 w =>
  ob Tryz.prog (fun _ => Builtin.append_ #[30, 30] 30 #[t94, t98]) w fun t99 w =>
  mv t99 fun t14_1 =>
  mv t14_1 fun t100 =>
  mv (x1 10) fun t101 =>
  mv (x2 13) fun t102 =>
  o1 Tryz.prog (Instr.sliceAt 30 t101 (some t102) none none) w fun t103 w =>
  ob Tryz.prog (fun _ => Builtin.append_ #[30, 30] 30 #[t100, t103]) w fun t104 w =>
  o1 Tryz.prog (Instr.fieldAt 33 t3 3) w fun t105 w =>
  o0 Tryz.prog (Instr.storeAt 30 t105 t104) w fun _ w =>
  o1 Tryz.prog (Instr.loadAt 33 t3) w fun t106 w =>
  o1 Tryz.prog (Instr.loadAt 43 t9) w fun t107 w =>
  C Tryz.prog N.isthmusref18_remember #[t106, t107] w fun t108 w =>
  mv (x1 11) fun t109 =>
  o0 Tryz.prog (Instr.storeAt 33 t6 t108) w fun _ w =>
  mv t109 fun t7_5 =>
  mv (.int .i64 0) fun t8_5 =>
  rc Tryz.prog 33 t6 w fun r0 =>
  k (.tuple #[r0, t7_5, t8_5]) w)
def F.isthmusref18_Add_d (k : Value → World → Prop) (a1 a2 t3 t6 t9 t14 : Value) (x1 x2 : Env) (w : World) : Prop :=
  mv t14 fun t90 =>
  mv (x1 10) fun t91 =>
  mv (x2 13) fun t92 =>
  o1 Tryz.prog (Instr.sliceAt 30 t91 none (some t92) none) w fun t93 w =>
  ob Tryz.prog (fun _ => Builtin.append_ #[30, 30] 30 #[t90, t93]) w fun t94 w =>
  mv a1 fun t95 =>
  mv a2 fun t96 =>
  o1 Tryz.prog (Instr.build 86 #[(0, t95), (1, t96)]) w fun t97 w =>
  o1 Tryz.prog (Instr.buildSlice 30 1 #[(0, t97)]) w fun t98 w =>
  ob Tryz.prog (fun _ => Builtin.append_ #[30, 30] 30 #[t94, t98]) w fun t99 w =>
  mv t99 fun t14_1 =>
  mv t14_1 fun t100 =>
  mv (x1 10) fun t101 =>
  mv (x2 13) fun t102 =>
  o1 Tryz.prog (Instr.sliceAt 30 t101 (some t102) none none) w fun t103 w =>
  ob Tryz.prog (fun _ => Builtin.append_ #[30, 30] 30 #[t100, t103]) w fun t104 w =>
  o1 Tryz.prog (Instr.fieldAt 33 t3 3) w fun t105 w =>
  o0 Tryz.prog (Instr.storeAt 30 t105 t104) w fun _ w =>
  o1 Tryz.prog (Instr.loadAt 33 t3) w fun t106 w =>
  o1 Tryz.prog (Instr.loadAt 43 t9) w fun t107 w =>
  C Tryz.prog N.isthmusref18_remember #[t106, t107] w fun t108 w =>
  mv (x1 11) fun t109 =>
  o0 Tryz.prog (Instr.storeAt 33 t6 t108) w fun _ w =>
  mv t109 fun t7_5 =>
  mv (.int .i64 0) fun t8_5 =>
  rc Tryz.prog 33 t6 w fun r0 =>
  k (.tuple #[r0, t7_5, t8_5]) w
def toR (x : ItemD) : Bytes × Int := (x.b, x.fee)
theorem sizeR_toR (l : List ItemD) : sizeR (l.map toR) = sizeP l := by
  unfold sizeR sizeP
  rw [List.map_map]
  rfl
theorem hasR_toR (p : PoolD) (h : Bytes) : hasR (p.l.map toR) h = hasP p h := by
  unfold hasR hasP
  rw [List.any_map]
  rfl
theorem knowsR_toR (p : PoolD) (h : Bytes) : knowsR (p.l.map toR) p.known h = knowsP p h := by
  unfold knowsR knowsP
  rw [hasR_toR, Bool.or_comm]
  congr 1
  induction p.known with
  | nil => rfl
  | cons a l ih =>
    rw [List.any_cons, List.any_cons, ih]
    congr 1
    rw [decide_eq_decide]
    exact eq_comm
theorem insP_at {x : ItemD} : ∀ {l : List ItemD} {i : Nat}, i ≤ l.length → (∀ j (h : j < l.length), j < i → x.fee ≤ l[j].fee) → (∀ h : i < l.length, ¬ x.fee ≤ l[i].fee) → insP x l = l.take i ++ x :: l.drop i
  | [], i, hi, h1, h2 => by
    obtain rfl : i = 0 := by simpa using hi
    rfl
  | y :: l, 0, hi, h1, h2 => by
    have := h2 (by simp)
    rw [insP, if_neg (by simpa using this)]
    rfl
  | y :: l, i + 1, hi, h1, h2 => by
    have h0 := h1 0 (by simp) (by omega)
    rw [insP, if_pos (by simpa using h0), insP_at (l := l) (i := i) (by simpa using hi) (fun j h hj => by have := h1 (j + 1) (by simpa using h) (by omega); rw [List.getElem_cons_succ] at this; exact this) (fun h => by have := h2 (by simpa using h); rw [List.getElem_cons_succ] at this; exact this)]
    rfl
def AddK (b : Base) (L : List It) (p : PoolD) (bts : Bytes) (fee : Int) (r : Value) (w' : World) : Prop := ∃ lv' kv' gv : Value, lv'.oneCell' = true ∧ kv'.oneCell' = true ∧ r = .tuple #[.agg (rpV p.txs p.bytes p.cache lv' kv').toArray, gv, .int .i64 (addP p bts fee).2.2] ∧ Isk.Sep b w' ((listF hashF 32 gv (addP p bts fee).2.1).it :: (listF ritemF 2 lv' ((addP p bts fee).1.l.map toR)).it :: (listF hashF 32 kv' (addP p bts fee).1.known).it :: L)
abbrev AddL (p : PoolD) (bts : Bytes) (lv kv : Value) (g3 g6 g9 : Nat) (L : List It) : List It := blkI g9 T.api_Hash (u8s (hB bts)) :: resI Tryz.prog g6 T.isthmusref18_Pool :: blkI g3 T.isthmusref18_Pool (rpV p.txs p.bytes p.cache lv kv) :: L
def AddJ (b : Base) (L : List It) (p : PoolD) (bts : Bytes) (fee : Int) (lv kv : Value) (g3 g6 g9 : Nat) (us : List Value) (w' : World) : Prop := ∃ (l : List ItemD) (gone : List Bytes) (v gv : Value), us = [.slice none 0 0, .int .i64 0, v, gv] ∧ (∃ m, l = p.l.take m) ∧ gone.length + l.length ≤ p.l.length ∧ roomP p bts.length fee (p.l.length + 1) p.l [] = roomP p bts.length fee (l.length + 1) l gone ∧
  Isk.Sep b w' (growI hashF T.api_Hash 32 gv gone :: (listF ritemF 2 v (l.map toR)).it :: AddL p bts lv kv g3 g6 g9 L)
def AddM (us : List Value) (_ : World) : Nat := match us with | [_, _, .slice _ m _, _] => m | _ => 0
section
variable {b : Base} {w w1 : World} {L R : List It} {g g2 g3 g4 g6 g8 g9 : Nat} {v sv lv kv bv cv e av fv tv : Value} {bts : Bytes} {p : PoolD} {nn : Nat} {fee E : Int} {x1 : Env}
theorem add_errR {k : Value → World → Prop} (hk : k = AddK b L p bts fee) (hq : addP p bts fee = (p, [], E)) (hlv : lv.oneCell' = true) (hkv : kv.oneCell' = true) (hl : Ins L (listF ritemF 2 lv (p.l.map toR)).it) (hm : Ins L (listF hashF 32 kv p.known).it) (hs : Isk.Sep b w (resI Tryz.prog g6 T.isthmusref18_Pool :: blkI g3 T.isthmusref18_Pool (rpV p.txs p.bytes p.cache lv kv) :: L)) :
    o1 Tryz.prog (Instr.loadAt T.isthmusref18_Pool (.pointer (some ⟨g3, 0, none⟩))) w fun t21 w =>
    o0 Tryz.prog (Instr.storeAt T.isthmusref18_Pool (.pointer (some ⟨g6, 0, none⟩)) t21) w fun _ w =>
    mv (.slice none 0 0) fun t7_1 =>
    mv (.int .i64 E) fun t8_1 =>
    rc Tryz.prog T.isthmusref18_Pool (.pointer (some ⟨g6, 0, none⟩)) w fun r0 =>
    k (.tuple #[r0, t7_1, t8_1]) w := by
  subst hk
  refine sp_loadall hs (.tl .hd) (by kernel_rfl) rfl ?_
  refine sp_setr (ds := rpV p.txs p.bytes p.cache lv kv) hs .hd (by kernel_rfl) rfl (rpoolC_one rfl rfl rfl hlv hkv) fun w hs => mv.mk (mv.mk (sp_rc hs .hd (by kernel_rfl) rfl ?_))
  replace hs := hs.fact (f := listF hashF 32 kv p.known) (hs.get (.tl (.tl hm)))
  replace hs := hs.fact (f := listF ritemF 2 lv (p.l.map toR)) (hs.get (.tl (.tl (.tl hl))))
  replace hs := hs.nilF hashF 32
  refine ⟨lv, kv, _, hlv, hkv, by rw [hq], ?_⟩
  rw [hq]
  exact hs.sbl (.cons .hd (.cons .hd (.cons .hd (.drop (.drop .all)))))
theorem add_b {l : List ItemD} {gone : List Bytes} {gv : Value} {A1 : Option Addr} {c1 : Nat} (ok : OkP p nn) (hlv : lv.oneCell' = true) (hkv : kv.oneCell' = true) (hl : Ins L (listF ritemF 2 lv (p.l.map toR)).it) (hm : Ins L (listF hashF 32 kv p.known).it)
    (hadd : addP p bts fee = addRes p bts fee (roomP p bts.length fee (p.l.length + 1) p.l [])) (hlm : ∃ m, l = p.l.take m) (hgl : gone.length + l.length ≤ p.l.length) (hroom : roomP p bts.length fee (p.l.length + 1) p.l [] = roomP p bts.length fee (l.length + 1) l gone)
    (hcond : p.txs < (l.length : Int) + 1 ∨ p.bytes < (sizeP l : Int) + bts.length) (hx7 : x1 7 = .slice none 0 0) (hx8 : x1 8 = .int .i64 0) (hx10 : x1 10 = .slice A1 l.length c1) (hx11 : x1 11 = gv) (hbx : ∀ x ∈ p.l, x.b.length ≤ 1048576) (hbl : bts.length ≤ p.bytes)
    (hs : Isk.Sep b w (growI hashF T.api_Hash 32 gv gone :: (listF ritemF 2 (.slice A1 l.length c1) (l.map toR)).it :: AddL p bts lv kv g3 g6 g9 L)) :
    F.isthmusref18_Add_b (AddK b L p bts fee) (AddJ b L p bts fee lv kv g3 g6 g9) AddM (.int .i64 fee) (.pointer (some ⟨g3, 0, none⟩)) (.pointer (some ⟨g6, 0, none⟩)) x1 w1 w := by
  obtain ⟨m, hlm⟩ := hlm
  have hl1 := ok.len
  have ht2 := ok.t2
  have hb2 := ok.b2
  have hsz := ok.size
  unfold F.isthmusref18_Add_b
  simp only [hx7, hx8, hx10, hx11]
  have hlp : 0 < l.length := by
    rcases Nat.eq_zero_or_pos l.length with h0 | h0
    · have hnil : l = [] := List.length_eq_zero_iff.1 h0
      have := ok.t1
      rcases hcond with hc1 | hc1
      · omega
      · rw [hnil, sizeP_nil] at hc1
        omega
    · exact h0
  have hi1 : l.length - 1 < l.length := by omega
  obtain ⟨z, hz⟩ : ∃ z, l[l.length - 1]'hi1 = z := ⟨_, rfl⟩
  have hle : z.b.length ≤ 1048576 := by
    refine hbx z ?_
    have : z ∈ l := hz ▸ List.getElem_mem hi1
    rw [hlm] at this
    exact List.mem_of_mem_take this
  repeat (first
   | (with_reducible (first | refine st_lens ?_ | refine mv.mk ?_ | refine br_t ?_ | refine br_f ?_))
   | (with_reducible ((first | apply st_bin | apply st_len | apply st_conv); intro k' hk; simp [go_sem, thenR_ok, bin]; refine hk _ _ ?_; clear hk k'))
   | ((with_reducible apply sp_newr hs); (· kernel_rfl); intro g w hs))
  rw [show IntKind.i64.wrap ((l.length : Int) - 1) = ((l.length - 1 : Nat) : Int) by simp [IntKind.wrap, IntKind.signed, IntKind.bits]; omega]
  obtain ⟨g1, o1, ys, hix, hyl, hs⟩ := hs.el (P := Tryz.prog) (T := T.sl_isthmusref18_Item) (.tl .hd) riT (l.length - 1) (by rw [List.length_map]; omega)
  have hy : ys = ritemC (str z.b) (.int .i64 z.fee) := by
    have h1 := hs.get (.tl .hd)
    rw [List.getElem_map, hz] at h1
    exact h1
  subst hy
  refine st_of (hix .i64 w) ?_
  refine sp_ldn hs .rng (by kernel_rfl) rfl ?_
  refine sp_newr hs (by kernel_rfl) fun g5 w hs => ?_
  refine sp_setr (ds := ritemC (str z.b) (.int .i64 z.fee)) hs .hd (by kernel_rfl) rfl (ritemC_one rfl rfl) fun w hs => ?_
  have hHy := hB_len z.b
  repeat (first
   | (with_reducible refine ritem.a0 ?_)
   | ((with_reducible apply ritem.r0 hs); (· (with_reducible (repeat (first | exact .blk | exact .rng | apply Rng.tl)))))
   | (with_reducible refine ritem.a1 ?_)
   | ((with_reducible apply ritem.r1 hs); (· (with_reducible (repeat (first | exact .blk | exact .rng | apply Rng.tl)))))
   | (with_reducible (first | refine st_lens ?_ | refine mv.mk ?_ | refine br_t ?_ | refine br_f ?_))
   | (with_reducible ((first | apply st_bin | apply st_len | apply st_conv); intro k' hk; simp [go_sem, thenR_ok, bin]; refine hk _ _ ?_; clear hk k'))
   | ((with_reducible apply sp_newr hs); (· kernel_rfl); intro g w hs))
  by_cases hf : fee ≤ z.fee
  · rw [decide_eq_true hf]
    repeat (first
     | (with_reducible (first | refine st_lens ?_ | refine mv.mk ?_ | refine br_t ?_ | refine br_f ?_))
     | (with_reducible ((first | apply st_bin | apply st_len | apply st_conv); intro k' hk; simp [go_sem, thenR_ok, bin]; refine hk _ _ ?_; clear hk k'))
     | ((with_reducible apply sp_newr hs); (· kernel_rfl); intro g w hs))
    refine add_errR rfl (by rw [hadd, hroom, room_full hcond hlp (by rw [hz]; exact hf)]; rfl) hlv hkv hl hm (hs.sbl (.drop (.drop (.drop (.drop (.drop (.drop .all)))))))
  rw [decide_eq_false hf]
  repeat (first
   | (with_reducible refine ritem.a0 ?_)
   | ((with_reducible apply ritem.r0 hs); (· (with_reducible (repeat (first | exact .blk | exact .rng | apply Rng.tl)))))
   | (with_reducible refine ritem.a1 ?_)
   | ((with_reducible apply ritem.r1 hs); (· (with_reducible (repeat (first | exact .blk | exact .rng | apply Rng.tl)))))
   | (with_reducible (first | refine st_lens ?_ | refine mv.mk ?_ | refine br_t ?_ | refine br_f ?_))
   | (with_reducible ((first | apply st_bin | apply st_len | apply st_conv); intro k' hk; simp [go_sem, thenR_ok, bin]; refine hk _ _ ?_; clear hk k'))
   | ((with_reducible apply sp_newr hs); (· kernel_rfl); intro g w hs))
  refine sp_tob8 hs fun v5 w hs => ?_
  refine cl (isthmusref15_Hash hs .hd (by omega)) ?_
  rintro _ w ⟨rfl, hs⟩
  replace hs := hs.fact (f := hashF (u8s (hB z.b)) (hB z.b)) ⟨rfl, hHy⟩
  refine sp_lita hs hsT (by rw [u8s_length, hHy]) (by decide) fun v5 w hs => ?_
  refine sp_push (a := hB z.b) hs (.tl (.tl (.tl (.tl (.tl (.tl .hd)))))) hsT .sl (.tl .hd) (u8s_one _) (by omega) (by omega) fun v6 w hs => ?_
  repeat (first
   | (with_reducible (first | refine st_lens ?_ | refine mv.mk ?_ | refine br_t ?_ | refine br_f ?_))
   | (with_reducible ((first | apply st_bin | apply st_len | apply st_conv); intro k' hk; simp [go_sem, thenR_ok, bin]; refine hk _ _ ?_; clear hk k'))
   | ((with_reducible apply sp_newr hs); (· kernel_rfl); intro g w hs))
  rw [show IntKind.i64.wrap ((l.length : Int) - 1) = ((l.length - 1 : Nat) : Int) by simp [IntKind.wrap, IntKind.signed, IntKind.bits]; omega]
  obtain ⟨v7, hsl, hs⟩ := lst_to (P := Tryz.prog) hs (.tl (.tl (.tl (.tl (.tl (.tl (.tl .hd))))))) riT (l.length - 1) (by rw [List.length_map]; omega) .i64
  refine st_of (hsl w) ?_
  rw [← List.map_take] at hs
  obtain ⟨A3, c3, rfl⟩ := hs.lst_len .lst
  have htl : (l.take (l.length - 1)).length = l.length - 1 := by rw [List.length_take]; omega
  repeat with_reducible refine mv.mk ?_
  refine ⟨⟨l.take (l.length - 1), gone ++ [hB z.b], _, v6, rfl, ⟨min (l.length - 1) m, ?_⟩, by rw [htl, List.length_append]; simp; omega, by rw [hroom]; rw [room_step hcond hlp (by rw [hz]; exact hf), hz], hs.sbl (.cons (.tl .hd) (.cons .hd (.drop (.drop (.drop (.drop (.drop (.drop (.drop .all)))))))))⟩, by simp only [AddM, List.length_map, htl]; omega⟩
  rw [hlm, List.take_take]
theorem add_d {l : List ItemD} {gone : List Bytes} {gv : Value} {A1 : Option Addr} {c1 i : Nat} {x2 : Env} (ok : OkP p nn) (hlv : lv.oneCell' = true) (hkv : kv.oneCell' = true) (hm : Ins L (listF hashF 32 kv p.known).it)
    (hq : addP p bts fee = ({ p with l := insP ⟨bts, fee, p.came⟩ l, known := rememberK p.cache (hB bts) p.known, came := p.came + 1 }, gone, 0)) (hll : l.length ≤ p.l.length) (hi : i ≤ l.length) (hat : insP ⟨bts, fee, p.came⟩ l = l.take i ++ ⟨bts, fee, p.came⟩ :: l.drop i)
    (hx10 : x1 10 = .slice A1 l.length c1) (hx11 : x1 11 = gv) (hx13 : x2 13 = .int .i64 (i : Int))
    (hs : Isk.Sep b w ((listF hashF 32 gv gone).it :: (listF ritemF 2 (.slice A1 l.length c1) (l.map toR)).it :: AddL p bts lv kv g3 g6 g9 L)) :
    F.isthmusref18_Add_d (AddK b L p bts fee) (str bts) (.int .i64 fee) (.pointer (some ⟨g3, 0, none⟩)) (.pointer (some ⟨g6, 0, none⟩)) (.pointer (some ⟨g9, 0, none⟩)) (.slice none 0 0) x1 x2 w := by
  have hl1 := ok.len
  have ht2 := ok.t2
  have hkn := ok.kn
  have hc2 := ok.c2
  have hH := hB_len bts
  unfold F.isthmusref18_Add_d
  simp only [hx10, hx11, hx13]
  obtain ⟨v1, hsl1, hs⟩ := lst_to (P := Tryz.prog) hs (.tl .hd) riT i (by rw [List.length_map]; exact hi) .i64
  obtain ⟨v2, hsl2, hs⟩ := lst_fr (P := Tryz.prog) hs (.tl (.tl .hd)) riT i (by rw [List.length_map]; exact hi) .i64
  replace hs := hs.grow0 ritemF T.isthmusref18_Item 2
  rw [← List.map_take, ← List.map_drop] at hs
  repeat with_reducible refine mv.mk ?_
  refine st_of (hsl1 w) ?_
  have e1 : ((l.take i).map toR).length ≤ 1048576 := by rw [List.length_map, List.length_take]; omega
  have e2 : ((l.drop i).map toR).length ≤ 1048576 := by rw [List.length_map, List.length_drop]; omega
  refine sp_pushL hs .hd riT (by exact (.tl .hd)) ritemF_ok (by simp only [List.length_nil]; omega) (by simp only [List.length_nil]; omega) fun v3 w hs => ?_
  rw [List.nil_append] at hs
  repeat with_reducible refine mv.mk ?_
  refine st_build (cells := (ritemC (str bts) (.int .i64 fee)).toArray) (by kernel_rfl) ?_
  refine sp_lita hs riT rfl (by decide) fun v5 w hs => ?_
  replace hs := hs.fact (f := ritemF (ritemC (str bts) (.int .i64 fee)) (bts, fee)) rfl
  refine sp_push (ys := ritemC (str bts) (.int .i64 fee)) (a := (bts, fee)) hs (.tl (.tl .hd)) riT (by exact .tl .sl) (by exact .hd) (ritemC_one rfl rfl) (by omega) (by omega) fun v6 w hs => ?_
  repeat with_reducible refine mv.mk ?_
  refine st_of (hsl2 w) ?_
  have e3 : ((l.take i).map toR ++ [(bts, fee)]).length ≤ 1048577 := by rw [List.length_append]; simp only [List.length_cons, List.length_nil]; omega
  refine sp_pushL hs .hd riT (by exact (.tl (.tl .hd))) ritemF_ok (by omega) (by omega) fun v8 w hs => ?_
  have hins : (l.take i).map toR ++ [(bts, fee)] ++ (l.drop i).map toR = (insP ⟨bts, fee, p.came⟩ l).map toR := by
    rw [hat, List.map_append, List.map_cons, List.append_assoc]
    rfl
  rw [hins] at hs
  have hv8 := hs.gcells .hd
  refine rpool.s3 hs (.tl (.tl (.tl (.tl (.tl (.tl (.tl (.tl (.tl .hd))))))))) hv8 fun w hs => ?_
  refine sp_loadall hs .hd (by kernel_rfl) rfl ?_
  refine sp_ldn hs (.tl (.tl (.tl (.tl (.tl (.tl (.tl (.tl .blk)))))))) (by kernel_rfl) (by rw [u8s_length, hH]) ?_
  refine cl (isthmusref18_remember hv8.2 (.tl (.tl (.tl (.tl (.tl (.tl (.tl (.tl (.tl (.tl hm)))))))))) (by omega) (by have := ok.c1; omega) hH hs) ?_
  rintro _ w ⟨kv2, rfl, hs⟩
  obtain ⟨A5, c5, rfl⟩ := hs.lst_len .lst
  repeat with_reducible refine mv.mk ?_
  refine sp_setr (ds := rpV p.txs p.bytes p.cache v8 (.slice A5 (rememberK p.cache (hB bts) p.known).length c5)) hs (.tl (.tl (.tl (.tl (.tl (.tl (.tl (.tl (.tl (.tl .hd)))))))))) (by kernel_rfl) rfl (rpoolC_one rfl rfl rfl hv8.2 rfl) fun w hs => mv.mk (mv.mk (sp_rc hs .hd (by kernel_rfl) rfl ?_))
  replace hs := hs.growF (.tl (.tl (.tl .hd)))
  refine ⟨v8, _, gv, hv8.2, rfl, by rw [hq], ?_⟩
  rw [hq]
  exact hs.sbl (.cons (.tl (.tl (.tl (.tl (.tl (.tl (.tl (.tl .hd)))))))) (.cons .hd (.cons (.tl .hd) (.drop (.drop (.drop (.drop (.drop (.drop (.drop (.drop .all)))))))))))
theorem add_c {l : List ItemD} {gone : List Bytes} {gv : Value} {A1 : Option Addr} {c1 : Nat} (ok : OkP p nn) (hlv : lv.oneCell' = true) (hkv : kv.oneCell' = true) (hm : Ins L (listF hashF 32 kv p.known).it)
    (hq : addP p bts fee = ({ p with l := insP ⟨bts, fee, p.came⟩ l, known := rememberK p.cache (hB bts) p.known, came := p.came + 1 }, gone, 0)) (hll : l.length ≤ p.l.length)
    (hx10 : x1 10 = .slice A1 l.length c1) (hx11 : x1 11 = gv)
    (hs : Isk.Sep b w (growI hashF T.api_Hash 32 gv gone :: (listF ritemF 2 (.slice A1 l.length c1) (l.map toR)).it :: AddL p bts lv kv g3 g6 g9 L)) :
    F.isthmusref18_Add_c (AddK b L p bts fee) (str bts) (.int .i64 fee) (.pointer (some ⟨g3, 0, none⟩)) (.pointer (some ⟨g6, 0, none⟩)) (.pointer (some ⟨g9, 0, none⟩)) (.int .i64 0) x1 w := by
  have hl1 := ok.len
  have ht2 := ok.t2
  replace hs := hs.growF .hd
  unfold F.isthmusref18_Add_c
  refine lp_by (fun us w' => ∃ i : Nat, us = [.int .i64 (i : Int)] ∧ i ≤ l.length ∧ (∀ j (h : j < l.length), j < i → fee ≤ l[j].fee) ∧ Isk.Sep b w' ((listF hashF 32 gv gone).it :: (listF ritemF 2 (.slice A1 l.length c1) (l.map toR)).it :: AddL p bts lv kv g3 g6 g9 L)) (fun us _ => match us with | [.int _ m] => l.length - m.toNat | _ => 0) ⟨0, rfl, Nat.zero_le _, fun j h hj => absurd hj (Nat.not_lt_zero _), hs⟩ ?_
  clear hs
  rintro x2 w ⟨i, hx2, hi, hge, hs⟩
  simp only [List.cons.injEq, and_true] at hx2
  have hdd := fun (hno : ∀ h : i < l.length, ¬ fee ≤ l[i].fee) (w : World) (hs : Isk.Sep b w ((listF hashF 32 gv gone).it :: (listF ritemF 2 (.slice A1 l.length c1) (l.map toR)).it :: AddL p bts lv kv g3 g6 g9 L)) => add_d (x1 := x1) (x2 := x2) ok hlv hkv hm hq hll hi (insP_at hi hge hno) hx10 hx11 hx2 hs
  unfold F.isthmusref18_Add_d at hdd
  simp only [hx2, hx10, hx11] at hdd ⊢
  repeat (first
   | (with_reducible (first | refine st_lens ?_ | refine mv.mk ?_ | refine gd_u ?_ | refine gd_ft ?_ | refine gd_tf ?_ | refine gd_i ?_ | refine pk_t ?_ | refine pk_f ?_ | refine br_t ?_ | refine br_f ?_))
   | (with_reducible ((first | apply st_bin | apply st_len); intro k' hk; simp [go_sem, thenR_ok, bin]; refine hk _ _ ?_; clear hk k')))
  by_cases hi' : i < l.length
  · rw [decide_eq_true hi']
    obtain ⟨z, hz⟩ : ∃ z, l[i]'hi' = z := ⟨_, rfl⟩
    obtain ⟨g1, o1, ys, hix, hyl, hs⟩ := hs.el (P := Tryz.prog) (T := T.sl_isthmusref18_Item) (.tl .hd) riT i (by rw [List.length_map]; exact hi')
    have hy : ys = ritemC (str z.b) (.int .i64 z.fee) := by
      have h1 := hs.get (.tl .hd)
      rw [List.getElem_map, hz] at h1
      exact h1
    subst hy
    repeat (first
     | (with_reducible (first | refine st_lens ?_ | refine mv.mk ?_ | refine gd_u ?_ | refine gd_ft ?_ | refine gd_tf ?_ | refine gd_i ?_ | refine pk_t ?_ | refine pk_f ?_ | refine br_t ?_ | refine br_f ?_))
     | (with_reducible ((first | apply st_bin | apply st_len); intro k' hk; simp [go_sem, thenR_ok, bin]; refine hk _ _ ?_; clear hk k')))
    refine st_of (hix .i64 w) ?_
    repeat (first
     | (with_reducible refine ritem.a1 ?_)
     | ((with_reducible apply ritem.r1 hs); (· (with_reducible (repeat (first | exact .blk | exact .rng | apply Rng.tl)))))
     | (with_reducible (first | refine st_lens ?_ | refine mv.mk ?_ | refine gd_u ?_ | refine gd_ft ?_ | refine gd_tf ?_ | refine gd_i ?_ | refine pk_t ?_ | refine pk_f ?_ | refine br_t ?_ | refine br_f ?_))
     | (with_reducible ((first | apply st_bin | apply st_len); intro k' hk; simp [go_sem, thenR_ok, bin]; refine hk _ _ ?_; clear hk k')))
    by_cases hf : fee ≤ z.fee
    · rw [decide_eq_true hf]
      repeat (first
       | (with_reducible (first | refine st_lens ?_ | refine mv.mk ?_ | refine gd_u ?_ | refine gd_ft ?_ | refine gd_tf ?_ | refine gd_i ?_ | refine pk_t ?_ | refine pk_f ?_ | refine br_t ?_ | refine br_f ?_))
       | (with_reducible ((first | apply st_bin | apply st_len); intro k' hk; simp [go_sem, thenR_ok, bin]; refine hk _ _ ?_; clear hk k')))
      rw [i64_succ (by omega)]
      refine ⟨⟨i + 1, rfl, hi', fun j h hj => ?_, hs.sbl (.drop (.drop .all))⟩, by simp; omega⟩
      rcases Nat.lt_or_ge j i with h1 | h1
      · exact hge j h h1
      · obtain rfl : j = i := by omega
        rw [hz]; exact hf
    · rw [decide_eq_false hf]
      refine br_f ?_
      exact mv.mk (hdd (fun h => by rw [hz]; exact hf) _ (hs.sbl (.drop (.drop .all))))
  · rw [decide_eq_false hi']
    repeat with_reducible (first | refine gd_ft ?_ | refine gd_u ?_)
    refine pk_f ?_
    refine br_f ?_
    exact mv.mk (hdd (fun h => absurd h hi') _ hs)
theorem isthmusref18_Add (ok : OkP p nn) (hN : nn ≤ 1000000) (hlv : lv.oneCell' = true) (hkv : kv.oneCell' = true) (hl : Ins L (listF ritemF 2 lv (p.l.map toR)).it) (hm : Ins L (listF hashF 32 kv p.known).it) (hbl : bts.length ≤ 1000000000) (hbx : ∀ x ∈ p.l, x.b.length ≤ 1048576) (hs : Isk.Sep b w L) :
    C Tryz.prog N.isthmusref18_Add #[.agg (rpV p.txs p.bytes p.cache lv kv).toArray, str bts, .int .i64 fee] w (AddK b L p bts fee) := by
  have hl1 := ok.len
  have ht2 := ok.t2
  have hb2 := ok.b2
  have hsz := ok.size
  have hkn := ok.kn
  have hc2 := ok.c2
  have hH := hB_len bts
  obtain ⟨A0, c0, rfl⟩ := hs.lst_len hl.lst
  rw [List.length_map] at *
  refine C.isthmusref18_Add ?_
  unfold F.isthmusref18_Add
  refine sp_boxa hs fun g3 w hs => ?_
  refine sp_newr hs (by kernel_rfl) fun g6 w hs => ?_
  repeat with_reducible refine mv.mk ?_
  refine st_eqls (a := bts) (c := []) ?_
  by_cases hb0 : bts = []
  · rw [decide_eq_true hb0]
    repeat (first
     | (with_reducible (first | refine st_lens ?_ | refine st_eqls ?_ | refine mv.mk ?_ | refine gdT_i ?_ | refine gdT_ft ?_ | refine gdT_tf ?_ | refine gdT_u ?_ | refine gd_u ?_ | refine gd_ft ?_ | refine gd_tf ?_ | refine gd_i ?_ | refine pk_t ?_ | refine pk_f ?_ | refine br_t ?_ | refine br_f ?_ | refine sp_boxa hs fun g w hs => ?_))
     | (with_reducible ((first | apply st_bin | apply st_len | apply st_conv); intro k' hk; simp [go_sem, thenR_ok, bin]; refine hk _ _ ?_; clear hk k'))
     | ((with_reducible (first | apply tk_bin | apply tk_len)); (· intro w; simp [go_sem, bin]; rfl))
     | ((with_reducible apply sp_newr hs); (· kernel_rfl); intro g w hs))
    exact add_errR rfl (addP_0 (.inl hb0)) hlv hkv hl hm hs
  rw [decide_eq_false hb0]
  repeat (first
   | (with_reducible (first | refine st_lens ?_ | refine st_eqls ?_ | refine mv.mk ?_ | refine gdT_i ?_ | refine gdT_ft ?_ | refine gdT_tf ?_ | refine gdT_u ?_ | refine gd_u ?_ | refine gd_ft ?_ | refine gd_tf ?_ | refine gd_i ?_ | refine pk_t ?_ | refine pk_f ?_ | refine br_t ?_ | refine br_f ?_ | refine sp_boxa hs fun g w hs => ?_))
   | (with_reducible ((first | apply st_bin | apply st_len | apply st_conv); intro k' hk; simp [go_sem, thenR_ok, bin]; refine hk _ _ ?_; clear hk k'))
   | ((with_reducible (first | apply tk_bin | apply tk_len)); (· intro w; simp [go_sem, bin]; rfl))
   | ((with_reducible apply sp_newr hs); (· kernel_rfl); intro g w hs))
  by_cases hf0 : fee < 0
  · rw [decide_eq_true hf0]
    repeat (first
     | (with_reducible (first | refine st_lens ?_ | refine st_eqls ?_ | refine mv.mk ?_ | refine gdT_i ?_ | refine gdT_ft ?_ | refine gdT_tf ?_ | refine gdT_u ?_ | refine gd_u ?_ | refine gd_ft ?_ | refine gd_tf ?_ | refine gd_i ?_ | refine pk_t ?_ | refine pk_f ?_ | refine br_t ?_ | refine br_f ?_ | refine sp_boxa hs fun g w hs => ?_))
     | (with_reducible ((first | apply st_bin | apply st_len | apply st_conv); intro k' hk; simp [go_sem, thenR_ok, bin]; refine hk _ _ ?_; clear hk k'))
     | ((with_reducible (first | apply tk_bin | apply tk_len)); (· intro w; simp [go_sem, bin]; rfl))
     | ((with_reducible apply sp_newr hs); (· kernel_rfl); intro g w hs))
    exact add_errR rfl (addP_0 (.inr hf0)) hlv hkv hl hm hs
  rw [decide_eq_false hf0]
  repeat (first
   | (with_reducible (first | refine st_lens ?_ | refine st_eqls ?_ | refine mv.mk ?_ | refine gdT_i ?_ | refine gdT_ft ?_ | refine gdT_tf ?_ | refine gdT_u ?_ | refine gd_u ?_ | refine gd_ft ?_ | refine gd_tf ?_ | refine gd_i ?_ | refine pk_t ?_ | refine pk_f ?_ | refine br_t ?_ | refine br_f ?_ | refine sp_boxa hs fun g w hs => ?_))
   | (with_reducible ((first | apply st_bin | apply st_len | apply st_conv); intro k' hk; simp [go_sem, thenR_ok, bin]; refine hk _ _ ?_; clear hk k'))
   | ((with_reducible (first | apply tk_bin | apply tk_len)); (· intro w; simp [go_sem, bin]; rfl))
   | ((with_reducible apply sp_newr hs); (· kernel_rfl); intro g w hs))
  have hb1 : ¬ (bts = [] ∨ fee < 0) := fun e => e.elim hb0 hf0
  refine sp_tob8 hs fun v5 w hs => ?_
  refine cl (isthmusref15_Hash hs .hd (by omega)) ?_
  rintro _ w ⟨rfl, hs⟩
  replace hs := hs.drop .hd
  refine sp_newr hs (by kernel_rfl) fun g9 w hs => ?_
  refine sp_setr (ds := u8s (hB bts)) hs .hd (by kernel_rfl) (by rw [u8s_length, hH]) (u8s_one _) fun w hs => ?_
  refine sp_loadall hs (.tl (.tl .hd)) (by kernel_rfl) rfl ?_
  refine sp_ldn hs .blk (by kernel_rfl) (by rw [u8s_length, hH]) ?_
  refine cl (isthmusref18_Knows (.tl (.tl (.tl hl))) (.tl (.tl (.tl hm))) (by rw [List.length_map]; omega) (by omega) (fun x hx => by
    obtain ⟨y, hy, rfl⟩ := List.mem_map.1 hx
    have := hbx y hy
    show y.b.length ≤ _
    omega) hH hs) ?_
  rintro _ w ⟨rfl, hs⟩
  rw [knowsR_toR]
  by_cases hkw : knowsP p (hB bts) = true
  · rw [hkw]
    repeat (first
     | (with_reducible (first | refine st_lens ?_ | refine st_eqls ?_ | refine mv.mk ?_ | refine gdT_i ?_ | refine gdT_ft ?_ | refine gdT_tf ?_ | refine gdT_u ?_ | refine gd_u ?_ | refine gd_ft ?_ | refine gd_tf ?_ | refine gd_i ?_ | refine pk_t ?_ | refine pk_f ?_ | refine br_t ?_ | refine br_f ?_ | refine sp_boxa hs fun g w hs => ?_))
     | (with_reducible ((first | apply st_bin | apply st_len | apply st_conv); intro k' hk; simp [go_sem, thenR_ok, bin]; refine hk _ _ ?_; clear hk k'))
     | ((with_reducible (first | apply tk_bin | apply tk_len)); (· intro w; simp [go_sem, bin]; rfl))
     | ((with_reducible apply sp_newr hs); (· kernel_rfl); intro g w hs))
    exact add_errR rfl (addP_9 hb1 hkw) hlv hkv hl hm (hs.sbl (.drop .all))
  rw [show knowsP p (hB bts) = false by simpa using hkw]
  repeat (first
   | (with_reducible refine rpool.a0 ?_)
   | ((with_reducible apply rpool.r0 hs); (· (with_reducible (repeat (first | exact .blk | exact .rng | apply Rng.tl)))))
   | (with_reducible refine rpool.c0 ?_)
   | ((with_reducible apply rpool.e0); (· first | exact hS | exact hid); (· (with_reducible (repeat (first | exact .blk | exact .rng | apply Rng.tl)))))
   | (with_reducible refine rpool.a1 ?_)
   | ((with_reducible apply rpool.r1 hs); (· (with_reducible (repeat (first | exact .blk | exact .rng | apply Rng.tl)))))
   | (with_reducible refine rpool.c1 ?_)
   | ((with_reducible apply rpool.e1); (· first | exact hS | exact hid); (· (with_reducible (repeat (first | exact .blk | exact .rng | apply Rng.tl)))))
   | (with_reducible refine rpool.a3 ?_)
   | ((with_reducible apply rpool.r3 hs); (· (with_reducible (repeat (first | exact .blk | exact .rng | apply Rng.tl)))))
   | (with_reducible refine rpool.c3 ?_)
   | ((with_reducible apply rpool.e3); (· first | exact hS | exact hid); (· (with_reducible (repeat (first | exact .blk | exact .rng | apply Rng.tl)))))
   | (with_reducible (first | refine st_lens ?_ | refine st_eqls ?_ | refine mv.mk ?_ | refine gdT_i ?_ | refine gdT_ft ?_ | refine gdT_tf ?_ | refine gdT_u ?_ | refine gd_u ?_ | refine gd_ft ?_ | refine gd_tf ?_ | refine gd_i ?_ | refine pk_t ?_ | refine pk_f ?_ | refine br_t ?_ | refine br_f ?_ | refine sp_boxa hs fun g w hs => ?_))
   | (with_reducible ((first | apply st_bin | apply st_len | apply st_conv); intro k' hk; simp [go_sem, thenR_ok, bin]; refine hk _ _ ?_; clear hk k'))
   | ((with_reducible (first | apply tk_bin | apply tk_len)); (· intro w; simp [go_sem, bin]; rfl))
   | ((with_reducible apply sp_newr hs); (· kernel_rfl); intro g w hs))
  by_cases hlg : p.bytes < (bts.length : Int)
  · rw [decide_eq_true hlg]
    repeat (first
     | (with_reducible (first | refine st_lens ?_ | refine st_eqls ?_ | refine mv.mk ?_ | refine gdT_i ?_ | refine gdT_ft ?_ | refine gdT_tf ?_ | refine gdT_u ?_ | refine gd_u ?_ | refine gd_ft ?_ | refine gd_tf ?_ | refine gd_i ?_ | refine pk_t ?_ | refine pk_f ?_ | refine br_t ?_ | refine br_f ?_ | refine sp_boxa hs fun g w hs => ?_))
     | (with_reducible ((first | apply st_bin | apply st_len | apply st_conv); intro k' hk; simp [go_sem, thenR_ok, bin]; refine hk _ _ ?_; clear hk k'))
     | ((with_reducible (first | apply tk_bin | apply tk_len)); (· intro w; simp [go_sem, bin]; rfl))
     | ((with_reducible apply sp_newr hs); (· kernel_rfl); intro g w hs))
    exact add_errR rfl (addP_2 hb1 hkw hlg) hlv hkv hl hm (hs.sbl (.drop .all))
  rw [decide_eq_false hlg]
  repeat (first
   | (with_reducible refine rpool.a0 ?_)
   | ((with_reducible apply rpool.r0 hs); (· (with_reducible (repeat (first | exact .blk | exact .rng | apply Rng.tl)))))
   | (with_reducible refine rpool.c0 ?_)
   | ((with_reducible apply rpool.e0); (· first | exact hS | exact hid); (· (with_reducible (repeat (first | exact .blk | exact .rng | apply Rng.tl)))))
   | (with_reducible refine rpool.a1 ?_)
   | ((with_reducible apply rpool.r1 hs); (· (with_reducible (repeat (first | exact .blk | exact .rng | apply Rng.tl)))))
   | (with_reducible refine rpool.c1 ?_)
   | ((with_reducible apply rpool.e1); (· first | exact hS | exact hid); (· (with_reducible (repeat (first | exact .blk | exact .rng | apply Rng.tl)))))
   | (with_reducible refine rpool.a3 ?_)
   | ((with_reducible apply rpool.r3 hs); (· (with_reducible (repeat (first | exact .blk | exact .rng | apply Rng.tl)))))
   | (with_reducible refine rpool.c3 ?_)
   | ((with_reducible apply rpool.e3); (· first | exact hS | exact hid); (· (with_reducible (repeat (first | exact .blk | exact .rng | apply Rng.tl)))))
   | (with_reducible (first | refine st_lens ?_ | refine st_eqls ?_ | refine mv.mk ?_ | refine gdT_i ?_ | refine gdT_ft ?_ | refine gdT_tf ?_ | refine gdT_u ?_ | refine gd_u ?_ | refine gd_ft ?_ | refine gd_tf ?_ | refine gd_i ?_ | refine pk_t ?_ | refine pk_f ?_ | refine br_t ?_ | refine br_f ?_ | refine sp_boxa hs fun g w hs => ?_))
   | (with_reducible ((first | apply st_bin | apply st_len | apply st_conv); intro k' hk; simp [go_sem, thenR_ok, bin]; refine hk _ _ ?_; clear hk k'))
   | ((with_reducible (first | apply tk_bin | apply tk_len)); (· intro w; simp [go_sem, bin]; rfl))
   | ((with_reducible apply sp_newr hs); (· kernel_rfl); intro g w hs))
  have hadd := addP_r (fee := fee) hb1 hkw hlg
  replace hs := hs.fact (f := listF ritemF 2 (.slice A0 p.l.length c0) (p.l.map toR)) (hs.get (.tl (.tl (.tl hl))))
  replace hs := hs.grow0 hashF T.api_Hash 32
  refine lp_by (AddJ b L p bts fee (.slice A0 p.l.length c0) kv g3 g6 g9) AddM ⟨p.l, [], _, _, rfl, ⟨p.l.length, by rw [List.take_length]⟩, by simp, rfl, hs⟩ ?_
  clear hs
  rintro x1 w1 ⟨l, gone, v, gv, hx1, hlm, hgl, hroom, hs⟩
  obtain ⟨A1, c1, rfl⟩ := hs.lst_len (Ins.lst (.tl .hd))
  rw [List.length_map] at *
  simp only [List.cons.injEq, and_true] at hx1
  obtain ⟨hx7, hx8, hx10, hx11⟩ := hx1
  have hll : l.length ≤ p.l.length := by obtain ⟨m, hm⟩ := hlm; rw [hm, List.length_take]; omega
  have hls : sizeP l ≤ sizeP p.l := by obtain ⟨m, hm⟩ := hlm; rw [hm]; exact sizeP_le
  have hbb := fun (hcond : p.txs < (l.length : Int) + 1 ∨ p.bytes < (sizeP l : Int) + bts.length) (w : World) (hs : Isk.Sep b w (growI hashF T.api_Hash 32 gv gone :: (listF ritemF 2 (.slice A1 l.length c1) (l.map toR)).it :: AddL p bts (.slice A0 p.l.length c0) kv g3 g6 g9 L)) => add_b (x1 := x1) (w1 := w1) ok hlv hkv hl hm hadd hlm hgl hroom hcond hx7 hx8 hx10 hx11 hbx (by omega) hs
  have hcc := fun (hcond : ¬ (p.txs < (l.length : Int) + 1 ∨ p.bytes < (sizeP l : Int) + bts.length)) (w : World) (hs : Isk.Sep b w (growI hashF T.api_Hash 32 gv gone :: (listF ritemF 2 (.slice A1 l.length c1) (l.map toR)).it :: AddL p bts (.slice A0 p.l.length c0) kv g3 g6 g9 L)) => add_c (x1 := x1) (fee := fee) ok hlv hkv hm (by rw [hadd, hroom, room_stop hcond]; rfl) hll hx10 hx11 hs
  unfold F.isthmusref18_Add_b at hbb
  unfold F.isthmusref18_Add_c at hcc
  simp only [hx7, hx8, hx10, hx11] at hbb hcc ⊢
  replace hs := hs.drew
  refine dr_can (R := [blkI g3 T.isthmusref18_Pool (rpV p.txs p.bytes p.cache (.slice A0 p.l.length c0) kv)]) hs (.drop (.drop (.drop (.drop (.cons .hd .nil))))) ?_
  have hS : ∀ w, Mayr [blkI g3 T.isthmusref18_Pool (rpV p.txs p.bytes p.cache (.slice A0 p.l.length c0) kv)] w → Mayr [blkI g3 T.isthmusref18_Pool (rpV p.txs p.bytes p.cache (.slice A0 p.l.length c0) kv)] w := fun _ h => h
  repeat (first
   | (with_reducible refine rpool.a0 ?_)
   | ((with_reducible apply rpool.r0 hs); (· (with_reducible (repeat (first | exact .blk | exact .rng | apply Rng.tl)))))
   | (with_reducible refine rpool.c0 ?_)
   | ((with_reducible apply rpool.e0); (· first | exact hS | exact hid); (· (with_reducible (repeat (first | exact .blk | exact .rng | apply Rng.tl)))))
   | (with_reducible refine rpool.a1 ?_)
   | ((with_reducible apply rpool.r1 hs); (· (with_reducible (repeat (first | exact .blk | exact .rng | apply Rng.tl)))))
   | (with_reducible refine rpool.c1 ?_)
   | ((with_reducible apply rpool.e1); (· first | exact hS | exact hid); (· (with_reducible (repeat (first | exact .blk | exact .rng | apply Rng.tl)))))
   | (with_reducible refine rpool.a3 ?_)
   | ((with_reducible apply rpool.r3 hs); (· (with_reducible (repeat (first | exact .blk | exact .rng | apply Rng.tl)))))
   | (with_reducible refine rpool.c3 ?_)
   | ((with_reducible apply rpool.e3); (· first | exact hS | exact hid); (· (with_reducible (repeat (first | exact .blk | exact .rng | apply Rng.tl)))))
   | (with_reducible (first | refine st_lens ?_ | refine st_eqls ?_ | refine mv.mk ?_ | refine gdT_i ?_ | refine gdT_ft ?_ | refine gdT_tf ?_ | refine gdT_u ?_ | refine gd_u ?_ | refine gd_ft ?_ | refine gd_tf ?_ | refine gd_i ?_ | refine pk_t ?_ | refine pk_f ?_ | refine br_t ?_ | refine br_f ?_ | refine sp_boxa hs fun g w hs => ?_))
   | (with_reducible ((first | apply st_bin | apply st_len | apply st_conv); intro k' hk; simp [go_sem, thenR_ok, bin]; refine hk _ _ ?_; clear hk k'))
   | ((with_reducible (first | apply tk_bin | apply tk_len)); (· intro w; simp [go_sem, bin]; rfl))
   | ((with_reducible apply sp_newr hs); (· kernel_rfl); intro g w hs))
  by_cases h1 : p.txs ≤ (l.length : Int)
  · rw [decide_eq_true h1]
    repeat with_reducible (first | refine mv.mk ?_ | refine gdT_tf ?_ | refine gdT_u ?_ | refine gd_tf ?_ | refine gd_u ?_)
    refine ⟨hs.mayr (.drop (.drop (.drop (.drop (.cons .hd .nil))))), ?_⟩
    repeat with_reducible (first | refine mv.mk ?_ | refine gdT_tf ?_ | refine gdT_u ?_ | refine gd_tf ?_ | refine gd_u ?_)
    refine pk_t ?_
    refine br_t ?_
    exact hbb (.inl (by omega)) _ hs
  rw [decide_eq_false h1]
  repeat (first
   | (with_reducible refine rpool.a0 ?_)
   | ((with_reducible apply rpool.r0 hs); (· (with_reducible (repeat (first | exact .blk | exact .rng | apply Rng.tl)))))
   | (with_reducible refine rpool.c0 ?_)
   | ((with_reducible apply rpool.e0); (· first | exact hS | exact hid); (· (with_reducible (repeat (first | exact .blk | exact .rng | apply Rng.tl)))))
   | (with_reducible refine rpool.a1 ?_)
   | ((with_reducible apply rpool.r1 hs); (· (with_reducible (repeat (first | exact .blk | exact .rng | apply Rng.tl)))))
   | (with_reducible refine rpool.c1 ?_)
   | ((with_reducible apply rpool.e1); (· first | exact hS | exact hid); (· (with_reducible (repeat (first | exact .blk | exact .rng | apply Rng.tl)))))
   | (with_reducible refine rpool.a3 ?_)
   | ((with_reducible apply rpool.r3 hs); (· (with_reducible (repeat (first | exact .blk | exact .rng | apply Rng.tl)))))
   | (with_reducible refine rpool.c3 ?_)
   | ((with_reducible apply rpool.e3); (· first | exact hS | exact hid); (· (with_reducible (repeat (first | exact .blk | exact .rng | apply Rng.tl)))))
   | (with_reducible (first | refine st_lens ?_ | refine st_eqls ?_ | refine mv.mk ?_ | refine gdT_i ?_ | refine gdT_ft ?_ | refine gdT_tf ?_ | refine gdT_u ?_ | refine gd_u ?_ | refine gd_ft ?_ | refine gd_tf ?_ | refine gd_i ?_ | refine pk_t ?_ | refine pk_f ?_ | refine br_t ?_ | refine br_f ?_ | refine sp_boxa hs fun g w hs => ?_))
   | (with_reducible ((first | apply st_bin | apply st_len | apply st_conv); intro k' hk; simp [go_sem, thenR_ok, bin]; refine hk _ _ ?_; clear hk k'))
   | ((with_reducible (first | apply tk_bin | apply tk_len)); (· intro w; simp [go_sem, bin]; rfl))
   | ((with_reducible apply sp_newr hs); (· kernel_rfl); intro g w hs))
  refine tk_run lens_run ?_
  repeat (first
   | (with_reducible refine rpool.a0 ?_)
   | ((with_reducible apply rpool.r0 hs); (· (with_reducible (repeat (first | exact .blk | exact .rng | apply Rng.tl)))))
   | (with_reducible refine rpool.c0 ?_)
   | ((with_reducible apply rpool.e0); (· first | exact hS | exact hid); (· (with_reducible (repeat (first | exact .blk | exact .rng | apply Rng.tl)))))
   | (with_reducible refine rpool.a1 ?_)
   | ((with_reducible apply rpool.r1 hs); (· (with_reducible (repeat (first | exact .blk | exact .rng | apply Rng.tl)))))
   | (with_reducible refine rpool.c1 ?_)
   | ((with_reducible apply rpool.e1); (· first | exact hS | exact hid); (· (with_reducible (repeat (first | exact .blk | exact .rng | apply Rng.tl)))))
   | (with_reducible refine rpool.a3 ?_)
   | ((with_reducible apply rpool.r3 hs); (· (with_reducible (repeat (first | exact .blk | exact .rng | apply Rng.tl)))))
   | (with_reducible refine rpool.c3 ?_)
   | ((with_reducible apply rpool.e3); (· first | exact hS | exact hid); (· (with_reducible (repeat (first | exact .blk | exact .rng | apply Rng.tl)))))
   | (with_reducible (first | refine st_lens ?_ | refine st_eqls ?_ | refine mv.mk ?_ | refine gdT_i ?_ | refine gdT_ft ?_ | refine gdT_tf ?_ | refine gdT_u ?_ | refine gd_u ?_ | refine gd_ft ?_ | refine gd_tf ?_ | refine gd_i ?_ | refine pk_t ?_ | refine pk_f ?_ | refine br_t ?_ | refine br_f ?_ | refine sp_boxa hs fun g w hs => ?_))
   | (with_reducible ((first | apply st_bin | apply st_len | apply st_conv); intro k' hk; simp [go_sem, thenR_ok, bin]; refine hk _ _ ?_; clear hk k'))
   | ((with_reducible (first | apply tk_bin | apply tk_len)); (· intro w; simp [go_sem, bin]; rfl))
   | ((with_reducible apply sp_newr hs); (· kernel_rfl); intro g w hs))
  refine cl (isthmusref18_Size hs (.tl .hd) (by rw [List.length_map]; omega) (by rw [sizeR_toR]; omega)) ?_
  rintro _ w ⟨rfl, hs⟩
  rw [sizeR_toR]
  refine ⟨hs.mayr (.drop (.drop (.drop (.drop (.cons .hd .nil))))), ?_⟩
  repeat (first
   | ((with_reducible apply tn_add); (· omega))
   | ((with_reducible apply tn_sub); (· omega))
   | ((with_reducible apply tn_mul); (· omega))
   | ((with_reducible apply sn_add); (· omega))
   | ((with_reducible apply sn_sub); (· omega))
   | ((with_reducible apply sn_mul); (· omega))
   | (with_reducible (first | refine st_lens ?_ | refine st_eqls ?_ | refine mv.mk ?_ | refine gdT_i ?_ | refine gdT_ft ?_ | refine gdT_tf ?_ | refine gdT_u ?_ | refine gd_u ?_ | refine gd_ft ?_ | refine gd_tf ?_ | refine gd_i ?_ | refine pk_t ?_ | refine pk_f ?_ | refine br_t ?_ | refine br_f ?_ | refine sp_boxa hs fun g w hs => ?_))
   | (with_reducible ((first | apply st_bin | apply st_len | apply st_conv); intro k' hk; simp [go_sem, thenR_ok, bin]; refine hk _ _ ?_; clear hk k'))
   | ((with_reducible (first | apply tk_bin | apply tk_len)); (· intro w; simp [go_sem, bin]; rfl))
   | ((with_reducible apply sp_newr hs); (· kernel_rfl); intro g w hs))
  by_cases h2 : p.bytes < (sizeP l : Int) + bts.length
  · rw [decide_eq_true h2]
    refine br_t ?_
    exact hbb (.inr h2) _ hs
  · rw [decide_eq_false h2]
    refine br_f ?_
    exact mv.mk (hcc (by omega) _ hs)
end
end Go.Proofs.YtgagekffmamldaaGreatDoor
set_option linter.unusedVariables false
set_option linter.unusedSimpArgs false
set_option linter.unusedSectionVars false
namespace Go.Proofs.YtgagekffmamldaaGreatDoor
open Go Go.Isk Go.RowKit
theorem dropI_filter (h : Bytes) : ∀ {l : List ItemD}, (l.map fun x => hB x.b).Nodup → dropI h l = l.filter fun x => !decide (hB x.b = h)
  | [], _ => rfl
  | y :: l, hn => by
    rw [List.map_cons, List.nodup_cons] at hn
    by_cases hy : hB y.b = h
    · have h1 : (y :: l).findIdx? (fun x => decide (hB x.b = h)) = some 0 := by
        rw [List.findIdx?_cons, decide_eq_true hy]
        rfl
      have h2 : ∀ x ∈ l, hB x.b ≠ h := fun x hx e => hn.1 (List.mem_map.2 ⟨x, hx, by rw [e, hy]⟩)
      unfold dropI
      rw [h1]
      rw [List.filter_cons_of_neg (by simp [hy])]
      show [] ++ l = _
      rw [List.nil_append, List.filter_eq_self.2 fun x hx => by simpa using h2 x hx]
    · have ih := dropI_filter h hn.2
      rw [List.filter_cons_of_pos (by simp [hy]), ← ih]
      unfold dropI
      rw [List.findIdx?_cons, decide_eq_false hy]
      cases l.findIdx? (fun x => decide (hB x.b = h)) with
      | none => rfl
      | some i => rfl
theorem dropI_toR {h : Bytes} {l : List ItemD} (hn : (l.map fun x => hB x.b).Nodup) : (dropI h l).map toR = dropR18 h (l.map toR) := by
  rw [dropI_filter h hn]
  unfold dropR18
  rw [List.filter_map]
  rfl
theorem dropI_sub {h : Bytes} {l : List ItemD} (hn : (l.map fun x => hB x.b).Nodup) : (dropI h l).Sublist l := by
  rw [dropI_filter h hn]
  exact List.filter_sublist
theorem sizeP_sub {l m : List ItemD} (h : l.Sublist m) : sizeP l ≤ sizeP m := by
  unfold sizeP
  induction h with
  | slnil => exact Nat.le_refl _
  | cons a _ ih => simp only [List.map_cons, List.sum_cons]; omega
  | cons_cons a _ ih => simp only [List.map_cons, List.sum_cons]; omega
theorem OkP.cut {p : PoolD} {n : Nat} (ok : OkP p n) {l : List ItemD} {ks : List Bytes} (hs : l.Sublist p.l) (hk : (ks.length : Int) ≤ p.cache) (h32 : ∀ k ∈ ks, k.length = 32) : OkP { p with l := l, known := ks } n :=
  ⟨ok.came0, ok.came, ok.t1, ok.t2, ok.b1, ok.b2, ok.c1, ok.c2, by have := ok.len; have := hs.length_le; show (l.length : Int) ≤ p.txs; omega, by have := ok.size; have := sizeP_sub hs; show (sizeP l : Int) ≤ p.bytes; omega, hk, h32, fun x hx => ok.lt x (hs.subset hx), ok.srt.sublist hs, ok.nd.sublist (hs.map _)⟩
theorem OkP.done {p : PoolD} {n : Nat} (ok : OkP p n) (t : Bytes) : OkP (doneP p t) n :=
  ok.cut (dropI_sub ok.nd) (rememberK_len ok.c1) (rememberK_32 (hB_len t) ok.kl)
theorem OkP.dones {n : Nat} : ∀ {ts : List Bytes} {p : PoolD}, OkP p n → OkP (ts.foldl doneP p) n
  | [], _, ok => ok
  | t :: ts, p, ok => OkP.dones (ts := ts) (ok.done t)
theorem OkP.dropped {p : PoolD} {n : Nat} (ok : OkP p n) (h : Bytes) : OkP (dropP p h).1 n := by
  unfold dropP
  split
  · exact ok.cut (dropI_sub ok.nd) (by have := forgetK_len h p.known; have := ok.kn; omega) (forgetK_32 ok.kl)
  · exact ok
theorem done_toR {p : PoolD} {n : Nat} (ok : OkP p n) (t : Bytes) : ((doneP p t).l.map toR, (doneP p t).known) = doneR p.cache (p.l.map toR, p.known) t := by
  unfold doneP doneR
  rw [← dropI_toR ok.nd]
theorem dones_cache : ∀ {ts : List Bytes} {p : PoolD}, (ts.foldl doneP p).cache = p.cache ∧ (ts.foldl doneP p).txs = p.txs ∧ (ts.foldl doneP p).bytes = p.bytes
  | [], _ => ⟨rfl, rfl, rfl⟩
  | t :: ts, p => dones_cache (ts := ts) (p := doneP p t)
theorem dones_toR {n : Nat} : ∀ {ts : List Bytes} {p : PoolD}, OkP p n → ((ts.foldl doneP p).l.map toR, (ts.foldl doneP p).known) = ts.foldl (doneR p.cache) (p.l.map toR, p.known)
  | [], _, _ => rfl
  | t :: ts, p, ok => by
    rw [List.foldl_cons, List.foldl_cons, ← done_toR ok t]
    exact dones_toR (ts := ts) (ok.done t)
theorem drop_toR {p : PoolD} {n : Nat} (ok : OkP p n) (h : Bytes) : dropRR (p.l.map toR, p.known) h = (((dropP p h).1.l.map toR, (dropP p h).1.known), (dropP p h).2) := by
  unfold dropRR dropP
  rw [hasR_toR]
  split
  · rw [dropI_toR ok.nd]
  · rfl
theorem dropP_same {p : PoolD} {h : Bytes} : (dropP p h).1.cache = p.cache ∧ (dropP p h).1.txs = p.txs ∧ (dropP p h).1.bytes = p.bytes := by
  unfold dropP
  split
  · exact ⟨rfl, rfl, rfl⟩
  · exact ⟨rfl, rfl, rfl⟩
theorem addP_same {p : PoolD} {bts : Bytes} {fee : Int} : (addP p bts fee).1.cache = p.cache ∧ (addP p bts fee).1.txs = p.txs ∧ (addP p bts fee).1.bytes = p.bytes := by
  rcases add_cases p bts fee with ⟨h1, _⟩ | ⟨_, _, m, _, _, _, _, hq⟩
  · rw [h1]; exact ⟨rfl, rfl, rfl⟩
  · rw [hq]; exact ⟨rfl, rfl, rfl⟩
theorem take_toR {t : Int} : ∀ {l : List ItemD} {c y : Int}, takeR t c y (l.map toR) = takeP t c y l
  | [], _, _ => rfl
  | x :: l, c, y => by
    rw [List.map_cons, takeR, takeP, take_toR (l := l)]
    rfl
theorem OkP.small {p : PoolD} {n : Nat} (ok : OkP p n) : ∀ x ∈ p.l, x.b.length ≤ 1048576 := fun x hx => by
  have := sizeP_mem hx
  have := ok.size
  have := ok.b2
  omega
end Go.Proofs.YtgagekffmamldaaGreatDoor
