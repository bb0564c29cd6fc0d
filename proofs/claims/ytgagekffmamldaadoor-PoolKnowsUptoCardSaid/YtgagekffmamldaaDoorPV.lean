/- pool: PoolKnows, plain. -/
import Derived.Test.YtgagekffmamldaaDoorPT
import Derived.Test.YtgagekffmamldaaDoorPN
set_option linter.unusedVariables false
set_option linter.unusedSimpArgs false
set_option linter.unusedSectionVars false
namespace Go.Proofs.YtgagekffmamldaaDoor
open Go Go.Isk Go.RowKit
structure KInv (p : PoolD) (n : Nat) : Prop where
  l : p.l = []
  t : p.txs = 100
  b : p.bytes = 1048576
  c1 : 1 ≤ p.cache
  c2 : p.cache ≤ 5
  kn : (p.known.length : Int) ≤ p.cache
  kl : ∀ k ∈ p.known, k.length = 32
  m0 : 0 ≤ p.came
  m1 : p.came ≤ n
theorem KInv.ok {p : PoolD} {n : Nat} (h : KInv p n) : OkP p n :=
  ⟨h.m0, h.m1, by rw [h.t]; decide, by rw [h.t]; decide, by rw [h.b]; decide, by rw [h.b]; decide, by have := h.c1; omega, by have := h.c2; omega, by rw [h.l, h.t]; decide, by rw [h.l, h.b]; decide, h.kn, h.kl, fun x hx => (by rw [h.l] at hx; cases hx), by rw [h.l]; exact List.Pairwise.nil, by rw [h.l]; exact List.nodup_nil⟩
theorem mem_remember {c : Int} {h : Bytes} {l : List Bytes} (hc : 1 ≤ c) : h ∈ rememberK c h l := by
  unfold rememberK
  simp only
  have hl : (forgetK h l ++ [h]).length = (forgetK h l).length + 1 := by simp
  rw [hl, List.drop_append_of_le_length (by omega)]
  simp
theorem KInv.done {p : PoolD} {n : Nat} (h : KInv p n) (t : Bytes) : KInv (doneP p t) n ∧ hB t ∈ (doneP p t).known := by
  refine ⟨⟨?_, h.t, h.b, h.c1, h.c2, rememberK_len (by have := h.c1; omega), rememberK_32 (hB_len t) h.kl, h.m0, h.m1⟩, mem_remember h.c1⟩
  show dropI (hB t) p.l = []
  rw [h.l]
  rfl
theorem knows_of {p : PoolD} {h : Bytes} (hm : h ∈ p.known) : knowsP p h = true := by
  unfold knowsP
  rw [Bool.or_eq_true]
  exact .inr (List.any_eq_true.2 ⟨h, hm, by simp⟩)
theorem KInv.has {p : PoolD} {n : Nat} (h : KInv p n) (k : Bytes) : hasP p k = false := by
  unfold hasP
  rw [h.l]
  rfl
theorem hasP_one {q : PoolD} {i : ItemD} {H : Bytes} (hl : q.l = [i]) (hi : hB i.b = H) : hasP q H = true := by
  unfold hasP
  rw [hl, List.any_cons, hi, decide_eq_true rfl, Bool.true_or]
theorem dropI_one {i : ItemD} {H : Bytes} (hi : hB i.b = H) : dropI H [i] = [] := by
  have h1 : [i].findIdx? (fun x => decide (hB x.b = H)) = some 0 := by
    rw [List.findIdx?_cons, hi, decide_eq_true rfl, if_pos rfl]
  unfold dropI
  rw [h1]
  rfl
theorem dropP_one {q : PoolD} {i : ItemD} {H : Bytes} (hl : q.l = [i]) (hi : hB i.b = H) : dropP q H = ({ q with l := [], known := forgetK H q.known }, 0) := by
  unfold dropP
  rw [if_pos (hasP_one hl hi), hl, dropI_one hi]
theorem knowsP_forgot {q : PoolD} {H : Bytes} {l : List Bytes} (hl : q.l = []) (hk : q.known = forgetK H l) : knowsP q H = false := by
  unfold knowsP hasP
  rw [hl, hk, List.any_nil, Bool.false_or, List.any_eq_false]
  intro k hm
  have := (List.mem_filter.1 hm).2
  simp only [Bool.not_eq_true', decide_eq_false_iff_not] at this
  simp only [decide_eq_true_eq]
  exact fun e => this e.symm
theorem KInv.add1 {p : PoolD} {n : Nat} (h : KInv p n) {u : Bytes} (h0 : u ≠ []) (h1 : u.length ≤ 1000) (hk : ¬ knowsP p (hB u) = true) :
    addP p u 1 = ({ p with l := [⟨u, 1, p.came⟩], known := rememberK p.cache (hB u) p.known, came := p.came + 1 }, [], 0) := by
  have hb1 : ¬ (u = [] ∨ (1 : Int) < 0) := by
    rintro (h | h)
    · exact h0 h
    · exact absurd h (by decide)
  have hlg : ¬ p.bytes < u.length := by rw [h.b]; omega
  have hcond : ¬ (p.txs < (p.l.length : Int) + 1 ∨ p.bytes < (sizeP p.l : Int) + u.length) := by
    rw [h.l, h.t, h.b, sizeP_nil]
    simp only [List.length_nil]
    omega
  have hl1 : insP ⟨u, 1, p.came⟩ p.l = [⟨u, 1, p.came⟩] := by rw [h.l]; rfl
  rw [addP_r hb1 hk hlg, room_stop hcond]
  unfold addRes
  dsimp only
  rw [hl1]
theorem KInv.add2 {p q : PoolD} {n : Nat} {H : Bytes} (h : KInv p n) (hH : H.length = 32) (e : q = { p with l := [], known := forgetK H (rememberK p.cache H p.known), came := p.came + 1 }) : KInv q (n + 1) := by
  have hrl : ((rememberK p.cache H p.known).length : Int) ≤ p.cache := rememberK_len (by have := h.c1; omega)
  have hr32 := rememberK_32 (c := p.cache) hH h.kl
  generalize rememberK p.cache H p.known = R at *
  subst e
  refine ⟨rfl, h.t, h.b, h.c1, h.c2, ?_, forgetK_32 hr32, ?_, ?_⟩
  · have := forgetK_len H R
    show ((forgetK H R).length : Int) ≤ p.cache
    omega
  · have := h.m0
    show 0 ≤ p.came + 1
    omega
  · have := h.m1
    show p.came + 1 ≤ ((n + 1 : Nat) : Int)
    omega
end Go.Proofs.YtgagekffmamldaaDoor
set_option linter.unusedVariables false
set_option linter.unusedSimpArgs false
set_option linter.unusedSectionVars false
namespace Go.Proofs.YtgagekffmamldaaDoor
open Go Go.Isk Go.RowKit
set_option maxRecDepth 20000
section
variable {b : Base} {w : World} {L R : List It} {g g3 g8 sz : Nat} {v sv lv kv bv cv e av fv : Value} {cs : List Value} {l : List Act8} {p : PoolD} {n : Int} {α : Type} {Fm : Fam α}
theorem list1 {a : α} (hs : Isk.Sep b w L) (hf : Ins L (Fm cs a).it) (hm : Ins L (slF v 1 sz cs).it) (hc : cs.length = sz) : Isk.Sep b w ((listF Fm sz v [a]).it :: L) := by
  refine hs.fact ⟨[cs], ⟨rfl, fun i hi x hx => ?_⟩, fun x hx => ?_, ?_⟩
  · have h0 : i = 0 := by simp only [List.length_cons, List.length_nil] at hi; omega
    subst h0
    simp only [List.getElem?_cons_zero, Option.some.injEq] at hx
    subst hx
    exact hs.get hf
  · simp only [List.mem_singleton] at hx
    rw [hx]
    exact hc
  · show SlS _ _ v 1 sz [cs].flatten
    rw [List.flatten_cons, List.flatten_nil, List.append_nil]
    exact hs.get hm
theorem dropP_no {p : PoolD} {h : Bytes} (hn : hasP p h = false) : dropP p h = (p, 8) := by
  unfold dropP
  rw [hn]
  exact if_neg (by decide)
theorem KInv.mono {m k : Nat} (h : KInv p m) (hk : m ≤ k) : KInv p k := ⟨h.l, h.t, h.b, h.c1, h.c2, h.kn, h.kl, h.m0, by have := h.m1; omega⟩
def F.isthmuslaw18_PoolKnows_r (k : Value → World → Prop) (k5 : List Value → World → Prop) (a0 t5 t9 t10 t129 : Value) (x1 : Env) (w : World) : Prop :=
  jn (fun x3 => [x3 4, x3 12, x3 13]) (fun k45 =>
  br t129 (fun _ =>
  mv a0 fun t130 =>
  mv (x1 7) fun t131 =>
  o1 Tryd.prog (bin .add 3 (.tmp 131) (.const (.int .i64 1)) t131 (.int .i64 1)) w fun t132 w =>
  o1 Tryd.prog (Instr.indexAt 24 t130 t132) w fun t133 w =>
  o1 Tryd.prog (Instr.fieldAt 36 t133 3) w fun t134 w =>
  o1 Tryd.prog (Instr.loadAt 33 t134) w fun t135 w =>
  C Tryd.prog N.txs_Hash #[t135] w fun t136 w =>
  o1 Tryd.prog (Instr.alloc 40 true (.tuple #[])) w fun t11 w =>
  o0 Tryd.prog (Instr.storeAt 40 t11 t136) w fun _ w =>
  mv t5 fun t138 =>
  mv a0 fun t139 =>
  mv (x1 7) fun t140 =>
  o1 Tryd.prog (bin .add 3 (.tmp 140) (.const (.int .i64 1)) t140 (.int .i64 1)) w fun t141 w =>
  o1 Tryd.prog (Instr.indexAt 24 t139 t141) w fun t142 w =>
  o1 Tryd.prog (Instr.fieldAt 36 t142 3) w fun t143 w =>
  o1 Tryd.prog (Instr.loadAt 33 t143) w fun t144 w =>
  C Tryd.prog N.pool_Pool_Add #[t138, t144, .int .i64 1] w fun t145 w =>
  mv t145 fun t137 =>
  o1 Tryd.prog (Instr.extract t137 0) w fun t146 w =>
  o1 Tryd.prog (Instr.extract t137 1) w fun t147 w =>
  mv t146 fun t12 =>
  mv t147 fun t13 =>
  mv t13 fun t148 =>
  o1 Tryd.prog (bin .neq 28 (.tmp 148) (.const .nilIface) t148 .nilIface) w fun t149 w =>
  mv t149 fun t150 =>
  gd t150 false (fun k46 => mv t5 fun v => k46 v w) w fun t151 w =>
  gd t150 false (fun k47 => o1 Tryd.prog (Instr.loadAt 40 t11) w k47) w fun t152 w =>
  gd t150 false (fun k48 => C Tryd.prog N.pool_Pool_Has #[t151, t152] w k48) w fun t153 w =>
  gd t150 false (fun k49 => o1 Tryd.prog (Op.unary .not t153) w k49) w fun t154 w =>
  pk t150 (.bool true) t154 fun t155 =>
  mv t155 fun t156 =>
  gd t156 false (fun k50 => mv t5 fun v => k50 v w) w fun t157 w =>
  gd t156 false (fun k51 => o1 Tryd.prog (Instr.loadAt 40 t11) w k51) w fun t158 w =>
  gd t156 false (fun k52 => C Tryd.prog N.pool_Pool_Drop #[t157, t158] w k52) w fun t159 w =>
  gd t156 false (fun k53 => o1 Tryd.prog (bin .neq 28 (.tmp 159) (.const .nilIface) t159 .nilIface) w k53) w fun t160 w =>
  pk t156 (.bool true) t160 fun t161 =>
  mv t161 fun t162 =>
  gd t162 false (fun k54 => mv t5 fun v => k54 v w) w fun t163 w =>
  gd t162 false (fun k55 => o1 Tryd.prog (Instr.loadAt 40 t11) w k55) w fun t164 w =>
  gd t162 false (fun k56 => C Tryd.prog N.pool_Pool_Knows #[t163, t164] w k56) w fun t165 w =>
  pk t162 (.bool true) t165 fun t166 =>
  mv t166 fun t167 =>
  gd t167 false (fun k57 => mv t5 fun v => k57 v w) w fun t168 w =>
  gd t167 false (fun k58 => o1 Tryd.prog (Instr.loadAt 40 t11) w k58) w fun t169 w =>
  gd t167 false (fun k59 => C Tryd.prog N.pool_Pool_Drop #[t168, t169] w k59) w fun t170 w =>
  gd t167 false (fun k60 => C Tryd.prog N.isthmuslaw18_num #[t170] w k60) w fun t171 w =>
  gd t167 false (fun k61 => o1 Tryd.prog (bin .neq 3 (.tmp 171) (.const (.int .i64 8)) t171 (.int .i64 8)) w k61) w fun t172 w =>
  pk t167 (.bool true) t172 fun t173 =>
  br t173 (fun _ =>
  mv (.bool false) fun t4_3 =>
  k t4_3 w) (fun _ =>
  k45 [(x1 4), t12, t13] w)) (fun _ =>
  k45 [(x1 4), (x1 12), (x1 13)] w)) fun x3 w =>
  k5 [(x3 4), t9, t10, (x3 12), (x3 13)] w
def F.isthmuslaw18_PoolKnows_s (k : Value → World → Prop) (k5 : List Value → World → Prop) (a0 t5 t9 t10 : Value) (x1 : Env) (w : World) : Prop :=
  mv (x1 7) fun t93 =>
  o1 Tryd.prog (bin .add 3 (.tmp 93) (.const (.int .i64 1)) t93 (.int .i64 1)) w fun t94 w =>
  mv a0 fun t95 =>
  o1 Tryd.prog (Builtin.len_ #[24] 3 #[t95]) w fun t96 w =>
  o1 Tryd.prog (bin .lss 3 (.tmp 94) (.tmp 96) t94 t96) w fun t97 w =>
  mv t97 fun t98 =>
  gd t98 true (fun k19 => mv a0 fun v => k19 v w) w fun t99 w =>
  gd t98 true (fun k20 => mv (x1 7) fun v => k20 v w) w fun t100 w =>
  gd t98 true (fun k21 => o1 Tryd.prog (bin .add 3 (.tmp 100) (.const (.int .i64 1)) t100 (.int .i64 1)) w k21) w fun t101 w =>
  gd t98 true (fun k22 => o1 Tryd.prog (Instr.indexAt 24 t99 t101) w k22) w fun t102 w =>
  gd t98 true (fun k23 => o1 Tryd.prog (Instr.fieldAt 36 t102 3) w k23) w fun t103 w =>
  gd t98 true (fun k24 => o1 Tryd.prog (Instr.loadAt 33 t103) w k24) w fun t104 w =>
  gd t98 true (fun k25 => o1 Tryd.prog (Builtin.len_ #[33] 3 #[t104]) w k25) w fun t105 w =>
  gd t98 true (fun k26 => o1 Tryd.prog (bin .gtr 3 (.tmp 105) (.const (.int .i64 0)) t105 (.int .i64 0)) w k26) w fun t106 w =>
  pk t98 t106 (.bool false) fun t107 =>
  mv t107 fun t108 =>
  gd t108 true (fun k27 => mv a0 fun v => k27 v w) w fun t109 w =>
  gd t108 true (fun k28 => mv (x1 7) fun v => k28 v w) w fun t110 w =>
  gd t108 true (fun k29 => o1 Tryd.prog (bin .add 3 (.tmp 110) (.const (.int .i64 1)) t110 (.int .i64 1)) w k29) w fun t111 w =>
  gd t108 true (fun k30 => o1 Tryd.prog (Instr.indexAt 24 t109 t111) w k30) w fun t112 w =>
  gd t108 true (fun k31 => o1 Tryd.prog (Instr.fieldAt 36 t112 3) w k31) w fun t113 w =>
  gd t108 true (fun k32 => o1 Tryd.prog (Instr.loadAt 33 t113) w k32) w fun t114 w =>
  gd t108 true (fun k33 => o1 Tryd.prog (Builtin.len_ #[33] 3 #[t114]) w k33) w fun t115 w =>
  gd t108 true (fun k34 => o1 Tryd.prog (bin .lss 3 (.tmp 115) (.const (.int .i64 1000)) t115 (.int .i64 1000)) w k34) w fun t116 w =>
  pk t108 t116 (.bool false) fun t117 =>
  mv t117 fun t118 =>
  gd t118 true (fun k35 => mv t5 fun v => k35 v w) w fun t119 w =>
  gd t118 true (fun k36 => mv a0 fun v => k36 v w) w fun t120 w =>
  gd t118 true (fun k37 => mv (x1 7) fun v => k37 v w) w fun t121 w =>
  gd t118 true (fun k38 => o1 Tryd.prog (bin .add 3 (.tmp 121) (.const (.int .i64 1)) t121 (.int .i64 1)) w k38) w fun t122 w =>
  gd t118 true (fun k39 => o1 Tryd.prog (Instr.indexAt 24 t120 t122) w k39) w fun t123 w =>
  gd t118 true (fun k40 => o1 Tryd.prog (Instr.fieldAt 36 t123 3) w k40) w fun t124 w =>
  gd t118 true (fun k41 => o1 Tryd.prog (Instr.loadAt 33 t124) w k41) w fun t125 w =>
  gd t118 true (fun k42 => C Tryd.prog N.txs_Hash #[t125] w k42) w fun t126 w =>
  gd t118 true (fun k43 => C Tryd.prog N.pool_Pool_Knows #[t119, t126] w k43) w fun t127 w =>
  gd t118 true (fun k44 => o1 Tryd.prog (Op.unary .not t127) w k44) w fun t128 w =>
  pk t118 t128 (.bool false) fun t129 =>
  jn (fun x3 => [x3 4, x3 12, x3 13]) (fun k45 =>
  br t129 (fun _ =>
  mv a0 fun t130 =>
  mv (x1 7) fun t131 =>
  o1 Tryd.prog (bin .add 3 (.tmp 131) (.const (.int .i64 1)) t131 (.int .i64 1)) w fun t132 w =>
  o1 Tryd.prog (Instr.indexAt 24 t130 t132) w fun t133 w =>
  o1 Tryd.prog (Instr.fieldAt 36 t133 3) w fun t134 w =>
  o1 Tryd.prog (Instr.loadAt 33 t134) w fun t135 w =>
  C Tryd.prog N.txs_Hash #[t135] w fun t136 w =>
  o1 Tryd.prog (Instr.alloc 40 true (.tuple #[])) w fun t11 w =>
  o0 Tryd.prog (Instr.storeAt 40 t11 t136) w fun _ w =>
  mv t5 fun t138 =>
  mv a0 fun t139 =>
  mv (x1 7) fun t140 =>
  o1 Tryd.prog (bin .add 3 (.tmp 140) (.const (.int .i64 1)) t140 (.int .i64 1)) w fun t141 w =>
  o1 Tryd.prog (Instr.indexAt 24 t139 t141) w fun t142 w =>
  o1 Tryd.prog (Instr.fieldAt 36 t142 3) w fun t143 w =>
  o1 Tryd.prog (Instr.loadAt 33 t143) w fun t144 w =>
  C Tryd.prog N.pool_Pool_Add #[t138, t144, .int .i64 1] w fun t145 w =>
  mv t145 fun t137 =>
  o1 Tryd.prog (Instr.extract t137 0) w fun t146 w =>
  o1 Tryd.prog (Instr.extract t137 1) w fun t147 w =>
  mv t146 fun t12 =>
  mv t147 fun t13 =>
  mv t13 fun t148 =>
  o1 Tryd.prog (bin .neq 28 (.tmp 148) (.const .nilIface) t148 .nilIface) w fun t149 w =>
  mv t149 fun t150 =>
  gd t150 false (fun k46 => mv t5 fun v => k46 v w) w fun t151 w =>
  gd t150 false (fun k47 => o1 Tryd.prog (Instr.loadAt 40 t11) w k47) w fun t152 w =>
  gd t150 false (fun k48 => C Tryd.prog N.pool_Pool_Has #[t151, t152] w k48) w fun t153 w =>
  gd t150 false (fun k49 => o1 Tryd.prog (Op.unary .not t153) w k49) w fun t154 w =>
  pk t150 (.bool true) t154 fun t155 =>
  mv t155 fun t156 =>
  gd t156 false (fun k50 => mv t5 fun v => k50 v w) w fun t157 w =>
  gd t156 false (fun k51 => o1 Tryd.prog (Instr.loadAt 40 t11) w k51) w fun t158 w =>
  gd t156 false (fun k52 => C Tryd.prog N.pool_Pool_Drop #[t157, t158] w k52) w fun t159 w =>
  gd t156 false (fun k53 => o1 Tryd.prog (bin .neq 28 (.tmp 159) (.const .nilIface) t159 .nilIface) w k53) w fun t160 w =>
  pk t156 (.bool true) t160 fun t161 =>
  mv t161 fun t162 =>
  gd t162 false (fun k54 => mv t5 fun v => k54 v w) w fun t163 w =>
  gd t162 false (fun k55 => o1 Tryd.prog (Instr.loadAt 40 t11) w k55) w fun t164 w =>
  gd t162 false (fun k56 => C Tryd.prog N.pool_Pool_Knows #[t163, t164] w k56) w fun t165 w =>
  pk t162 (.bool true) t165 fun t166 =>
  mv t166 fun t167 =>
  gd t167 false (fun k57 => mv t5 fun v => k57 v w) w fun t168 w =>
  gd t167 false (fun k58 => o1 Tryd.prog (Instr.loadAt 40 t11) w k58) w fun t169 w =>
  gd t167 false (fun k59 => C Tryd.prog N.pool_Pool_Drop #[t168, t169] w k59) w fun t170 w =>
  gd t167 false (fun k60 => C Tryd.prog N.isthmuslaw18_num #[t170] w k60) w fun t171 w =>
  gd t167 false (fun k61 => o1 Tryd.prog (bin .neq 3 (.tmp 171) (.const (.int .i64 8)) t171 (.int .i64 8)) w k61) w fun t172 w =>
  pk t167 (.bool true) t172 fun t173 =>
  br t173 (fun _ =>
  mv (.bool false) fun t4_3 =>
  k t4_3 w) (fun _ =>
  k45 [(x1 4), t12, t13] w)) (fun _ =>
  k45 [(x1 4), (x1 12), (x1 13)] w)) fun x3 w =>
  k5 [(x3 4), t9, t10, (x3 12), (x3 13)] w
abbrev PK (g : Nat) (p : PoolD) (lv kv : Value) (L : List It) : List It := blkI g T.pool_Pool (poolV p lv kv) :: growI itemF T.pool_item 35 lv p.l :: (listF hashF 32 kv p.known).it :: L
def K5 (b : Base) (g : Nat) (L : List It) (i : Nat) (us : List Value) (w' : World) : Prop := ∃ (p : PoolD) (lv kv y1 y2 y3 y4 : Value), us = [.bool false, y1, y2, y3, y4] ∧ KInv p (i + 1) ∧ Isk.Sep b w' (PK g p lv kv L)
theorem knows_r {k : Value → World → Prop} {x1 : Env} {i : Nat} {t9 t10 : Value} (hl : Ins L (listF act8F 5 av l).it) (hB8 : ∀ x ∈ l, x.tx.length ≤ 1048576) (hT : Ins L errT.it) (hR : Ins L rndF.it) (h4 : x1 4 = .bool false) (h7 : x1 7 = .int .i64 (i : Int)) (hi : i < 40) (hi2 : i + 1 < l.length)
    (h0 : l[i + 1].tx ≠ []) (h1 : l[i + 1].tx.length < 1000) (hkn : ¬ knowsP p (hB l[i + 1].tx) = true) (hI : KInv p i) (hs : Isk.Sep b w (PK g p lv kv L)) :
    F.isthmuslaw18_PoolKnows_r k (K5 b g L i) av (.pointer (some ⟨g, 0, none⟩)) t9 t10 (.bool true) x1 w := by
  have hH := hB_len l[i + 1].tx
  obtain ⟨g1, o1, cs, hix, hcl, hs⟩ := hs.el (P := Tryd.prog) (T := T.sl_isthmuslaw18_Act) (.tl (.tl (.tl hl))) a8T (i + 1) hi2
  obtain ⟨Ax, cx, lx, rfl, hs⟩ := act8_open hs (.tl .hd)
  unfold F.isthmuslaw18_PoolKnows_r
  generalize l[i + 1] = x at *
  simp only [h4, h7]
  have hw : IntKind.i64.wrap ((i : Int) + 1) = ((i + 1 : Nat) : Int) := by simp [IntKind.wrap, IntKind.signed, IntKind.bits]; omega
  refine jn_by (fun us w' => ∃ (p : PoolD) (lv kv y3 y4 : Value), us = [.bool false, y3, y4] ∧ KInv p (i + 1) ∧ Isk.Sep b w' (PK g p lv kv L)) ?_ ?_
  · repeat (first
     | (with_reducible (first | refine st_lens ?_ | refine st_eqls ?_ | refine st_nels ?_ | refine tk_eqls ?_ | refine tk_nels ?_ | refine mv.mk ?_ | refine nk_p ?_ | refine gdT_i ?_ | refine gdT_ft ?_ | refine gdT_tf ?_ | refine gdT_u ?_ | refine gd_u ?_ | refine gd_ft ?_ | refine gd_tf ?_ | refine gd_i ?_ | refine pk_t ?_ | refine pk_f ?_ | refine br_t ?_ | refine br_f ?_ | refine sp_boxa hs fun g w hs => ?_))
     | (with_reducible ((first | apply st_bin | apply st_ext | apply st_len | apply st_un | apply st_conv | apply st_mki | apply st_fld | apply st_cap | apply st_max | apply st_min | apply st_ixv | apply st_mkf); intro k' hk; simp [go_sem, thenR_ok, bin]; refine hk _ _ ?_; clear hk k'))
     | ((with_reducible (first | apply tk_bin | apply tk_ext | apply tk_len | apply tk_un)); (· intro w; simp [go_sem, bin]; rfl))
     | ((with_reducible apply sp_newr hs); (· kernel_rfl); intro g w hs))
    rw [hw]
    refine st_of (hix .i64 w) ?_
    repeat (first
     | (with_reducible refine act8.a0 ?_)
     | ((with_reducible apply act8.r0 hs); (· (with_reducible (repeat (first | exact .blk | exact .rng | apply Rng.tl)))))
     | (with_reducible refine act8.c0 ?_)
     | ((with_reducible apply act8.e0); (· first | exact hS | exact hid); (· (with_reducible (repeat (first | exact .blk | exact .rng | apply Rng.tl)))))
     | (with_reducible refine act8.a1 ?_)
     | ((with_reducible apply act8.r1 hs); (· (with_reducible (repeat (first | exact .blk | exact .rng | apply Rng.tl)))))
     | (with_reducible refine act8.c1 ?_)
     | ((with_reducible apply act8.e1); (· first | exact hS | exact hid); (· (with_reducible (repeat (first | exact .blk | exact .rng | apply Rng.tl)))))
     | (with_reducible refine act8.a2 ?_)
     | ((with_reducible apply act8.r2 hs); (· (with_reducible (repeat (first | exact .blk | exact .rng | apply Rng.tl)))))
     | (with_reducible refine act8.c2 ?_)
     | ((with_reducible apply act8.e2); (· first | exact hS | exact hid); (· (with_reducible (repeat (first | exact .blk | exact .rng | apply Rng.tl)))))
     | (with_reducible refine act8.a3 ?_)
     | ((with_reducible apply act8.r3 hs); (· (with_reducible (repeat (first | exact .blk | exact .rng | apply Rng.tl)))))
     | (with_reducible refine act8.c3 ?_)
     | ((with_reducible apply act8.e3); (· first | exact hS | exact hid); (· (with_reducible (repeat (first | exact .blk | exact .rng | apply Rng.tl)))))
     | (with_reducible refine act8.a4 ?_)
     | ((with_reducible apply act8.r4 hs); (· (with_reducible (repeat (first | exact .blk | exact .rng | apply Rng.tl)))))
     | (with_reducible refine act8.c4 ?_)
     | ((with_reducible apply act8.e4); (· first | exact hS | exact hid); (· (with_reducible (repeat (first | exact .blk | exact .rng | apply Rng.tl)))))
     | (with_reducible (first | refine st_lens ?_ | refine st_eqls ?_ | refine st_nels ?_ | refine tk_eqls ?_ | refine tk_nels ?_ | refine mv.mk ?_ | refine nk_p ?_ | refine gdT_i ?_ | refine gdT_ft ?_ | refine gdT_tf ?_ | refine gdT_u ?_ | refine gd_u ?_ | refine gd_ft ?_ | refine gd_tf ?_ | refine gd_i ?_ | refine pk_t ?_ | refine pk_f ?_ | refine br_t ?_ | refine br_f ?_ | refine sp_boxa hs fun g w hs => ?_))
     | (with_reducible ((first | apply st_bin | apply st_ext | apply st_len | apply st_un | apply st_conv | apply st_mki | apply st_fld | apply st_cap | apply st_max | apply st_min | apply st_ixv | apply st_mkf); intro k' hk; simp [go_sem, thenR_ok, bin]; refine hk _ _ ?_; clear hk k'))
     | ((with_reducible (first | apply tk_bin | apply tk_ext | apply tk_len | apply tk_un)); (· intro w; simp [go_sem, bin]; rfl))
     | ((with_reducible apply sp_newr hs); (· kernel_rfl); intro g w hs))
    refine cl (txs_Hash (l := x.tx) hs (.tl (.tl (.tl (.tl (.tl (.tl (.tl hR))))))) (.tl .hd) (by omega)) ?_
    rintro _ w ⟨rfl, hs⟩
    refine sp_newr hs (by kernel_rfl) fun g6 w hs => ?_
    refine sp_setr (ds := u8s (hB x.tx)) hs .hd (by kernel_rfl) (by rw [u8s_length, hH]) (u8s_one _) fun w hs => ?_
    repeat (first
     | (with_reducible (first | refine st_lens ?_ | refine st_eqls ?_ | refine st_nels ?_ | refine tk_eqls ?_ | refine tk_nels ?_ | refine mv.mk ?_ | refine nk_p ?_ | refine gdT_i ?_ | refine gdT_ft ?_ | refine gdT_tf ?_ | refine gdT_u ?_ | refine gd_u ?_ | refine gd_ft ?_ | refine gd_tf ?_ | refine gd_i ?_ | refine pk_t ?_ | refine pk_f ?_ | refine br_t ?_ | refine br_f ?_ | refine sp_boxa hs fun g w hs => ?_))
     | (with_reducible ((first | apply st_bin | apply st_ext | apply st_len | apply st_un | apply st_conv | apply st_mki | apply st_fld | apply st_cap | apply st_max | apply st_min | apply st_ixv | apply st_mkf); intro k' hk; simp [go_sem, thenR_ok, bin]; refine hk _ _ ?_; clear hk k'))
     | ((with_reducible (first | apply tk_bin | apply tk_ext | apply tk_len | apply tk_un)); (· intro w; simp [go_sem, bin]; rfl))
     | ((with_reducible apply sp_newr hs); (· kernel_rfl); intro g w hs))
    rw [hw]
    refine st_of (hix .i64 w) ?_
    repeat (first
     | (with_reducible refine act8.a0 ?_)
     | ((with_reducible apply act8.r0 hs); (· (with_reducible (repeat (first | exact .blk | exact .rng | apply Rng.tl)))))
     | (with_reducible refine act8.c0 ?_)
     | ((with_reducible apply act8.e0); (· first | exact hS | exact hid); (· (with_reducible (repeat (first | exact .blk | exact .rng | apply Rng.tl)))))
     | (with_reducible refine act8.a1 ?_)
     | ((with_reducible apply act8.r1 hs); (· (with_reducible (repeat (first | exact .blk | exact .rng | apply Rng.tl)))))
     | (with_reducible refine act8.c1 ?_)
     | ((with_reducible apply act8.e1); (· first | exact hS | exact hid); (· (with_reducible (repeat (first | exact .blk | exact .rng | apply Rng.tl)))))
     | (with_reducible refine act8.a2 ?_)
     | ((with_reducible apply act8.r2 hs); (· (with_reducible (repeat (first | exact .blk | exact .rng | apply Rng.tl)))))
     | (with_reducible refine act8.c2 ?_)
     | ((with_reducible apply act8.e2); (· first | exact hS | exact hid); (· (with_reducible (repeat (first | exact .blk | exact .rng | apply Rng.tl)))))
     | (with_reducible refine act8.a3 ?_)
     | ((with_reducible apply act8.r3 hs); (· (with_reducible (repeat (first | exact .blk | exact .rng | apply Rng.tl)))))
     | (with_reducible refine act8.c3 ?_)
     | ((with_reducible apply act8.e3); (· first | exact hS | exact hid); (· (with_reducible (repeat (first | exact .blk | exact .rng | apply Rng.tl)))))
     | (with_reducible refine act8.a4 ?_)
     | ((with_reducible apply act8.r4 hs); (· (with_reducible (repeat (first | exact .blk | exact .rng | apply Rng.tl)))))
     | (with_reducible refine act8.c4 ?_)
     | ((with_reducible apply act8.e4); (· first | exact hS | exact hid); (· (with_reducible (repeat (first | exact .blk | exact .rng | apply Rng.tl)))))
     | (with_reducible (first | refine st_lens ?_ | refine st_eqls ?_ | refine st_nels ?_ | refine tk_eqls ?_ | refine tk_nels ?_ | refine mv.mk ?_ | refine nk_p ?_ | refine gdT_i ?_ | refine gdT_ft ?_ | refine gdT_tf ?_ | refine gdT_u ?_ | refine gd_u ?_ | refine gd_ft ?_ | refine gd_tf ?_ | refine gd_i ?_ | refine pk_t ?_ | refine pk_f ?_ | refine br_t ?_ | refine br_f ?_ | refine sp_boxa hs fun g w hs => ?_))
     | (with_reducible ((first | apply st_bin | apply st_ext | apply st_len | apply st_un | apply st_conv | apply st_mki | apply st_fld | apply st_cap | apply st_max | apply st_min | apply st_ixv | apply st_mkf); intro k' hk; simp [go_sem, thenR_ok, bin]; refine hk _ _ ?_; clear hk k'))
     | ((with_reducible (first | apply tk_bin | apply tk_ext | apply tk_len | apply tk_un)); (· intro w; simp [go_sem, bin]; rfl))
     | ((with_reducible apply sp_newr hs); (· kernel_rfl); intro g w hs))
    refine cl (pool_Add (bts := x.tx) (fee := 1) hI.ok (by omega) (by omega) (.tl (.tl (.tl (.tl (.tl hR))))) (.tl (.tl .hd)) (hs.sbl (.cons (.tl (.tl (.tl (.tl (.tl .hd))))) (.cons (.tl (.tl (.tl (.tl (.tl .hd))))) (.cons (.tl (.tl (.tl (.tl (.tl .hd))))) .all))))) ?_
    rintro _ w ⟨gv, e, lv2, kv2, rfl, hs⟩
    rw [hI.add1 h0 (by omega) hkn] at hs
    dsimp only at hs
    obtain rfl := errF_zero8 hs (.tl .hd)
    have hh := hasP_one (q := { p with l := [⟨x.tx, 1, p.came⟩], known := rememberK p.cache (hB x.tx) p.known, came := p.came + 1 }) (i := ⟨x.tx, 1, p.came⟩) (H := hB x.tx) rfl rfl
    have hd := dropP_one (q := { p with l := [⟨x.tx, 1, p.came⟩], known := rememberK p.cache (hB x.tx) p.known, came := p.came + 1 }) (i := ⟨x.tx, 1, p.came⟩) (H := hB x.tx) rfl rfl
    dsimp only at hd
    have hq2 := hI.add2 (H := hB x.tx) hH rfl
    have hkf := knowsP_forgot (q := { p with l := [], known := forgetK (hB x.tx) (rememberK p.cache (hB x.tx) p.known), came := p.came + 1 }) (H := hB x.tx) rfl rfl
    have hrl : ((rememberK p.cache (hB x.tx) p.known).length : Int) ≤ p.cache := rememberK_len (by have := hI.c1; omega)
    have hc2 := hI.c2
    generalize ({ p with l := [], known := forgetK (hB x.tx) (rememberK p.cache (hB x.tx) p.known), came := p.came + 1 } : PoolD) = q2 at *
    have hql : ({ p with l := [⟨x.tx, 1, p.came⟩], known := rememberK p.cache (hB x.tx) p.known, came := p.came + 1 } : PoolD).l.length ≤ 1 := Nat.le_refl _
    have hqk : (({ p with l := [⟨x.tx, 1, p.came⟩], known := rememberK p.cache (hB x.tx) p.known, came := p.came + 1 } : PoolD).known.length : Int) ≤ 5 := by
      show ((rememberK p.cache (hB x.tx) p.known).length : Int) ≤ 5
      omega
    replace hs : Isk.Sep b w ((listF hashF 32 gv []).it :: (errF .nilIface 0).it :: PK g { p with l := [⟨x.tx, 1, p.came⟩], known := rememberK p.cache (hB x.tx) p.known, came := p.came + 1 } lv2 kv2 _) := hs
    generalize ({ p with l := [⟨x.tx, 1, p.came⟩], known := rememberK p.cache (hB x.tx) p.known, came := p.came + 1 } : PoolD) = q1 at *
    repeat (first
     | (with_reducible (first | refine st_lens ?_ | refine st_eqls ?_ | refine st_nels ?_ | refine tk_eqls ?_ | refine tk_nels ?_ | refine mv.mk ?_ | refine nk_p ?_ | refine gdT_i ?_ | refine gdT_ft ?_ | refine gdT_tf ?_ | refine gdT_u ?_ | refine gd_u ?_ | refine gd_ft ?_ | refine gd_tf ?_ | refine gd_i ?_ | refine pk_t ?_ | refine pk_f ?_ | refine br_t ?_ | refine br_f ?_ | refine sp_boxa hs fun g w hs => ?_))
     | (with_reducible ((first | apply st_bin | apply st_ext | apply st_len | apply st_un | apply st_conv | apply st_mki | apply st_fld | apply st_cap | apply st_max | apply st_min | apply st_ixv | apply st_mkf); intro k' hk; simp [go_sem, thenR_ok, bin]; refine hk _ _ ?_; clear hk k'))
     | ((with_reducible (first | apply tk_bin | apply tk_ext | apply tk_len | apply tk_un)); (· intro w; simp [go_sem, bin]; rfl))
     | ((with_reducible apply sp_newr hs); (· kernel_rfl); intro g w hs))
    refine sp_ldn hs (.tl (.tl (.tl (.tl (.tl .blk))))) (by kernel_rfl) (by rw [u8s_length, hH]) ?_
    refine gd_i ?_
    refine cl (pool_Has (p := q1) (by omega) hH (hs.sbl (.cons (.tl (.tl .hd)) (.cons (.tl (.tl .hd)) .all)))) ?_
    rintro _ w ⟨rfl, hs⟩
    rw [hh]
    repeat (first
     | (with_reducible (first | refine st_lens ?_ | refine st_eqls ?_ | refine st_nels ?_ | refine tk_eqls ?_ | refine tk_nels ?_ | refine mv.mk ?_ | refine nk_p ?_ | refine gdT_i ?_ | refine gdT_ft ?_ | refine gdT_tf ?_ | refine gdT_u ?_ | refine gd_u ?_ | refine gd_ft ?_ | refine gd_tf ?_ | refine gd_i ?_ | refine pk_t ?_ | refine pk_f ?_ | refine br_t ?_ | refine br_f ?_ | refine sp_boxa hs fun g w hs => ?_))
     | (with_reducible ((first | apply st_bin | apply st_ext | apply st_len | apply st_un | apply st_conv | apply st_mki | apply st_fld | apply st_cap | apply st_max | apply st_min | apply st_ixv | apply st_mkf); intro k' hk; simp [go_sem, thenR_ok, bin]; refine hk _ _ ?_; clear hk k'))
     | ((with_reducible (first | apply tk_bin | apply tk_ext | apply tk_len | apply tk_un)); (· intro w; simp [go_sem, bin]; rfl))
     | ((with_reducible apply sp_newr hs); (· kernel_rfl); intro g w hs))
    refine sp_ldn hs (.tl (.tl (.tl (.tl (.tl .blk))))) (by kernel_rfl) (by rw [u8s_length, hH]) ?_
    refine gd_i ?_
    refine cl (pool_Drop (p := q1) (by omega) (by omega) hH (hs.sbl (.cons .hd (.cons .hd (.cons (.tl (.tl .hd)) .all))))) ?_
    rintro e w ⟨lv3, kv3, hs⟩
    rw [hd] at hs
    dsimp only at hs
    obtain rfl := errF_zero8 hs .hd
    repeat (first
     | (with_reducible (first | refine st_lens ?_ | refine st_eqls ?_ | refine st_nels ?_ | refine tk_eqls ?_ | refine tk_nels ?_ | refine mv.mk ?_ | refine nk_p ?_ | refine gdT_i ?_ | refine gdT_ft ?_ | refine gdT_tf ?_ | refine gdT_u ?_ | refine gd_u ?_ | refine gd_ft ?_ | refine gd_tf ?_ | refine gd_i ?_ | refine pk_t ?_ | refine pk_f ?_ | refine br_t ?_ | refine br_f ?_ | refine sp_boxa hs fun g w hs => ?_))
     | (with_reducible ((first | apply st_bin | apply st_ext | apply st_len | apply st_un | apply st_conv | apply st_mki | apply st_fld | apply st_cap | apply st_max | apply st_min | apply st_ixv | apply st_mkf); intro k' hk; simp [go_sem, thenR_ok, bin]; refine hk _ _ ?_; clear hk k'))
     | ((with_reducible (first | apply tk_bin | apply tk_ext | apply tk_len | apply tk_un)); (· intro w; simp [go_sem, bin]; rfl))
     | ((with_reducible apply sp_newr hs); (· kernel_rfl); intro g w hs))
    refine sp_ldn hs (.tl (.tl (.tl (.tl (.tl (.tl .blk)))))) (by kernel_rfl) (by rw [u8s_length, hH]) ?_
    refine gd_i ?_
    refine cl (pool_Knows (p := q2) (by rw [hq2.l]; decide) (by have := hq2.kn; have := hq2.c2; omega) hH (hs.sbl (.cons (.tl .hd) (.cons (.tl .hd) .all))) (.tl .hd)) ?_
    rintro _ w ⟨rfl, hs⟩
    rw [hkf]
    repeat (first
     | (with_reducible (first | refine st_lens ?_ | refine st_eqls ?_ | refine st_nels ?_ | refine tk_eqls ?_ | refine tk_nels ?_ | refine mv.mk ?_ | refine nk_p ?_ | refine gdT_i ?_ | refine gdT_ft ?_ | refine gdT_tf ?_ | refine gdT_u ?_ | refine gd_u ?_ | refine gd_ft ?_ | refine gd_tf ?_ | refine gd_i ?_ | refine pk_t ?_ | refine pk_f ?_ | refine br_t ?_ | refine br_f ?_ | refine sp_boxa hs fun g w hs => ?_))
     | (with_reducible ((first | apply st_bin | apply st_ext | apply st_len | apply st_un | apply st_conv | apply st_mki | apply st_fld | apply st_cap | apply st_max | apply st_min | apply st_ixv | apply st_mkf); intro k' hk; simp [go_sem, thenR_ok, bin]; refine hk _ _ ?_; clear hk k'))
     | ((with_reducible (first | apply tk_bin | apply tk_ext | apply tk_len | apply tk_un)); (· intro w; simp [go_sem, bin]; rfl))
     | ((with_reducible apply sp_newr hs); (· kernel_rfl); intro g w hs))
    refine sp_ldn hs (.tl (.tl (.tl (.tl (.tl (.tl .blk)))))) (by kernel_rfl) (by rw [u8s_length, hH]) ?_
    refine gd_i ?_
    refine cl (pool_Drop (p := q2) (by rw [hq2.l]; decide) (by have := hq2.kn; have := hq2.c2; omega) hH (hs.sbl (.cons .hd (.cons .hd (.cons (.tl .hd) .all))))) ?_
    rintro e w ⟨lv4, kv4, hs⟩
    rw [dropP_no (hq2.has _)] at hs
    refine gd_i ?_
    refine cl (isthmuslaw18_num hs (.tl (.tl (.tl (.tl (.tl (.tl (.tl (.tl (.tl (.tl (.tl (.tl hT)))))))))))) .hd) ?_
    rintro _ w ⟨rfl, hs⟩
    repeat (first
     | (with_reducible (first | refine st_lens ?_ | refine st_eqls ?_ | refine st_nels ?_ | refine tk_eqls ?_ | refine tk_nels ?_ | refine mv.mk ?_ | refine nk_p ?_ | refine gdT_i ?_ | refine gdT_ft ?_ | refine gdT_tf ?_ | refine gdT_u ?_ | refine gd_u ?_ | refine gd_ft ?_ | refine gd_tf ?_ | refine gd_i ?_ | refine pk_t ?_ | refine pk_f ?_ | refine br_t ?_ | refine br_f ?_ | refine sp_boxa hs fun g w hs => ?_))
     | (with_reducible ((first | apply st_bin | apply st_ext | apply st_len | apply st_un | apply st_conv | apply st_mki | apply st_fld | apply st_cap | apply st_max | apply st_min | apply st_ixv | apply st_mkf); intro k' hk; simp [go_sem, thenR_ok, bin]; refine hk _ _ ?_; clear hk k'))
     | ((with_reducible (first | apply tk_bin | apply tk_ext | apply tk_len | apply tk_un)); (· intro w; simp [go_sem, bin]; rfl))
     | ((with_reducible apply sp_newr hs); (· kernel_rfl); intro g w hs))
    exact ⟨q2, lv4, kv4, _, _, rfl, hq2, hs.sbl (.cons (.tl .hd) (.cons (.tl .hd) (.cons (.tl .hd) (.drop (.drop (.drop (.drop (.drop (.drop (.drop (.drop (.drop .all))))))))))))⟩
  · rintro x3 w ⟨p, lv, kv, y3, y4, hx3, hI, hs⟩
    simp only [List.cons.injEq, and_true] at hx3
    simp only [hx3.1, hx3.2.1, hx3.2.2]
    exact ⟨p, lv, kv, _, _, _, _, rfl, hI, hs⟩
theorem knows_f {k : Value → World → Prop} {x1 : Env} {i : Nat} {t9 t10 : Value} (h4 : x1 4 = .bool false) (hI : KInv p i) (hs : Isk.Sep b w (PK g p lv kv L)) :
    F.isthmuslaw18_PoolKnows_r k (K5 b g L i) av (.pointer (some ⟨g, 0, none⟩)) t9 t10 (.bool false) x1 w := by
  unfold F.isthmuslaw18_PoolKnows_r
  simp only [h4]
  refine jn_by (fun us w' => ∃ (p : PoolD) (lv kv y3 y4 : Value), us = [.bool false, y3, y4] ∧ KInv p (i + 1) ∧ Isk.Sep b w' (PK g p lv kv L)) ?_ ?_
  · repeat (first
     | (with_reducible (first | refine st_lens ?_ | refine st_eqls ?_ | refine st_nels ?_ | refine tk_eqls ?_ | refine tk_nels ?_ | refine mv.mk ?_ | refine nk_p ?_ | refine gdT_i ?_ | refine gdT_ft ?_ | refine gdT_tf ?_ | refine gdT_u ?_ | refine gd_u ?_ | refine gd_ft ?_ | refine gd_tf ?_ | refine gd_i ?_ | refine pk_t ?_ | refine pk_f ?_ | refine br_t ?_ | refine br_f ?_ | refine sp_boxa hs fun g w hs => ?_))
     | (with_reducible ((first | apply st_bin | apply st_ext | apply st_len | apply st_un | apply st_conv | apply st_mki | apply st_fld | apply st_cap | apply st_max | apply st_min | apply st_ixv | apply st_mkf); intro k' hk; simp [go_sem, thenR_ok, bin]; refine hk _ _ ?_; clear hk k'))
     | ((with_reducible (first | apply tk_bin | apply tk_ext | apply tk_len | apply tk_un)); (· intro w; simp [go_sem, bin]; rfl))
     | ((with_reducible apply sp_newr hs); (· kernel_rfl); intro g w hs))
    exact ⟨p, lv, kv, _, _, rfl, hI.mono (Nat.le_succ _), hs⟩
  · rintro x3 w ⟨p, lv, kv, y3, y4, hx3, hI, hs⟩
    simp only [List.cons.injEq, and_true] at hx3
    simp only [hx3.1, hx3.2.1, hx3.2.2]
    exact ⟨p, lv, kv, _, _, _, _, rfl, hI, hs⟩
theorem knows_s {k : Value → World → Prop} {x1 : Env} {i : Nat} {t9 t10 : Value} (hl : Ins L (listF act8F 5 av l).it) (hB8 : ∀ x ∈ l, x.tx.length ≤ 1048576) (hT : Ins L errT.it) (hR : Ins L rndF.it) (h4 : x1 4 = .bool false) (h7 : x1 7 = .int .i64 (i : Int)) (hi : i < 40) (hI : KInv p i) (hs : Isk.Sep b w (PK g p lv kv L)) :
    F.isthmuslaw18_PoolKnows_s k (K5 b g L i) av (.pointer (some ⟨g, 0, none⟩)) t9 t10 x1 w := by
  obtain ⟨Al, cl', rfl⟩ := hs.lst_len (.tl (.tl (.tl hl.lst)))
  have hw : IntKind.i64.wrap ((i : Int) + 1) = ((i + 1 : Nat) : Int) := by simp [IntKind.wrap, IntKind.signed, IntKind.bits]; omega
  unfold F.isthmuslaw18_PoolKnows_s
  simp only [h7]
  repeat (first
   | (with_reducible (first | refine st_lens ?_ | refine st_eqls ?_ | refine st_nels ?_ | refine tk_eqls ?_ | refine tk_nels ?_ | refine mv.mk ?_ | refine nk_p ?_ | refine gdT_i ?_ | refine gdT_ft ?_ | refine gdT_tf ?_ | refine gdT_u ?_ | refine gd_u ?_ | refine gd_ft ?_ | refine gd_tf ?_ | refine gd_i ?_ | refine pk_t ?_ | refine pk_f ?_ | refine br_t ?_ | refine br_f ?_ | refine sp_boxa hs fun g w hs => ?_))
   | (with_reducible ((first | apply st_bin | apply st_ext | apply st_len | apply st_un | apply st_conv | apply st_mki | apply st_fld | apply st_cap | apply st_max | apply st_min | apply st_ixv | apply st_mkf); intro k' hk; simp [go_sem, thenR_ok, bin]; refine hk _ _ ?_; clear hk k'))
   | ((with_reducible (first | apply tk_bin | apply tk_ext | apply tk_len | apply tk_un)); (· intro w; simp [go_sem, bin]; rfl))
   | ((with_reducible apply sp_newr hs); (· kernel_rfl); intro g w hs))
  rw [hw]
  by_cases hi2 : i + 1 < l.length
  · have hd : decide (((i + 1 : Nat) : Int) < (l.length : Int)) = true := by simp; omega
    rw [hd]
    obtain ⟨g1, o1, cs, hix, hcl, hs⟩ := hs.el (P := Tryd.prog) (T := T.sl_isthmuslaw18_Act) (.tl (.tl (.tl hl))) a8T (i + 1) hi2
    have hxl := hB8 _ (List.getElem_mem hi2)
    obtain ⟨Ax, cx, lx, rfl, hs⟩ := act8_open hs (.tl .hd)
    have hH := hB_len l[i + 1].tx
    have hnx := fun (h0 : l[i + 1].tx ≠ []) (h1 : l[i + 1].tx.length < 1000) (hkn : ¬ knowsP p (hB l[i + 1].tx) = true) (w : World) (hs : Isk.Sep b w (PK g p lv kv L)) => knows_r (k := k) (x1 := x1) (i := i) (t9 := t9) (t10 := t10) hl hB8 hT hR h4 h7 hi hi2 h0 h1 hkn hI hs
    have hno := fun (w : World) (hs : Isk.Sep b w (PK g p lv kv L)) => knows_f (av := .slice Al l.length cl') (k := k) (x1 := x1) (i := i) (t9 := t9) (t10 := t10) h4 hI hs
    generalize l[i + 1] = x at *
    unfold F.isthmuslaw18_PoolKnows_r at hno hnx
    simp only [h7] at hno hnx
    repeat (first
     | (with_reducible (first | refine st_lens ?_ | refine st_eqls ?_ | refine st_nels ?_ | refine tk_eqls ?_ | refine tk_nels ?_ | refine mv.mk ?_ | refine nk_p ?_ | refine gdT_i ?_ | refine gdT_ft ?_ | refine gdT_tf ?_ | refine gdT_u ?_ | refine gd_u ?_ | refine gd_ft ?_ | refine gd_tf ?_ | refine gd_i ?_ | refine pk_t ?_ | refine pk_f ?_ | refine br_t ?_ | refine br_f ?_ | refine sp_boxa hs fun g w hs => ?_))
     | (with_reducible ((first | apply st_bin | apply st_ext | apply st_len | apply st_un | apply st_conv | apply st_mki | apply st_fld | apply st_cap | apply st_max | apply st_min | apply st_ixv | apply st_mkf); intro k' hk; simp [go_sem, thenR_ok, bin]; refine hk _ _ ?_; clear hk k'))
     | ((with_reducible (first | apply tk_bin | apply tk_ext | apply tk_len | apply tk_un)); (· intro w; simp [go_sem, bin]; rfl))
     | ((with_reducible apply sp_newr hs); (· kernel_rfl); intro g w hs))
    rw [hw]
    refine st_of (hix .i64 w) ?_
    repeat (first
     | (with_reducible refine act8.a0 ?_)
     | ((with_reducible apply act8.r0 hs); (· (with_reducible (repeat (first | exact .blk | exact .rng | apply Rng.tl)))))
     | (with_reducible refine act8.c0 ?_)
     | ((with_reducible apply act8.e0); (· first | exact hS | exact hid); (· (with_reducible (repeat (first | exact .blk | exact .rng | apply Rng.tl)))))
     | (with_reducible refine act8.a1 ?_)
     | ((with_reducible apply act8.r1 hs); (· (with_reducible (repeat (first | exact .blk | exact .rng | apply Rng.tl)))))
     | (with_reducible refine act8.c1 ?_)
     | ((with_reducible apply act8.e1); (· first | exact hS | exact hid); (· (with_reducible (repeat (first | exact .blk | exact .rng | apply Rng.tl)))))
     | (with_reducible refine act8.a2 ?_)
     | ((with_reducible apply act8.r2 hs); (· (with_reducible (repeat (first | exact .blk | exact .rng | apply Rng.tl)))))
     | (with_reducible refine act8.c2 ?_)
     | ((with_reducible apply act8.e2); (· first | exact hS | exact hid); (· (with_reducible (repeat (first | exact .blk | exact .rng | apply Rng.tl)))))
     | (with_reducible refine act8.a3 ?_)
     | ((with_reducible apply act8.r3 hs); (· (with_reducible (repeat (first | exact .blk | exact .rng | apply Rng.tl)))))
     | (with_reducible refine act8.c3 ?_)
     | ((with_reducible apply act8.e3); (· first | exact hS | exact hid); (· (with_reducible (repeat (first | exact .blk | exact .rng | apply Rng.tl)))))
     | (with_reducible refine act8.a4 ?_)
     | ((with_reducible apply act8.r4 hs); (· (with_reducible (repeat (first | exact .blk | exact .rng | apply Rng.tl)))))
     | (with_reducible refine act8.c4 ?_)
     | ((with_reducible apply act8.e4); (· first | exact hS | exact hid); (· (with_reducible (repeat (first | exact .blk | exact .rng | apply Rng.tl)))))
     | (with_reducible (first | refine st_lens ?_ | refine st_eqls ?_ | refine st_nels ?_ | refine tk_eqls ?_ | refine tk_nels ?_ | refine mv.mk ?_ | refine nk_p ?_ | refine gdT_i ?_ | refine gdT_ft ?_ | refine gdT_tf ?_ | refine gdT_u ?_ | refine gd_u ?_ | refine gd_ft ?_ | refine gd_tf ?_ | refine gd_i ?_ | refine pk_t ?_ | refine pk_f ?_ | refine br_t ?_ | refine br_f ?_ | refine sp_boxa hs fun g w hs => ?_))
     | (with_reducible ((first | apply st_bin | apply st_ext | apply st_len | apply st_un | apply st_conv | apply st_mki | apply st_fld | apply st_cap | apply st_max | apply st_min | apply st_ixv | apply st_mkf); intro k' hk; simp [go_sem, thenR_ok, bin]; refine hk _ _ ?_; clear hk k'))
     | ((with_reducible (first | apply tk_bin | apply tk_ext | apply tk_len | apply tk_un)); (· intro w; simp [go_sem, bin]; rfl))
     | ((with_reducible apply sp_newr hs); (· kernel_rfl); intro g w hs))
    by_cases h0 : 0 < x.tx.length
    · rw [show decide (0 < x.tx.length) = true by simpa using h0]
      repeat (first
       | (with_reducible (first | refine st_lens ?_ | refine st_eqls ?_ | refine st_nels ?_ | refine tk_eqls ?_ | refine tk_nels ?_ | refine mv.mk ?_ | refine nk_p ?_ | refine gdT_i ?_ | refine gdT_ft ?_ | refine gdT_tf ?_ | refine gdT_u ?_ | refine gd_u ?_ | refine gd_ft ?_ | refine gd_tf ?_ | refine gd_i ?_ | refine pk_t ?_ | refine pk_f ?_ | refine br_t ?_ | refine br_f ?_ | refine sp_boxa hs fun g w hs => ?_))
       | (with_reducible ((first | apply st_bin | apply st_ext | apply st_len | apply st_un | apply st_conv | apply st_mki | apply st_fld | apply st_cap | apply st_max | apply st_min | apply st_ixv | apply st_mkf); intro k' hk; simp [go_sem, thenR_ok, bin]; refine hk _ _ ?_; clear hk k'))
       | ((with_reducible (first | apply tk_bin | apply tk_ext | apply tk_len | apply tk_un)); (· intro w; simp [go_sem, bin]; rfl))
       | ((with_reducible apply sp_newr hs); (· kernel_rfl); intro g w hs))
      rw [hw]
      refine st_of (hix .i64 w) ?_
      repeat (first
       | (with_reducible refine act8.a0 ?_)
       | ((with_reducible apply act8.r0 hs); (· (with_reducible (repeat (first | exact .blk | exact .rng | apply Rng.tl)))))
       | (with_reducible refine act8.c0 ?_)
       | ((with_reducible apply act8.e0); (· first | exact hS | exact hid); (· (with_reducible (repeat (first | exact .blk | exact .rng | apply Rng.tl)))))
       | (with_reducible refine act8.a1 ?_)
       | ((with_reducible apply act8.r1 hs); (· (with_reducible (repeat (first | exact .blk | exact .rng | apply Rng.tl)))))
       | (with_reducible refine act8.c1 ?_)
       | ((with_reducible apply act8.e1); (· first | exact hS | exact hid); (· (with_reducible (repeat (first | exact .blk | exact .rng | apply Rng.tl)))))
       | (with_reducible refine act8.a2 ?_)
       | ((with_reducible apply act8.r2 hs); (· (with_reducible (repeat (first | exact .blk | exact .rng | apply Rng.tl)))))
       | (with_reducible refine act8.c2 ?_)
       | ((with_reducible apply act8.e2); (· first | exact hS | exact hid); (· (with_reducible (repeat (first | exact .blk | exact .rng | apply Rng.tl)))))
       | (with_reducible refine act8.a3 ?_)
       | ((with_reducible apply act8.r3 hs); (· (with_reducible (repeat (first | exact .blk | exact .rng | apply Rng.tl)))))
       | (with_reducible refine act8.c3 ?_)
       | ((with_reducible apply act8.e3); (· first | exact hS | exact hid); (· (with_reducible (repeat (first | exact .blk | exact .rng | apply Rng.tl)))))
       | (with_reducible refine act8.a4 ?_)
       | ((with_reducible apply act8.r4 hs); (· (with_reducible (repeat (first | exact .blk | exact .rng | apply Rng.tl)))))
       | (with_reducible refine act8.c4 ?_)
       | ((with_reducible apply act8.e4); (· first | exact hS | exact hid); (· (with_reducible (repeat (first | exact .blk | exact .rng | apply Rng.tl)))))
       | (with_reducible (first | refine st_lens ?_ | refine st_eqls ?_ | refine st_nels ?_ | refine tk_eqls ?_ | refine tk_nels ?_ | refine mv.mk ?_ | refine nk_p ?_ | refine gdT_i ?_ | refine gdT_ft ?_ | refine gdT_tf ?_ | refine gdT_u ?_ | refine gd_u ?_ | refine gd_ft ?_ | refine gd_tf ?_ | refine gd_i ?_ | refine pk_t ?_ | refine pk_f ?_ | refine br_t ?_ | refine br_f ?_ | refine sp_boxa hs fun g w hs => ?_))
       | (with_reducible ((first | apply st_bin | apply st_ext | apply st_len | apply st_un | apply st_conv | apply st_mki | apply st_fld | apply st_cap | apply st_max | apply st_min | apply st_ixv | apply st_mkf); intro k' hk; simp [go_sem, thenR_ok, bin]; refine hk _ _ ?_; clear hk k'))
       | ((with_reducible (first | apply tk_bin | apply tk_ext | apply tk_len | apply tk_un)); (· intro w; simp [go_sem, bin]; rfl))
       | ((with_reducible apply sp_newr hs); (· kernel_rfl); intro g w hs))
      by_cases h1 : x.tx.length < 1000
      · rw [show decide ((x.tx.length : Int) < 1000) = true by simp only [decide_eq_true_eq]; omega]
        repeat (first
         | (with_reducible (first | refine st_lens ?_ | refine st_eqls ?_ | refine st_nels ?_ | refine tk_eqls ?_ | refine tk_nels ?_ | refine mv.mk ?_ | refine nk_p ?_ | refine gdT_i ?_ | refine gdT_ft ?_ | refine gdT_tf ?_ | refine gdT_u ?_ | refine gd_u ?_ | refine gd_ft ?_ | refine gd_tf ?_ | refine gd_i ?_ | refine pk_t ?_ | refine pk_f ?_ | refine br_t ?_ | refine br_f ?_ | refine sp_boxa hs fun g w hs => ?_))
         | (with_reducible ((first | apply st_bin | apply st_ext | apply st_len | apply st_un | apply st_conv | apply st_mki | apply st_fld | apply st_cap | apply st_max | apply st_min | apply st_ixv | apply st_mkf); intro k' hk; simp [go_sem, thenR_ok, bin]; refine hk _ _ ?_; clear hk k'))
         | ((with_reducible (first | apply tk_bin | apply tk_ext | apply tk_len | apply tk_un)); (· intro w; simp [go_sem, bin]; rfl))
         | ((with_reducible apply sp_newr hs); (· kernel_rfl); intro g w hs))
        rw [hw]
        refine st_of (hix .i64 w) ?_
        repeat (first
         | (with_reducible refine act8.a0 ?_)
         | ((with_reducible apply act8.r0 hs); (· (with_reducible (repeat (first | exact .blk | exact .rng | apply Rng.tl)))))
         | (with_reducible refine act8.c0 ?_)
         | ((with_reducible apply act8.e0); (· first | exact hS | exact hid); (· (with_reducible (repeat (first | exact .blk | exact .rng | apply Rng.tl)))))
         | (with_reducible refine act8.a1 ?_)
         | ((with_reducible apply act8.r1 hs); (· (with_reducible (repeat (first | exact .blk | exact .rng | apply Rng.tl)))))
         | (with_reducible refine act8.c1 ?_)
         | ((with_reducible apply act8.e1); (· first | exact hS | exact hid); (· (with_reducible (repeat (first | exact .blk | exact .rng | apply Rng.tl)))))
         | (with_reducible refine act8.a2 ?_)
         | ((with_reducible apply act8.r2 hs); (· (with_reducible (repeat (first | exact .blk | exact .rng | apply Rng.tl)))))
         | (with_reducible refine act8.c2 ?_)
         | ((with_reducible apply act8.e2); (· first | exact hS | exact hid); (· (with_reducible (repeat (first | exact .blk | exact .rng | apply Rng.tl)))))
         | (with_reducible refine act8.a3 ?_)
         | ((with_reducible apply act8.r3 hs); (· (with_reducible (repeat (first | exact .blk | exact .rng | apply Rng.tl)))))
         | (with_reducible refine act8.c3 ?_)
         | ((with_reducible apply act8.e3); (· first | exact hS | exact hid); (· (with_reducible (repeat (first | exact .blk | exact .rng | apply Rng.tl)))))
         | (with_reducible refine act8.a4 ?_)
         | ((with_reducible apply act8.r4 hs); (· (with_reducible (repeat (first | exact .blk | exact .rng | apply Rng.tl)))))
         | (with_reducible refine act8.c4 ?_)
         | ((with_reducible apply act8.e4); (· first | exact hS | exact hid); (· (with_reducible (repeat (first | exact .blk | exact .rng | apply Rng.tl)))))
         | (with_reducible (first | refine st_lens ?_ | refine st_eqls ?_ | refine st_nels ?_ | refine tk_eqls ?_ | refine tk_nels ?_ | refine mv.mk ?_ | refine nk_p ?_ | refine gdT_i ?_ | refine gdT_ft ?_ | refine gdT_tf ?_ | refine gdT_u ?_ | refine gd_u ?_ | refine gd_ft ?_ | refine gd_tf ?_ | refine gd_i ?_ | refine pk_t ?_ | refine pk_f ?_ | refine br_t ?_ | refine br_f ?_ | refine sp_boxa hs fun g w hs => ?_))
         | (with_reducible ((first | apply st_bin | apply st_ext | apply st_len | apply st_un | apply st_conv | apply st_mki | apply st_fld | apply st_cap | apply st_max | apply st_min | apply st_ixv | apply st_mkf); intro k' hk; simp [go_sem, thenR_ok, bin]; refine hk _ _ ?_; clear hk k'))
         | ((with_reducible (first | apply tk_bin | apply tk_ext | apply tk_len | apply tk_un)); (· intro w; simp [go_sem, bin]; rfl))
         | ((with_reducible apply sp_newr hs); (· kernel_rfl); intro g w hs))
        refine cl (txs_Hash (l := x.tx) hs (.tl (.tl (.tl (.tl (.tl (.tl (.tl hR))))))) (.tl .hd) (by omega)) ?_
        rintro _ w ⟨rfl, hs⟩
        refine gd_i ?_
        refine cl (pool_Knows (p := p) (by rw [hI.l]; decide) (by have := hI.kn; have := hI.c2; omega) hH (hs.sbl (.cons (.tl (.tl (.tl (.tl .hd)))) (.cons (.tl (.tl (.tl (.tl .hd)))) .all))) (.tl (.tl (.tl (.tl .hd))))) ?_
        rintro _ w ⟨rfl, hs⟩
        have hq := hs.sbl (L' := PK g p lv kv L) (.cons .hd (.cons .hd (.cons (.tl (.tl (.tl (.tl .hd)))) (.drop (.drop (.drop (.drop .all)))))))
        by_cases hkn : knowsP p (hB x.tx) = true
        · rw [hkn]
          repeat (first
           | (with_reducible (first | refine st_lens ?_ | refine st_eqls ?_ | refine st_nels ?_ | refine tk_eqls ?_ | refine tk_nels ?_ | refine mv.mk ?_ | refine nk_p ?_ | refine gdT_i ?_ | refine gdT_ft ?_ | refine gdT_tf ?_ | refine gdT_u ?_ | refine gd_u ?_ | refine gd_ft ?_ | refine gd_tf ?_ | refine gd_i ?_ | refine pk_t ?_ | refine pk_f ?_ | refine br_t ?_ | refine br_f ?_ | refine sp_boxa hs fun g w hs => ?_))
           | (with_reducible ((first | apply st_bin | apply st_ext | apply st_len | apply st_un | apply st_conv | apply st_mki | apply st_fld | apply st_cap | apply st_max | apply st_min | apply st_ixv | apply st_mkf); intro k' hk; simp [go_sem, thenR_ok, bin]; refine hk _ _ ?_; clear hk k'))
           | ((with_reducible (first | apply tk_bin | apply tk_ext | apply tk_len | apply tk_un)); (· intro w; simp [go_sem, bin]; rfl))
           | ((with_reducible apply sp_newr hs); (· kernel_rfl); intro g w hs))
          exact hno _ hq
        · rw [show knowsP p (hB x.tx) = false from by simpa using hkn]
          repeat (first
           | (with_reducible (first | refine st_lens ?_ | refine st_eqls ?_ | refine st_nels ?_ | refine tk_eqls ?_ | refine tk_nels ?_ | refine mv.mk ?_ | refine nk_p ?_ | refine gdT_i ?_ | refine gdT_ft ?_ | refine gdT_tf ?_ | refine gdT_u ?_ | refine gd_u ?_ | refine gd_ft ?_ | refine gd_tf ?_ | refine gd_i ?_ | refine pk_t ?_ | refine pk_f ?_ | refine br_t ?_ | refine br_f ?_ | refine sp_boxa hs fun g w hs => ?_))
           | (with_reducible ((first | apply st_bin | apply st_ext | apply st_len | apply st_un | apply st_conv | apply st_mki | apply st_fld | apply st_cap | apply st_max | apply st_min | apply st_ixv | apply st_mkf); intro k' hk; simp [go_sem, thenR_ok, bin]; refine hk _ _ ?_; clear hk k'))
           | ((with_reducible (first | apply tk_bin | apply tk_ext | apply tk_len | apply tk_un)); (· intro w; simp [go_sem, bin]; rfl))
           | ((with_reducible apply sp_newr hs); (· kernel_rfl); intro g w hs))
          exact hnx (fun e => by rw [e] at h0; exact absurd h0 (by decide)) h1 hkn _ hq
      · rw [show decide ((x.tx.length : Int) < 1000) = false by simp only [decide_eq_false_iff_not]; omega]
        repeat (first
         | (with_reducible (first | refine st_lens ?_ | refine st_eqls ?_ | refine st_nels ?_ | refine tk_eqls ?_ | refine tk_nels ?_ | refine mv.mk ?_ | refine nk_p ?_ | refine gdT_i ?_ | refine gdT_ft ?_ | refine gdT_tf ?_ | refine gdT_u ?_ | refine gd_u ?_ | refine gd_ft ?_ | refine gd_tf ?_ | refine gd_i ?_ | refine pk_t ?_ | refine pk_f ?_ | refine br_t ?_ | refine br_f ?_ | refine sp_boxa hs fun g w hs => ?_))
         | (with_reducible ((first | apply st_bin | apply st_ext | apply st_len | apply st_un | apply st_conv | apply st_mki | apply st_fld | apply st_cap | apply st_max | apply st_min | apply st_ixv | apply st_mkf); intro k' hk; simp [go_sem, thenR_ok, bin]; refine hk _ _ ?_; clear hk k'))
         | ((with_reducible (first | apply tk_bin | apply tk_ext | apply tk_len | apply tk_un)); (· intro w; simp [go_sem, bin]; rfl))
         | ((with_reducible apply sp_newr hs); (· kernel_rfl); intro g w hs))
        exact hno _ (hs.sbl (.drop (.drop (.drop (.drop .all)))))
    · rw [show decide (0 < x.tx.length) = false by simpa using h0]
      repeat (first
       | (with_reducible (first | refine st_lens ?_ | refine st_eqls ?_ | refine st_nels ?_ | refine tk_eqls ?_ | refine tk_nels ?_ | refine mv.mk ?_ | refine nk_p ?_ | refine gdT_i ?_ | refine gdT_ft ?_ | refine gdT_tf ?_ | refine gdT_u ?_ | refine gd_u ?_ | refine gd_ft ?_ | refine gd_tf ?_ | refine gd_i ?_ | refine pk_t ?_ | refine pk_f ?_ | refine br_t ?_ | refine br_f ?_ | refine sp_boxa hs fun g w hs => ?_))
       | (with_reducible ((first | apply st_bin | apply st_ext | apply st_len | apply st_un | apply st_conv | apply st_mki | apply st_fld | apply st_cap | apply st_max | apply st_min | apply st_ixv | apply st_mkf); intro k' hk; simp [go_sem, thenR_ok, bin]; refine hk _ _ ?_; clear hk k'))
       | ((with_reducible (first | apply tk_bin | apply tk_ext | apply tk_len | apply tk_un)); (· intro w; simp [go_sem, bin]; rfl))
       | ((with_reducible apply sp_newr hs); (· kernel_rfl); intro g w hs))
      exact hno _ (hs.sbl (.drop (.drop (.drop (.drop .all)))))
  · have hd : decide (((i + 1 : Nat) : Int) < (l.length : Int)) = false := by simp; omega
    have hno := fun (w : World) (hs : Isk.Sep b w (PK g p lv kv L)) => knows_f (av := .slice Al l.length cl') (k := k) (x1 := x1) (i := i) (t9 := t9) (t10 := t10) h4 hI hs
    unfold F.isthmuslaw18_PoolKnows_r at hno
    simp only [h7] at hno
    rw [hd]
    repeat (first
     | (with_reducible (first | refine st_lens ?_ | refine st_eqls ?_ | refine st_nels ?_ | refine tk_eqls ?_ | refine tk_nels ?_ | refine mv.mk ?_ | refine nk_p ?_ | refine gdT_i ?_ | refine gdT_ft ?_ | refine gdT_tf ?_ | refine gdT_u ?_ | refine gd_u ?_ | refine gd_ft ?_ | refine gd_tf ?_ | refine gd_i ?_ | refine pk_t ?_ | refine pk_f ?_ | refine br_t ?_ | refine br_f ?_ | refine sp_boxa hs fun g w hs => ?_))
     | (with_reducible ((first | apply st_bin | apply st_ext | apply st_len | apply st_un | apply st_conv | apply st_mki | apply st_fld | apply st_cap | apply st_max | apply st_min | apply st_ixv | apply st_mkf); intro k' hk; simp [go_sem, thenR_ok, bin]; refine hk _ _ ?_; clear hk k'))
     | ((with_reducible (first | apply tk_bin | apply tk_ext | apply tk_len | apply tk_un)); (· intro w; simp [go_sem, bin]; rfl))
     | ((with_reducible apply sp_newr hs); (· kernel_rfl); intro g w hs))
    exact hno _ hs
end
end Go.Proofs.YtgagekffmamldaaDoor
