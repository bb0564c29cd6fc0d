/- pool: PoolBounds. -/
import Derived.Test.YtgagekffmamldaaGreatDoorPJ
import Derived.Test.YtgagekffmamldaaGreatDoorHA
set_option linter.unusedVariables false
set_option linter.unusedSimpArgs false
set_option linter.unusedSectionVars false
namespace Go.Proofs.YtgagekffmamldaaGreatDoor
open Go Go.Isk Go.RowKit
set_option maxRecDepth 20000
section
variable {b : Base} {w : World} {L R : List It} {g g3 g8 : Nat} {v sv lv kv bv cv e av : Value} {cs : List Value} {l : List Act8} {s1 s2 s3 : Int}
end
end Go.Proofs.YtgagekffmamldaaGreatDoor
set_option linter.unusedVariables false
set_option linter.unusedSimpArgs false
set_option linter.unusedSectionVars false
namespace Go.Proofs.YtgagekffmamldaaGreatDoor
open Go Go.Isk Go.RowKit
set_option maxRecDepth 20000
def F.isthmuslaw18_PoolRuns_add (k : Value → World → Prop) (k37 : List Value → World → Prop) (t5 t7 t13 t14 t18 : Value) (x1 : Env) (w : World) : Prop :=
  mv t18 fun t137 =>
  o1 Tryz.prog (Instr.fieldAt 50 t13 3) w fun t138 w =>
  o1 Tryz.prog (Instr.loadAt 38 t138) w fun t139 w =>
  ob Tryz.prog (fun _ => Builtin.append_ #[38, 38] 38 #[t137, t139]) w fun t140 w =>
  mv t140 fun t18_1 =>
  mv t5 fun t142 =>
  mv t18_1 fun t143 =>
  o1 Tryz.prog (Instr.fieldAt 50 t13 1) w fun t144 w =>
  o1 Tryz.prog (Instr.loadAt 3 t144) w fun t145 w =>
  C Tryz.prog N.pool_Pool_Add #[t142, t143, t145] w fun t146 w =>
  mv t146 fun t141 =>
  o1 Tryz.prog (Instr.extract t141 0) w fun t147 w =>
  o1 Tryz.prog (Instr.extract t141 1) w fun t148 w =>
  mv t147 fun t19 =>
  mv t148 fun t20 =>
  o1 Tryz.prog (Instr.loadAt 33 t7) w fun t150 w =>
  o1 Tryz.prog (Instr.fieldAt 50 t13 3) w fun t151 w =>
  o1 Tryz.prog (Instr.loadAt 38 t151) w fun t152 w =>
  o1 Tryz.prog (convert 38 9 t152) w fun t153 w =>
  o1 Tryz.prog (Instr.fieldAt 50 t13 1) w fun t154 w =>
  o1 Tryz.prog (Instr.loadAt 3 t154) w fun t155 w =>
  C Tryz.prog N.isthmusref18_Add #[t150, t153, t155] w fun t156 w =>
  mv t156 fun t149 =>
  o1 Tryz.prog (Instr.extract t149 0) w fun t157 w =>
  o1 Tryz.prog (Instr.extract t149 1) w fun t158 w =>
  o1 Tryz.prog (Instr.extract t149 2) w fun t159 w =>
  o1 Tryz.prog (Instr.alloc 33 true (.tuple #[])) w fun t21 w =>
  o0 Tryz.prog (Instr.storeAt 33 t21 t157) w fun _ w =>
  mv t158 fun t22 =>
  mv t159 fun t23 =>
  o1 Tryz.prog (Instr.loadAt 33 t21) w fun t160 w =>
  o0 Tryz.prog (Instr.storeAt 33 t7 t160) w fun _ w =>
  mv (.int .i64 0) fun t24 =>
  lp [t24] w fun I4 μ4 => ∀ (x4 : Env) (w2 : World), I4 [x4 24] w2 →
  mv (x4 24) fun t161 =>
  mv t18_1 fun t162 =>
  o1 Tryz.prog (Builtin.len_ #[38] 3 #[t162]) w2 fun t163 w =>
  o1 Tryz.prog (bin .lss 3 (.tmp 161) (.tmp 163) t161 t163) w fun t164 w =>
  br t164 (fun _ =>
  mv t18_1 fun t167 =>
  mv (x4 24) fun t168 =>
  o1 Tryz.prog (Instr.indexAt 38 t167 t168) w fun t169 w =>
  o0 Tryz.prog (Instr.storeAt 5 t169 (.int .u8 33)) w fun _ w =>
  mv (x4 24) fun t165 =>
  o1 Tryz.prog (bin .add 3 (.tmp 165) (.const (.int .i64 1)) t165 (.int .i64 1)) w fun t166 w =>
  mv t166 fun t24_1 =>
  I4 [t24_1] w ∧ μ4 [t24_1] w < μ4 [x4 24] w2) (fun _ =>
  mv t19 fun t170 =>
  mv t22 fun t171 =>
  C Tryz.prog N.isthmuslaw18_hashes #[t170, t171] w fun t172 w =>
  o1 Tryz.prog (Op.unary .not t172) w fun t173 w =>
  mv t173 fun t174 =>
  gd t174 false (fun k38 => mv t20 fun v => k38 v w) w fun t175 w =>
  gd t174 false (fun k39 => C Tryz.prog N.isthmuslaw18_num #[t175] w k39) w fun t176 w =>
  gd t174 false (fun k40 => mv t23 fun v => k40 v w) w fun t177 w =>
  gd t174 false (fun k41 => o1 Tryz.prog (bin .neq 3 (.tmp 176) (.tmp 177) t176 t177) w k41) w fun t178 w =>
  pk t174 (.bool true) t178 fun t179 =>
  br t179 (fun _ =>
  mv (.bool false) fun t4_3 =>
  k t4_3 w) (fun _ =>
  k37 [(x1 4), (x1 15), (x1 17), t18_1, t19, t20, t22, t23, (x4 24)] w))
def F.isthmuslaw18_PoolRuns_drop (k : Value → World → Prop) (k37 : List Value → World → Prop) (t5 t7 t14 : Value) (x1 : Env) (w : World) : Prop :=
  mv t5 fun t192 =>
  o1 Tryz.prog (Instr.loadAt 43 t14) w fun t193 w =>
  C Tryz.prog N.pool_Pool_Drop #[t192, t193] w fun t194 w =>
  mv t194 fun t15 =>
  o1 Tryz.prog (Instr.loadAt 33 t7) w fun t196 w =>
  o1 Tryz.prog (Instr.loadAt 43 t14) w fun t197 w =>
  C Tryz.prog N.isthmusref18_Drop #[t196, t197] w fun t198 w =>
  mv t198 fun t195 =>
  o1 Tryz.prog (Instr.extract t195 0) w fun t199 w =>
  o1 Tryz.prog (Instr.extract t195 1) w fun t200 w =>
  o1 Tryz.prog (Instr.alloc 33 true (.tuple #[])) w fun t16 w =>
  o0 Tryz.prog (Instr.storeAt 33 t16 t199) w fun _ w =>
  mv t200 fun t17 =>
  o1 Tryz.prog (Instr.loadAt 33 t16) w fun t201 w =>
  o0 Tryz.prog (Instr.storeAt 33 t7 t201) w fun _ w =>
  mv t15 fun t202 =>
  C Tryz.prog N.isthmuslaw18_num #[t202] w fun t203 w =>
  mv t17 fun t204 =>
  o1 Tryz.prog (bin .neq 3 (.tmp 203) (.tmp 204) t203 t204) w fun t205 w =>
  br t205 (fun _ =>
  mv (.bool false) fun t4_2 =>
  k t4_2 w) (fun _ =>
  k37 [(x1 4), t15, t17, (x1 18), (x1 19), (x1 20), (x1 22), (x1 23), (x1 24)] w)
def Run36 (b : Base) (L : List It) (g g7 i : Nat) (us : List Value) (w' : World) : Prop := ∃ (p : PoolD) (lv kv lv2 kv2 : Value) (ys : List Value), us = .bool false :: ys ∧ OkP p (i + 1) ∧ lv2.oneCell' = true ∧ kv2.oneCell' = true ∧ Isk.Sep b w' (RunL g g7 p lv kv lv2 kv2 L)
theorem addP_gone {p : PoolD} {bts : Bytes} {fee : Int} : (addP p bts fee).2.1.length ≤ p.l.length := by
  rcases add_cases p bts fee with ⟨_, h1, _⟩ | ⟨_, _, m, _, _, _, _, hq⟩
  · rw [h1]; exact Nat.zero_le _
  · rw [hq]
    simp
theorem OkP.next {p : PoolD} {n : Nat} (ok : OkP p n) : OkP p (n + 1) := ⟨ok.came0, by have := ok.came; omega, ok.t1, ok.t2, ok.b1, ok.b2, ok.c1, ok.c2, ok.len, ok.size, ok.kn, ok.kl, ok.lt, ok.srt, ok.nd⟩
theorem addP_cell {p : PoolD} {bts : Bytes} {fee : Int} {lv kv : Value} : rpV p.txs p.bytes p.cache lv kv = rpV (addP p bts fee).1.txs (addP p bts fee).1.bytes (addP p bts fee).1.cache lv kv := by
  obtain ⟨h1, h2, h3⟩ := addP_same (p := p) (bts := bts) (fee := fee)
  rw [h1, h2, h3]
theorem dropP_cell {p : PoolD} {h : Bytes} {lv kv : Value} : rpV p.txs p.bytes p.cache lv kv = rpV (dropP p h).1.txs (dropP p h).1.bytes (dropP p h).1.cache lv kv := by
  obtain ⟨h1, h2, h3⟩ := dropP_same (p := p) (h := h)
  rw [h1, h2, h3]
section
variable {b : Base} {w w1 : World} {L LL R : List It} {g g3 g7 g8 g13 g14 : Nat} {v sv lv kv lv2 kv2 bv cv e av fv tv tl t180 : Value} {h bts : Bytes} {xs : List Bytes} {x : Act8} {p : PoolD} {i : Nat} {x1 x2 : Env}
theorem runs_drop {k : Value → World → Prop} (ok : OkP p i) (hi : i < 60) (hx4 : x1 4 = .bool false) (hlv : lv2.oneCell' = true) (hkv : kv2.oneCell' = true) (hh : h.length = 32) (hT : Ins LL errT.it)
    (hs : Isk.Sep b w (RunL g g7 p lv kv lv2 kv2 (blkI g14 T.api_Hash (u8s h) :: blkI g13 T.isthmuslaw18_Act (act8V x tv tl) :: LL))) :
    F.isthmuslaw18_PoolRuns_drop k (Run36 b (blkI g14 T.api_Hash (u8s h) :: blkI g13 T.isthmuslaw18_Act (act8V x tv tl) :: LL) g g7 i) (.pointer (some ⟨g, 0, none⟩)) (.pointer (some ⟨g7, 0, none⟩)) (.pointer (some ⟨g14, 0, none⟩)) x1 w := by
  have hl1 := ok.len
  have ht2 := ok.t2
  have hkn := ok.kn
  have hc2 := ok.c2
  unfold F.isthmuslaw18_PoolRuns_drop
  repeat with_reducible refine mv.mk ?_
  refine sp_ldn hs (.tl (.tl (.tl (.tl (.tl (.tl .blk)))))) (by kernel_rfl) (by rw [u8s_length, hh]) ?_
  refine cl (pool_Drop (p := p) (by omega) (by omega) hh hs) ?_
  rintro e w ⟨lv3, kv3, hs⟩
  repeat with_reducible refine mv.mk ?_
  refine sp_loadall hs (.tl (.tl (.tl (.tl .hd)))) (by kernel_rfl) rfl ?_
  refine sp_ldn hs (.tl (.tl (.tl (.tl (.tl (.tl (.tl .blk))))))) (by kernel_rfl) (by rw [u8s_length, hh]) ?_
  refine cl (isthmusref18_Drop hlv hkv (.tl (.tl (.tl (.tl (.tl .hd))))) (.tl (.tl (.tl (.tl (.tl (.tl .hd)))))) (by rw [List.length_map]; omega) (by omega) (fun z hz => by
    obtain ⟨y, hy, rfl⟩ := List.mem_map.1 hz
    have := ok.small y hy
    show y.b.length ≤ _
    omega) hh hs) ?_
  rintro _ w ⟨lv4, kv4, hlv4, hkv4, rfl, hs⟩
  rw [drop_toR ok] at hs ⊢
  simp only at hs
  repeat (first
   | (with_reducible (first | refine st_nels ?_ | refine mv.mk ?_ | refine br_t ?_ | refine br_f ?_))
   | (with_reducible ((first | apply st_bin | apply st_ext); intro k' hk; simp [go_sem, thenR_ok, bin]; refine hk _ _ ?_; clear hk k'))
   | ((with_reducible apply sp_newr hs); (· kernel_rfl); intro g w hs))
  refine sp_setr (ds := rpV p.txs p.bytes p.cache lv4 kv4) hs .hd (by kernel_rfl) rfl (rpoolC_one rfl rfl rfl hlv4 hkv4) fun w hs => ?_
  repeat with_reducible refine mv.mk ?_
  refine sp_loadall hs .hd (by kernel_rfl) rfl ?_
  refine sp_stb hs (.tl (.tl (.tl (.tl (.tl (.tl (.tl .hd))))))) (by kernel_rfl) rfl rfl (rpoolC_one rfl rfl rfl hlv4 hkv4) fun w hs => ?_
  repeat with_reducible refine mv.mk ?_
  refine cl (isthmuslaw18_num hs (.tl (.tl (.tl (.tl (.tl (.tl (.tl (.tl (.tl (.tl (.tl (.tl hT)))))))))))) (.tl (.tl (.tl (.tl .hd))))) ?_
  rintro _ w ⟨rfl, hs⟩
  repeat (first
   | (with_reducible (first | refine st_nels ?_ | refine mv.mk ?_ | refine br_t ?_ | refine br_f ?_))
   | (with_reducible ((first | apply st_bin | apply st_ext); intro k' hk; simp [go_sem, thenR_ok, bin]; refine hk _ _ ?_; clear hk k'))
   | ((with_reducible apply sp_newr hs); (· kernel_rfl); intro g w hs))
  rw [dropP_cell (h := h)] at hs
  exact ⟨(dropP p h).1, lv3, kv3, lv4, kv4, _, by rw [hx4], (ok.dropped h).next, hlv4, hkv4, hs.sbl (.cons (.tl (.tl (.tl (.tl (.tl .hd))))) (.cons (.tl (.tl (.tl (.tl (.tl .hd))))) (.cons (.tl (.tl (.tl (.tl (.tl .hd))))) (.cons .hd (.cons (.tl .hd) (.cons (.tl .hd) (.drop (.drop (.drop (.drop .all))))))))))⟩
theorem sp_setv {P : Program} {T E by_ n : Nat} {q : IntKind} {i : Int} {u : Value} {xs : List Value} {k : Value → World → Prop} (h : Isk.Sep b w L) (hm : Has L (rowI v E 1 n xs) R) (hT : slT P T E 1 by_ = true) (hi : (P.info? E).map (·.size) = some 1) (j : Nat) (hj : i = j) (hl : j < n) (hu : u.cells = #[u] ∧ u.oneCell' = true)
    (hk : ∀ w', Isk.Sep b w' (rowI v E 1 n (xs.set j u) :: R) → k undef w') : o1 P (Instr.indexAt T v (.int q i)) w fun a w => o0 P (Instr.storeAt E a u) w k := by
  have ho := h.get hm.ins
  obtain ⟨hx, ⟨rfl, rfl⟩ | ⟨g, cap, cur, rfl, hB, hb, hcc, hmx, hsz, htk⟩⟩ := ho
  · omega
  · have hblk : Blk w g E cur.toList := by
      unfold Blk
      rw [hb]
    have hcl : cur.toList.length = cap * 1 := by rw [Array.length_toList, hsz]
    refine st_of (ixn_run hT hj hl w) ?_
    rw [Nat.zero_add, Nat.mul_one]
    refine st_store1 hi hu hblk (by omega) fun w' hb' hu' => hk w' ?_
    refine h.rerow hm (hu'.mono fun k _ e => by simp [Value.ownBlock, e]) (.inl rfl) ⟨by rw [List.length_set]; exact hx, .inr ⟨g, cap, _, rfl, Nat.zero_le _, hb', hcc, hmx, ?_, ?_⟩⟩
    · rw [← hsz]
      simp
    · rw [← htk]
      show (cur.toList.set j u).take (n * 1) = (cur.toList.take (n * 1)).set j u
      rw [List.take_set]
theorem runs_add {gp : Nat} {k : Value → World → Prop} (ok : OkP p i) (hi : i < 60) (hx4 : x1 4 = .bool false) (hlv : lv2.oneCell' = true) (hkv : kv2.oneCell' = true) (hh : h.length = 32) (hT : Ins LL errT.it) (hR : Ins LL rndF.it) (hbx : Ins LL (byF tv x.tx).it) (hxl : x.tx.length ≤ 1048576)
    (hs : Isk.Sep b w (RunL gp g7 p lv kv lv2 kv2 (blkI g14 T.api_Hash (u8s h) :: blkI g13 T.isthmuslaw18_Act (act8V x tv tl) :: LL))) :
    F.isthmuslaw18_PoolRuns_add k (Run36 b (blkI g14 T.api_Hash (u8s h) :: blkI g13 T.isthmuslaw18_Act (act8V x tv tl) :: LL) gp g7 i) (.pointer (some ⟨gp, 0, none⟩)) (.pointer (some ⟨g7, 0, none⟩)) (.pointer (some ⟨g13, 0, none⟩)) (.pointer (some ⟨g14, 0, none⟩)) (.slice none 0 0) x1 w := by
  have hl1 := ok.len
  have ht2 := ok.t2
  have hkn := ok.kn
  have hc2 := ok.c2
  unfold F.isthmuslaw18_PoolRuns_add
  replace hs := hs.row0 T.uint8 1
  repeat (first
   | (with_reducible refine act8.a1 ?_)
   | ((with_reducible apply act8.r1 hs); (· (with_reducible (repeat (first | exact .blk | exact .rng | apply Rng.tl)))))
   | (with_reducible refine act8.a3 ?_)
   | ((with_reducible apply act8.r3 hs); (· (with_reducible (repeat (first | exact .blk | exact .rng | apply Rng.tl)))))
   | (with_reducible (first | refine st_lens ?_ | refine st_nels ?_ | refine mv.mk ?_ | refine gd_u ?_ | refine gd_ft ?_ | refine gd_tf ?_ | refine gd_i ?_ | refine pk_t ?_ | refine pk_f ?_ | refine br_t ?_ | refine br_f ?_))
   | (with_reducible ((first | apply st_bin | apply st_ext | apply st_len | apply st_un | apply st_conv); intro k' hk; simp [go_sem, thenR_ok, bin]; refine hk _ _ ?_; clear hk k'))
   | ((with_reducible apply sp_newr hs); (· kernel_rfl); intro g w hs))
  refine sp_appY (l := []) (m := x.tx) hs .hd (by_rds8 (.tl (.tl (.tl (.tl (.tl (.tl (.tl (.tl hbx))))))))) (by simp only [List.length_nil]; omega) fun v w hs => ?_
  simp only [List.nil_append] at hs
  repeat (first
   | (with_reducible refine act8.a1 ?_)
   | ((with_reducible apply act8.r1 hs); (· (with_reducible (repeat (first | exact .blk | exact .rng | apply Rng.tl)))))
   | (with_reducible refine act8.a3 ?_)
   | ((with_reducible apply act8.r3 hs); (· (with_reducible (repeat (first | exact .blk | exact .rng | apply Rng.tl)))))
   | (with_reducible (first | refine st_lens ?_ | refine st_nels ?_ | refine mv.mk ?_ | refine gd_u ?_ | refine gd_ft ?_ | refine gd_tf ?_ | refine gd_i ?_ | refine pk_t ?_ | refine pk_f ?_ | refine br_t ?_ | refine br_f ?_))
   | (with_reducible ((first | apply st_bin | apply st_ext | apply st_len | apply st_un | apply st_conv); intro k' hk; simp [go_sem, thenR_ok, bin]; refine hk _ _ ?_; clear hk k'))
   | ((with_reducible apply sp_newr hs); (· kernel_rfl); intro g w hs))
  refine cl (pool_AddR (p := p) (bts := x.tx) (fee := x.fee) (bv := v) ok (by omega) (by omega) (.tl (.tl (.tl (.tl (.tl (.tl hR)))))) (by exact .row) (hs.sbl (.cons (.tl .hd) (.cons (.tl .hd) (.cons (.tl .hd) .all))))) ?_
  rintro _ w ⟨gv, e, lv3, kv3, rfl, hs⟩
  repeat (first
   | (with_reducible (first | refine st_lens ?_ | refine st_nels ?_ | refine mv.mk ?_ | refine gd_u ?_ | refine gd_ft ?_ | refine gd_tf ?_ | refine gd_i ?_ | refine pk_t ?_ | refine pk_f ?_ | refine br_t ?_ | refine br_f ?_))
   | (with_reducible ((first | apply st_bin | apply st_ext | apply st_len | apply st_un | apply st_conv); intro k' hk; simp [go_sem, thenR_ok, bin]; refine hk _ _ ?_; clear hk k'))
   | ((with_reducible apply sp_newr hs); (· kernel_rfl); intro g w hs))
  refine sp_loadall hs (.tl (.tl (.tl (.tl (.tl (.tl .hd)))))) (by kernel_rfl) rfl ?_
  repeat (first
   | (with_reducible refine act8.a1 ?_)
   | ((with_reducible apply act8.r1 hs); (· (with_reducible (repeat (first | exact .blk | exact .rng | apply Rng.tl)))))
   | (with_reducible refine act8.a3 ?_)
   | ((with_reducible apply act8.r3 hs); (· (with_reducible (repeat (first | exact .blk | exact .rng | apply Rng.tl)))))
   | (with_reducible (first | refine st_lens ?_ | refine st_nels ?_ | refine mv.mk ?_ | refine gd_u ?_ | refine gd_ft ?_ | refine gd_tf ?_ | refine gd_i ?_ | refine pk_t ?_ | refine pk_f ?_ | refine br_t ?_ | refine br_f ?_))
   | (with_reducible ((first | apply st_bin | apply st_ext | apply st_len | apply st_un | apply st_conv); intro k' hk; simp [go_sem, thenR_ok, bin]; refine hk _ _ ?_; clear hk k'))
   | ((with_reducible apply sp_newr hs); (· kernel_rfl); intro g w hs))
  refine sp_text hs (.tl (.tl (.tl (.tl (.tl (.tl (.tl (.tl (.tl (.tl (.tl (by_rds8 hbx)))))))))))) ?_
  repeat (first
   | (with_reducible refine act8.a1 ?_)
   | ((with_reducible apply act8.r1 hs); (· (with_reducible (repeat (first | exact .blk | exact .rng | apply Rng.tl)))))
   | (with_reducible refine act8.a3 ?_)
   | ((with_reducible apply act8.r3 hs); (· (with_reducible (repeat (first | exact .blk | exact .rng | apply Rng.tl)))))
   | (with_reducible (first | refine st_lens ?_ | refine st_nels ?_ | refine mv.mk ?_ | refine gd_u ?_ | refine gd_ft ?_ | refine gd_tf ?_ | refine gd_i ?_ | refine pk_t ?_ | refine pk_f ?_ | refine br_t ?_ | refine br_f ?_))
   | (with_reducible ((first | apply st_bin | apply st_ext | apply st_len | apply st_un | apply st_conv); intro k' hk; simp [go_sem, thenR_ok, bin]; refine hk _ _ ?_; clear hk k'))
   | ((with_reducible apply sp_newr hs); (· kernel_rfl); intro g w hs))
  refine cl (isthmusref18_Add (p := p) (bts := x.tx) (fee := x.fee) ok (by omega) hlv hkv (.tl (.tl (.tl (.tl (.tl (.tl (.tl .hd))))))) (.tl (.tl (.tl (.tl (.tl (.tl (.tl (.tl .hd)))))))) (by omega) ok.small hs) ?_
  rintro _ w ⟨lv4, kv4, gv4, hlv4, hkv4, rfl, hs⟩
  repeat (first
   | (with_reducible (first | refine st_lens ?_ | refine st_nels ?_ | refine mv.mk ?_ | refine gd_u ?_ | refine gd_ft ?_ | refine gd_tf ?_ | refine gd_i ?_ | refine pk_t ?_ | refine pk_f ?_ | refine br_t ?_ | refine br_f ?_))
   | (with_reducible ((first | apply st_bin | apply st_ext | apply st_len | apply st_un | apply st_conv); intro k' hk; simp [go_sem, thenR_ok, bin]; refine hk _ _ ?_; clear hk k'))
   | ((with_reducible apply sp_newr hs); (· kernel_rfl); intro g w hs))
  refine sp_setr (ds := rpV p.txs p.bytes p.cache lv4 kv4) hs .hd (by kernel_rfl) rfl (rpoolC_one rfl rfl rfl hlv4 hkv4) fun w hs => ?_
  repeat with_reducible refine mv.mk ?_
  refine sp_loadall hs .hd (by kernel_rfl) rfl ?_
  refine sp_stb hs (.tl (.tl (.tl (.tl (.tl (.tl (.tl (.tl (.tl (.tl .hd)))))))))) (by kernel_rfl) rfl rfl (rpoolC_one rfl rfl rfl hlv4 hkv4) fun w hs => ?_
  rw [addP_cell (bts := x.tx) (fee := x.fee)] at hs
  have hok := ok.add x.tx x.fee
  have hgl := addP_gone (p := p) (bts := x.tx) (fee := x.fee)
  generalize addP p x.tx x.fee = G at *
  obtain ⟨p', gone, E⟩ := G
  simp only at hs hok hgl ⊢
  obtain ⟨A, c, rfl, hcap⟩ := own_cap (hs.get (.tl (.tl (.tl (.tl (.tl (.tl (.tl (.tl (.tl (.tl .hd)))))))))))
  replace hs := hs.sbl (L' := rowI (.slice A x.tx.length c) T.uint8 1 x.tx.length (u8s x.tx) :: (listF hashF 32 gv gone).it :: (errF e E).it :: (listF hashF 32 gv4 gone).it :: RunL gp g7 p' lv3 kv3 lv4 kv4 (blkI g14 T.api_Hash (u8s h) :: blkI g13 T.isthmuslaw18_Act (act8V x tv tl) :: LL)) (.cons (.tl (.tl (.tl (.tl (.tl (.tl (.tl (.tl (.tl (.tl .hd)))))))))) (.cons (.tl (.tl (.tl (.tl (.tl .hd))))) (.cons (.tl (.tl (.tl (.tl (.tl .hd))))) (.cons (.tl (.tl .hd)) (.cons (.tl (.tl (.tl (.tl .hd)))) (.cons (.tl (.tl (.tl (.tl .hd)))) (.cons (.tl (.tl (.tl (.tl .hd)))) (.cons .hd (.cons (.tl .hd) (.cons (.tl .hd) (.drop (.drop (.drop .all)))))))))))))
  repeat with_reducible refine mv.mk ?_
  refine lp_by (fun us w' => ∃ (j : Nat) (zs : List Value), us = [.int .i64 (j : Int)] ∧ j ≤ x.tx.length ∧ Isk.Sep b w' (rowI (.slice A x.tx.length c) T.uint8 1 x.tx.length zs :: (listF hashF 32 gv gone).it :: (errF e E).it :: (listF hashF 32 gv4 gone).it :: RunL gp g7 p' lv3 kv3 lv4 kv4 (blkI g14 T.api_Hash (u8s h) :: blkI g13 T.isthmuslaw18_Act (act8V x tv tl) :: LL))) (fun us _ => match us with | [.int _ m] => x.tx.length - m.toNat | _ => 0) ⟨0, _, rfl, Nat.zero_le _, hs⟩ ?_
  clear hs
  rintro x4 w ⟨j, zs, hx4', hj, hs⟩
  simp only [List.cons.injEq, and_true] at hx4'
  simp only [hx4']
  repeat (first
   | (with_reducible (first | refine st_lens ?_ | refine st_nels ?_ | refine mv.mk ?_ | refine gd_u ?_ | refine gd_ft ?_ | refine gd_tf ?_ | refine gd_i ?_ | refine pk_t ?_ | refine pk_f ?_ | refine br_t ?_ | refine br_f ?_))
   | (with_reducible ((first | apply st_bin | apply st_ext | apply st_len | apply st_un | apply st_conv); intro k' hk; simp [go_sem, thenR_ok, bin]; refine hk _ _ ?_; clear hk k'))
   | ((with_reducible apply sp_newr hs); (· kernel_rfl); intro g w hs))
  refine br_split (fun hq => ?_) (fun hq => ?_)
  · have hj' : j < x.tx.length := by have := of_decide_eq_true hq; omega
    repeat with_reducible refine mv.mk ?_
    refine sp_setv hs .hd byT8 (by kernel_rfl) j rfl hj' ⟨rfl, rfl⟩ fun w hs => ?_
    repeat (first
     | (with_reducible (first | refine st_lens ?_ | refine st_nels ?_ | refine mv.mk ?_ | refine gd_u ?_ | refine gd_ft ?_ | refine gd_tf ?_ | refine gd_i ?_ | refine pk_t ?_ | refine pk_f ?_ | refine br_t ?_ | refine br_f ?_))
     | (with_reducible ((first | apply st_bin | apply st_ext | apply st_len | apply st_un | apply st_conv); intro k' hk; simp [go_sem, thenR_ok, bin]; refine hk _ _ ?_; clear hk k'))
     | ((with_reducible apply sp_newr hs); (· kernel_rfl); intro g w hs))
    rw [i64_succ (by omega)]
    exact ⟨⟨j + 1, _, rfl, hj', hs⟩, by simp; omega⟩
  · repeat with_reducible refine mv.mk ?_
    refine cl (isthmuslaw18_hashes (.tl .hd) (.tl (.tl (.tl .hd))) (by omega) hs) ?_
    rintro _ w ⟨rfl, hs⟩
    repeat (first
     | (with_reducible (first | refine st_lens ?_ | refine st_nels ?_ | refine mv.mk ?_ | refine gd_u ?_ | refine gd_ft ?_ | refine gd_tf ?_ | refine gd_i ?_ | refine pk_t ?_ | refine pk_f ?_ | refine br_t ?_ | refine br_f ?_))
     | (with_reducible ((first | apply st_bin | apply st_ext | apply st_len | apply st_un | apply st_conv); intro k' hk; simp [go_sem, thenR_ok, bin]; refine hk _ _ ?_; clear hk k'))
     | ((with_reducible apply sp_newr hs); (· kernel_rfl); intro g w hs))
    refine cl (isthmuslaw18_num hs (.tl (.tl (.tl (.tl (.tl (.tl (.tl (.tl (.tl (.tl (.tl (.tl hT)))))))))))) (.tl (.tl .hd))) ?_
    rintro _ w ⟨rfl, hs⟩
    repeat (first
     | (with_reducible (first | refine st_lens ?_ | refine st_nels ?_ | refine mv.mk ?_ | refine gd_u ?_ | refine gd_ft ?_ | refine gd_tf ?_ | refine gd_i ?_ | refine pk_t ?_ | refine pk_f ?_ | refine br_t ?_ | refine br_f ?_))
     | (with_reducible ((first | apply st_bin | apply st_ext | apply st_len | apply st_un | apply st_conv); intro k' hk; simp [go_sem, thenR_ok, bin]; refine hk _ _ ?_; clear hk k'))
     | ((with_reducible apply sp_newr hs); (· kernel_rfl); intro g w hs))
    exact ⟨p', lv3, kv3, lv4, kv4, _, by rw [hx4], hok, hlv4, hkv4, hs.sbl (.drop (.drop (.drop (.drop .all))))⟩
end
end Go.Proofs.YtgagekffmamldaaGreatDoor
set_option linter.unusedVariables false
set_option linter.unusedSimpArgs false
set_option linter.unusedSectionVars false
namespace Go.Proofs.YtgagekffmamldaaGreatDoor
open Go Go.Isk Go.RowKit
set_option maxRecDepth 20000
section
variable {b : Base} {w w1 : World} {L LL R : List It} {v sv lv kv lv2 kv2 bv cv e av fv tv tl t180 : Value} {l : List Act8} {s1 s2 s3 : Int}
theorem isthmuslaw18_PoolRuns (hs : Isk.Sep b w L) (hT : Ins L errT.it) (hR : Ins L rndF.it) (hl : Ins L (listF act8F 5 av l).it) (hB8 : ∀ x ∈ l, x.tx.length ≤ 1048576 ∧ x.list.length ≤ 1048576 ∧ ∀ t ∈ x.list, t.length ≤ 1048576) :
    C Tryz.prog N.isthmuslaw18_PoolRuns #[.agg (size8C (.int .i64 s1) (.int .i64 s2) (.int .i64 s3)).toArray, av] w fun r w' => r = .bool true ∧ Isk.Sep b w' L := by
  obtain ⟨Al, cl', rfl⟩ := hs.lst_len hl.lst
  refine C.isthmuslaw18_PoolRuns ?_
  unfold F.isthmuslaw18_PoolRuns
  refine sp_boxa hs fun g2 w hs => ?_
  repeat (first
   | (with_reducible refine size8.a0 ?_)
   | ((with_reducible apply size8.r0 hs); (· (with_reducible (repeat (first | exact .blk | exact .rng | apply Rng.tl)))))
   | (with_reducible refine size8.c0 ?_)
   | ((with_reducible apply size8.e0); (· first | exact hS | exact hid); (· (with_reducible (repeat (first | exact .blk | exact .rng | apply Rng.tl)))))
   | (with_reducible refine size8.a1 ?_)
   | ((with_reducible apply size8.r1 hs); (· (with_reducible (repeat (first | exact .blk | exact .rng | apply Rng.tl)))))
   | (with_reducible refine size8.c1 ?_)
   | ((with_reducible apply size8.e1); (· first | exact hS | exact hid); (· (with_reducible (repeat (first | exact .blk | exact .rng | apply Rng.tl)))))
   | (with_reducible refine size8.a2 ?_)
   | ((with_reducible apply size8.r2 hs); (· (with_reducible (repeat (first | exact .blk | exact .rng | apply Rng.tl)))))
   | (with_reducible refine size8.c2 ?_)
   | ((with_reducible apply size8.e2); (· first | exact hS | exact hid); (· (with_reducible (repeat (first | exact .blk | exact .rng | apply Rng.tl)))))
   | (with_reducible (first | refine st_lens ?_ | refine st_eqls ?_ | refine st_nels ?_ | refine tk_nels ?_ | refine mv.mk ?_ | refine gdT_i ?_ | refine gdT_ft ?_ | refine gdT_tf ?_ | refine gdT_u ?_ | refine gd_u ?_ | refine gd_ft ?_ | refine gd_tf ?_ | refine gd_i ?_ | refine pk_t ?_ | refine pk_f ?_ | refine br_t ?_ | refine br_f ?_ | refine sp_boxa hs fun g w hs => ?_))
   | (with_reducible ((first | apply st_bin | apply st_ext | apply st_len | apply st_un | apply st_conv); intro k' hk; simp [go_sem, thenR_ok, bin]; refine hk _ _ ?_; clear hk k'))
   | ((with_reducible (first | apply tk_bin | apply tk_len | apply tk_un)); (· intro w; simp [go_sem, bin]; rfl))
   | ((with_reducible apply sp_newr hs); (· kernel_rfl); intro g w hs))
  by_cases hbad : s1 < 1 ∨ 1048576 < s1 ∨ s2 < 1 ∨ 1048576 < s2 ∨ s3 < 0 ∨ 1048576 < s3
  · refine cl (pool_New_bad hbad hs) ?_
    rintro _ w ⟨e, rfl, hs⟩
    repeat (first
     | (with_reducible refine size8.a0 ?_)
     | ((with_reducible apply size8.r0 hs); (· (with_reducible (repeat (first | exact .blk | exact .rng | apply Rng.tl)))))
     | (with_reducible refine size8.c0 ?_)
     | ((with_reducible apply size8.e0); (· first | exact hS | exact hid); (· (with_reducible (repeat (first | exact .blk | exact .rng | apply Rng.tl)))))
     | (with_reducible refine size8.a1 ?_)
     | ((with_reducible apply size8.r1 hs); (· (with_reducible (repeat (first | exact .blk | exact .rng | apply Rng.tl)))))
     | (with_reducible refine size8.c1 ?_)
     | ((with_reducible apply size8.e1); (· first | exact hS | exact hid); (· (with_reducible (repeat (first | exact .blk | exact .rng | apply Rng.tl)))))
     | (with_reducible refine size8.a2 ?_)
     | ((with_reducible apply size8.r2 hs); (· (with_reducible (repeat (first | exact .blk | exact .rng | apply Rng.tl)))))
     | (with_reducible refine size8.c2 ?_)
     | ((with_reducible apply size8.e2); (· first | exact hS | exact hid); (· (with_reducible (repeat (first | exact .blk | exact .rng | apply Rng.tl)))))
     | (with_reducible (first | refine st_lens ?_ | refine st_eqls ?_ | refine st_nels ?_ | refine tk_nels ?_ | refine mv.mk ?_ | refine gdT_i ?_ | refine gdT_ft ?_ | refine gdT_tf ?_ | refine gdT_u ?_ | refine gd_u ?_ | refine gd_ft ?_ | refine gd_tf ?_ | refine gd_i ?_ | refine pk_t ?_ | refine pk_f ?_ | refine br_t ?_ | refine br_f ?_ | refine sp_boxa hs fun g w hs => ?_))
     | (with_reducible ((first | apply st_bin | apply st_ext | apply st_len | apply st_un | apply st_conv); intro k' hk; simp [go_sem, thenR_ok, bin]; refine hk _ _ ?_; clear hk k'))
     | ((with_reducible (first | apply tk_bin | apply tk_len | apply tk_un)); (· intro w; simp [go_sem, bin]; rfl))
     | ((with_reducible apply sp_newr hs); (· kernel_rfl); intro g w hs))
    refine cl (isthmusref18_New hs) ?_
    rintro _ w ⟨hr, hs⟩
    rw [if_pos hbad] at hr
    subst hr
    repeat (first
     | (with_reducible (first | refine st_lens ?_ | refine st_eqls ?_ | refine st_nels ?_ | refine tk_nels ?_ | refine mv.mk ?_ | refine gdT_i ?_ | refine gdT_ft ?_ | refine gdT_tf ?_ | refine gdT_u ?_ | refine gd_u ?_ | refine gd_ft ?_ | refine gd_tf ?_ | refine gd_i ?_ | refine pk_t ?_ | refine pk_f ?_ | refine br_t ?_ | refine br_f ?_ | refine sp_boxa hs fun g w hs => ?_))
     | (with_reducible ((first | apply st_bin | apply st_ext | apply st_len | apply st_un | apply st_conv); intro k' hk; simp [go_sem, thenR_ok, bin]; refine hk _ _ ?_; clear hk k'))
     | ((with_reducible (first | apply tk_bin | apply tk_len | apply tk_un)); (· intro w; simp [go_sem, bin]; rfl))
     | ((with_reducible apply sp_newr hs); (· kernel_rfl); intro g w hs))
    refine sp_setr (ds := rpV 0 0 0 (.slice none 0 0) (.slice none 0 0)) hs .hd (by kernel_rfl) rfl (rpoolC_one rfl rfl rfl rfl rfl) fun w hs => ?_
    repeat with_reducible refine mv.mk ?_
    refine st_of (v := .bool true) (w' := w) (by simp [go_sem, bin]) ?_
    repeat with_reducible (first | refine mv.mk ?_ | refine gd_tf ?_ | refine gd_u ?_)
    refine pk_t ?_
    repeat with_reducible (first | refine mv.mk ?_ | refine gd_tf ?_ | refine gd_u ?_)
    refine pk_t ?_
    refine br_t ?_
    exact runs_bad hT hR (hs.sbl (.cons (.tl .hd) (.drop (.drop .all))))
  · refine cl (pool_New (t := s1) (y := s2) (c := s3) (by omega) (by omega) (by omega) hs) ?_
    rintro _ w ⟨gp, rfl, hs⟩
    have ok0 := okP_new (t := s1) (y := s2) (c := s3) (by omega) (by omega) (by omega)
    repeat (first
     | (with_reducible refine size8.a0 ?_)
     | ((with_reducible apply size8.r0 hs); (· (with_reducible (repeat (first | exact .blk | exact .rng | apply Rng.tl)))))
     | (with_reducible refine size8.c0 ?_)
     | ((with_reducible apply size8.e0); (· first | exact hS | exact hid); (· (with_reducible (repeat (first | exact .blk | exact .rng | apply Rng.tl)))))
     | (with_reducible refine size8.a1 ?_)
     | ((with_reducible apply size8.r1 hs); (· (with_reducible (repeat (first | exact .blk | exact .rng | apply Rng.tl)))))
     | (with_reducible refine size8.c1 ?_)
     | ((with_reducible apply size8.e1); (· first | exact hS | exact hid); (· (with_reducible (repeat (first | exact .blk | exact .rng | apply Rng.tl)))))
     | (with_reducible refine size8.a2 ?_)
     | ((with_reducible apply size8.r2 hs); (· (with_reducible (repeat (first | exact .blk | exact .rng | apply Rng.tl)))))
     | (with_reducible refine size8.c2 ?_)
     | ((with_reducible apply size8.e2); (· first | exact hS | exact hid); (· (with_reducible (repeat (first | exact .blk | exact .rng | apply Rng.tl)))))
     | (with_reducible (first | refine st_lens ?_ | refine st_eqls ?_ | refine st_nels ?_ | refine tk_nels ?_ | refine mv.mk ?_ | refine gdT_i ?_ | refine gdT_ft ?_ | refine gdT_tf ?_ | refine gdT_u ?_ | refine gd_u ?_ | refine gd_ft ?_ | refine gd_tf ?_ | refine gd_i ?_ | refine pk_t ?_ | refine pk_f ?_ | refine br_t ?_ | refine br_f ?_ | refine sp_boxa hs fun g w hs => ?_))
     | (with_reducible ((first | apply st_bin | apply st_ext | apply st_len | apply st_un | apply st_conv); intro k' hk; simp [go_sem, thenR_ok, bin]; refine hk _ _ ?_; clear hk k'))
     | ((with_reducible (first | apply tk_bin | apply tk_len | apply tk_un)); (· intro w; simp [go_sem, bin]; rfl))
     | ((with_reducible apply sp_newr hs); (· kernel_rfl); intro g w hs))
    refine cl (isthmusref18_New hs) ?_
    rintro _ w ⟨hr, hs⟩
    rw [if_neg hbad] at hr
    subst hr
    repeat with_reducible refine mv.mk ?_
    refine st_of (v := .agg (rpV s1 s2 s3 (.slice none 0 0) (.slice none 0 0)).toArray) (w' := w) (by simp [go_sem]) ?_
    refine st_of (v := .int .i64 0) (w' := w) (by simp [go_sem]) ?_
    refine sp_newr hs (by kernel_rfl) fun g7 w hs => ?_
    refine sp_setr (ds := rpV s1 s2 s3 (.slice none 0 0) (.slice none 0 0)) hs .hd (by kernel_rfl) rfl (rpoolC_one rfl rfl rfl rfl rfl) fun w hs => ?_
    repeat (first
     | (with_reducible (first | refine st_lens ?_ | refine st_eqls ?_ | refine st_nels ?_ | refine tk_nels ?_ | refine mv.mk ?_ | refine gdT_i ?_ | refine gdT_ft ?_ | refine gdT_tf ?_ | refine gdT_u ?_ | refine gd_u ?_ | refine gd_ft ?_ | refine gd_tf ?_ | refine gd_i ?_ | refine pk_t ?_ | refine pk_f ?_ | refine br_t ?_ | refine br_f ?_ | refine sp_boxa hs fun g w hs => ?_))
     | (with_reducible ((first | apply st_bin | apply st_ext | apply st_len | apply st_un | apply st_conv); intro k' hk; simp [go_sem, thenR_ok, bin]; refine hk _ _ ?_; clear hk k'))
     | ((with_reducible (first | apply tk_bin | apply tk_len | apply tk_un)); (· intro w; simp [go_sem, bin]; rfl))
     | ((with_reducible apply sp_newr hs); (· kernel_rfl); intro g w hs))
    replace hs := (hs.nilF hashF 32).nilF ritemF 2
    refine lp_by (RunJ b L gp g7) RunM ⟨0, newP s1 s2 s3, _, _, .slice none 0 0, .slice none 0 0, _, rfl, by decide, ok0, rfl, rfl, hs.sbl (.cons (.tl (.tl (.tl .hd))) (.cons (.tl (.tl (.tl .hd))) (.cons (.tl (.tl (.tl .hd))) (.cons (.tl (.tl .hd)) (.cons .hd (.cons .hd (.drop .all)))))))⟩ ?_
    clear hs
    rintro x1 w ⟨i, p, lv, kv, lv2, kv2, ys, hx1, hi, ok, hlv, hkv, hs⟩
    simp only [List.cons.injEq] at hx1
    obtain ⟨h4, h12, -⟩ := hx1
    simp only [h12]
    repeat (first
     | (with_reducible (first | refine st_lens ?_ | refine st_eqls ?_ | refine st_nels ?_ | refine tk_nels ?_ | refine mv.mk ?_ | refine gdT_i ?_ | refine gdT_ft ?_ | refine gdT_tf ?_ | refine gdT_u ?_ | refine gd_u ?_ | refine gd_ft ?_ | refine gd_tf ?_ | refine gd_i ?_ | refine pk_t ?_ | refine pk_f ?_ | refine br_t ?_ | refine br_f ?_ | refine sp_boxa hs fun g w hs => ?_))
     | (with_reducible ((first | apply st_bin | apply st_ext | apply st_len | apply st_un | apply st_conv); intro k' hk; simp [go_sem, thenR_ok, bin]; refine hk _ _ ?_; clear hk k'))
     | ((with_reducible (first | apply tk_bin | apply tk_len | apply tk_un)); (· intro w; simp [go_sem, bin]; rfl))
     | ((with_reducible apply sp_newr hs); (· kernel_rfl); intro g w hs))
    by_cases h1 : i < l.length ∧ i < 60
    · obtain ⟨h1, h2⟩ := h1
      rw [decide_eq_true h1]
      repeat (first
       | (with_reducible (first | refine st_lens ?_ | refine st_eqls ?_ | refine st_nels ?_ | refine tk_nels ?_ | refine mv.mk ?_ | refine gdT_i ?_ | refine gdT_ft ?_ | refine gdT_tf ?_ | refine gdT_u ?_ | refine gd_u ?_ | refine gd_ft ?_ | refine gd_tf ?_ | refine gd_i ?_ | refine pk_t ?_ | refine pk_f ?_ | refine br_t ?_ | refine br_f ?_ | refine sp_boxa hs fun g w hs => ?_))
       | (with_reducible ((first | apply st_bin | apply st_ext | apply st_len | apply st_un | apply st_conv); intro k' hk; simp [go_sem, thenR_ok, bin]; refine hk _ _ ?_; clear hk k'))
       | ((with_reducible (first | apply tk_bin | apply tk_len | apply tk_un)); (· intro w; simp [go_sem, bin]; rfl))
       | ((with_reducible apply sp_newr hs); (· kernel_rfl); intro g w hs))
      rw [show decide ((i : Int) < 60) = true by simp; omega]
      repeat (first
       | (with_reducible (first | refine st_lens ?_ | refine st_eqls ?_ | refine st_nels ?_ | refine tk_nels ?_ | refine mv.mk ?_ | refine gdT_i ?_ | refine gdT_ft ?_ | refine gdT_tf ?_ | refine gdT_u ?_ | refine gd_u ?_ | refine gd_ft ?_ | refine gd_tf ?_ | refine gd_i ?_ | refine pk_t ?_ | refine pk_f ?_ | refine br_t ?_ | refine br_f ?_ | refine sp_boxa hs fun g w hs => ?_))
       | (with_reducible ((first | apply st_bin | apply st_ext | apply st_len | apply st_un | apply st_conv); intro k' hk; simp [go_sem, thenR_ok, bin]; refine hk _ _ ?_; clear hk k'))
       | ((with_reducible (first | apply tk_bin | apply tk_len | apply tk_un)); (· intro w; simp [go_sem, bin]; rfl))
       | ((with_reducible apply sp_newr hs); (· kernel_rfl); intro g w hs))
      refine sp_eln hs (Ins.lst (.tl (.tl (.tl (.tl (.tl (.tl hl))))))) a8T (by kernel_rfl) i rfl h1 fun cs hcl hs => ?_
      have hxl := hB8 _ (List.getElem_mem h1)
      obtain ⟨Ax, cx, lx, rfl, hs⟩ := act8_open hs .hd
      obtain ⟨Ay, cy, rfl⟩ := hs.lst_len (Ins.lst .hd)
      have hok : I64 l[i].kind ∧ I64 l[i].fee ∧ I64 l[i].n := by
        obtain ⟨_, _, _, h, _⟩ := hs.get (Ins.tl (.tl .hd))
        exact h
      refine sp_newr hs (by kernel_rfl) fun g13 w hs => ?_
      refine sp_setr (ds := act8V l[i] (.slice Ax l[i].tx.length cx) (.slice Ay l[i].list.length cy)) hs .hd (by kernel_rfl) hcl (act8C_one rfl rfl rfl rfl rfl) fun w hs => ?_
      generalize l[i] = x at *
      have hH := hB_len x.tx
      repeat (first
       | (with_reducible refine act8.a0 ?_)
       | ((with_reducible apply act8.r0 hs); (· (with_reducible (repeat (first | exact .blk | exact .rng | apply Rng.tl)))))
       | (with_reducible refine act8.c0 ?_)
       | ((with_reducible apply act8.e0); (· first | exact hS | exact hid); (· (with_reducible (repeat (first | exact .blk | exact .rng | apply Rng.tl)))))
       | (with_reducible refine act8.a1 ?_)
       | ((with_reducible apply act8.r1 hs); (· (with_reducible (repeat (first | exact .blk | exact .rng | apply Rng.tl)))))
       | (with_reducible refine act8.c1 ?_)
       | ((with_reducible apply act8.e1); (· first | exact hS | exact hid); (· (with_reducible (repeat (first | exact .blk | exact .rng | apply Rng.tl)))))
       | (with_reducible refine act8.a2 ?_)
       | ((with_reducible apply act8.r2 hs); (· (with_reducible (repeat (first | exact .blk | exact .rng | apply Rng.tl)))))
       | (with_reducible refine act8.c2 ?_)
       | ((with_reducible apply act8.e2); (· first | exact hS | exact hid); (· (with_reducible (repeat (first | exact .blk | exact .rng | apply Rng.tl)))))
       | (with_reducible refine act8.a3 ?_)
       | ((with_reducible apply act8.r3 hs); (· (with_reducible (repeat (first | exact .blk | exact .rng | apply Rng.tl)))))
       | (with_reducible refine act8.c3 ?_)
       | ((with_reducible apply act8.e3); (· first | exact hS | exact hid); (· (with_reducible (repeat (first | exact .blk | exact .rng | apply Rng.tl)))))
       | (with_reducible refine act8.a4 ?_)
       | ((with_reducible apply act8.r4 hs); (· (with_reducible (repeat (first | exact .blk | exact .rng | apply Rng.tl)))))
       | (with_reducible refine act8.c4 ?_)
       | ((with_reducible apply act8.e4); (· first | exact hS | exact hid); (· (with_reducible (repeat (first | exact .blk | exact .rng | apply Rng.tl)))))
       | (with_reducible (first | refine st_lens ?_ | refine st_eqls ?_ | refine st_nels ?_ | refine tk_nels ?_ | refine mv.mk ?_ | refine gdT_i ?_ | refine gdT_ft ?_ | refine gdT_tf ?_ | refine gdT_u ?_ | refine gd_u ?_ | refine gd_ft ?_ | refine gd_tf ?_ | refine gd_i ?_ | refine pk_t ?_ | refine pk_f ?_ | refine br_t ?_ | refine br_f ?_ | refine sp_boxa hs fun g w hs => ?_))
       | (with_reducible ((first | apply st_bin | apply st_ext | apply st_len | apply st_un | apply st_conv); intro k' hk; simp [go_sem, thenR_ok, bin]; refine hk _ _ ?_; clear hk k'))
       | ((with_reducible (first | apply tk_bin | apply tk_len | apply tk_un)); (· intro w; simp [go_sem, bin]; rfl))
       | ((with_reducible apply sp_newr hs); (· kernel_rfl); intro g w hs))
      refine cl (isthmusref15_Hash (l := x.tx) hs (.tl (.tl .hd)) (by omega)) ?_
      rintro _ w ⟨rfl, hs⟩
      refine sp_newr hs (by kernel_rfl) fun g14 w hs => ?_
      refine sp_setr (ds := u8s (hB x.tx)) hs .hd (by kernel_rfl) (by rw [u8s_length, hH]) (u8s_one _) fun w hs => ?_
      repeat (first
       | (with_reducible refine act8.a0 ?_)
       | ((with_reducible apply act8.r0 hs); (· (with_reducible (repeat (first | exact .blk | exact .rng | apply Rng.tl)))))
       | (with_reducible refine act8.c0 ?_)
       | ((with_reducible apply act8.e0); (· first | exact hS | exact hid); (· (with_reducible (repeat (first | exact .blk | exact .rng | apply Rng.tl)))))
       | (with_reducible refine act8.a1 ?_)
       | ((with_reducible apply act8.r1 hs); (· (with_reducible (repeat (first | exact .blk | exact .rng | apply Rng.tl)))))
       | (with_reducible refine act8.c1 ?_)
       | ((with_reducible apply act8.e1); (· first | exact hS | exact hid); (· (with_reducible (repeat (first | exact .blk | exact .rng | apply Rng.tl)))))
       | (with_reducible refine act8.a2 ?_)
       | ((with_reducible apply act8.r2 hs); (· (with_reducible (repeat (first | exact .blk | exact .rng | apply Rng.tl)))))
       | (with_reducible refine act8.c2 ?_)
       | ((with_reducible apply act8.e2); (· first | exact hS | exact hid); (· (with_reducible (repeat (first | exact .blk | exact .rng | apply Rng.tl)))))
       | (with_reducible refine act8.a3 ?_)
       | ((with_reducible apply act8.r3 hs); (· (with_reducible (repeat (first | exact .blk | exact .rng | apply Rng.tl)))))
       | (with_reducible refine act8.c3 ?_)
       | ((with_reducible apply act8.e3); (· first | exact hS | exact hid); (· (with_reducible (repeat (first | exact .blk | exact .rng | apply Rng.tl)))))
       | (with_reducible refine act8.a4 ?_)
       | ((with_reducible apply act8.r4 hs); (· (with_reducible (repeat (first | exact .blk | exact .rng | apply Rng.tl)))))
       | (with_reducible refine act8.c4 ?_)
       | ((with_reducible apply act8.e4); (· first | exact hS | exact hid); (· (with_reducible (repeat (first | exact .blk | exact .rng | apply Rng.tl)))))
       | (with_reducible (first | refine st_lens ?_ | refine st_eqls ?_ | refine st_nels ?_ | refine tk_nels ?_ | refine mv.mk ?_ | refine gdT_i ?_ | refine gdT_ft ?_ | refine gdT_tf ?_ | refine gdT_u ?_ | refine gd_u ?_ | refine gd_ft ?_ | refine gd_tf ?_ | refine gd_i ?_ | refine pk_t ?_ | refine pk_f ?_ | refine br_t ?_ | refine br_f ?_ | refine sp_boxa hs fun g w hs => ?_))
       | (with_reducible ((first | apply st_bin | apply st_ext | apply st_len | apply st_un | apply st_conv); intro k' hk; simp [go_sem, thenR_ok, bin]; refine hk _ _ ?_; clear hk k'))
       | ((with_reducible (first | apply tk_bin | apply tk_len | apply tk_un)); (· intro w; simp [go_sem, bin]; rfl))
       | ((with_reducible apply sp_newr hs); (· kernel_rfl); intro g w hs))
      obtain ⟨LL, hLL⟩ : ∃ LL, LL = (listF bytesF 1 (.slice Ay x.list.length cy) x.list).it :: (byF (.slice Ax x.tx.length cx) x.tx).it :: (act8F (act8V x (.slice Ax x.tx.length cx) (.slice Ay x.list.length cy)) x).it :: L := ⟨_, rfl⟩
      have hT' : Ins LL errT.it := hLL ▸ .tl (.tl (.tl hT))
      have hR' : Ins LL rndF.it := hLL ▸ .tl (.tl (.tl hR))
      have hli : Ins LL (listF bytesF 1 (.slice Ay x.list.length cy) x.list).it := hLL ▸ .hd
      have htx : Ins LL (byF (.slice Ax x.tx.length cx) x.tx).it := hLL ▸ .tl .hd
      have hsub : Sbl L LL := hLL ▸ .drop (.drop (.drop .all))
      replace hs := hs.sbl (L' := RunL gp g7 p lv kv lv2 kv2 (blkI g14 T.api_Hash (u8s (hB x.tx)) :: blkI g13 T.isthmuslaw18_Act (act8V x (.slice Ax x.tx.length cx) (.slice Ay x.list.length cy)) :: (listF bytesF 1 (.slice Ay x.list.length cy) x.list).it :: (byF (.slice Ax x.tx.length cx) x.tx).it :: (act8F (act8V x (.slice Ax x.tx.length cx) (.slice Ay x.list.length cy)) x).it :: L)) (.cons (.tl (.tl (.tl (.tl (.tl .hd))))) (.cons (.tl (.tl (.tl (.tl (.tl .hd))))) (.cons (.tl (.tl (.tl (.tl (.tl .hd))))) (.cons (.tl (.tl (.tl (.tl (.tl .hd))))) (.cons (.tl (.tl (.tl (.tl (.tl .hd))))) (.cons (.tl (.tl (.tl (.tl (.tl .hd))))) .all))))))
      rw [← hLL] at hs
      clear hLL
      have hxl1 := hxl.1
      have hl1 := ok.len
      have ht2 := ok.t2
      have hkn := ok.kn
      have hc1 := ok.c1
      have hc2 := ok.c2
      refine jn_by (Run36 b (blkI g14 T.api_Hash (u8s (hB x.tx)) :: blkI g13 T.isthmuslaw18_Act (act8V x (.slice Ax x.tx.length cx) (.slice Ay x.list.length cy)) :: LL) gp g7 i) ?_ ?_
      · cases hq : (IntKind.i64.wrap ((IntKind.u64.wrap x.kind).tmod 5) == 3) with
        | true =>
          refine br_t ?_
          repeat (first
           | (with_reducible refine act8.a0 ?_)
           | ((with_reducible apply act8.r0 hs); (· (with_reducible (repeat (first | exact .blk | exact .rng | apply Rng.tl)))))
           | (with_reducible refine act8.c0 ?_)
           | ((with_reducible apply act8.e0); (· first | exact hS | exact hid); (· (with_reducible (repeat (first | exact .blk | exact .rng | apply Rng.tl)))))
           | (with_reducible refine act8.a1 ?_)
           | ((with_reducible apply act8.r1 hs); (· (with_reducible (repeat (first | exact .blk | exact .rng | apply Rng.tl)))))
           | (with_reducible refine act8.c1 ?_)
           | ((with_reducible apply act8.e1); (· first | exact hS | exact hid); (· (with_reducible (repeat (first | exact .blk | exact .rng | apply Rng.tl)))))
           | (with_reducible refine act8.a2 ?_)
           | ((with_reducible apply act8.r2 hs); (· (with_reducible (repeat (first | exact .blk | exact .rng | apply Rng.tl)))))
           | (with_reducible refine act8.c2 ?_)
           | ((with_reducible apply act8.e2); (· first | exact hS | exact hid); (· (with_reducible (repeat (first | exact .blk | exact .rng | apply Rng.tl)))))
           | (with_reducible refine act8.a3 ?_)
           | ((with_reducible apply act8.r3 hs); (· (with_reducible (repeat (first | exact .blk | exact .rng | apply Rng.tl)))))
           | (with_reducible refine act8.c3 ?_)
           | ((with_reducible apply act8.e3); (· first | exact hS | exact hid); (· (with_reducible (repeat (first | exact .blk | exact .rng | apply Rng.tl)))))
           | (with_reducible refine act8.a4 ?_)
           | ((with_reducible apply act8.r4 hs); (· (with_reducible (repeat (first | exact .blk | exact .rng | apply Rng.tl)))))
           | (with_reducible refine act8.c4 ?_)
           | ((with_reducible apply act8.e4); (· first | exact hS | exact hid); (· (with_reducible (repeat (first | exact .blk | exact .rng | apply Rng.tl)))))
           | (with_reducible (first | refine st_lens ?_ | refine st_eqls ?_ | refine st_nels ?_ | refine tk_nels ?_ | refine mv.mk ?_ | refine gdT_i ?_ | refine gdT_ft ?_ | refine gdT_tf ?_ | refine gdT_u ?_ | refine gd_u ?_ | refine gd_ft ?_ | refine gd_tf ?_ | refine gd_i ?_ | refine pk_t ?_ | refine pk_f ?_ | refine br_t ?_ | refine br_f ?_ | refine sp_boxa hs fun g w hs => ?_))
           | (with_reducible ((first | apply st_bin | apply st_ext | apply st_len | apply st_un | apply st_conv); intro k' hk; simp [go_sem, thenR_ok, bin]; refine hk _ _ ?_; clear hk k'))
           | ((with_reducible (first | apply tk_bin | apply tk_len | apply tk_un)); (· intro w; simp [go_sem, bin]; rfl))
           | ((with_reducible apply sp_newr hs); (· kernel_rfl); intro g w hs))
          refine cl (pool_Done (p := p) (ts := x.list) hc1 (by omega) (by omega) hkn (.tl (.tl (.tl (.tl (.tl hR'))))) (.tl (.tl (.tl (.tl (.tl hli))))) (by omega) (fun t ht => by have := hxl.2.2 t ht; omega) hs) ?_
          rintro _ w ⟨rfl, lv3, kv3, hs⟩
          repeat with_reducible refine mv.mk ?_
          refine sp_loadall hs (.tl (.tl (.tl .hd))) (by kernel_rfl) rfl ?_
          repeat (first
           | (with_reducible refine act8.a0 ?_)
           | ((with_reducible apply act8.r0 hs); (· (with_reducible (repeat (first | exact .blk | exact .rng | apply Rng.tl)))))
           | (with_reducible refine act8.c0 ?_)
           | ((with_reducible apply act8.e0); (· first | exact hS | exact hid); (· (with_reducible (repeat (first | exact .blk | exact .rng | apply Rng.tl)))))
           | (with_reducible refine act8.a1 ?_)
           | ((with_reducible apply act8.r1 hs); (· (with_reducible (repeat (first | exact .blk | exact .rng | apply Rng.tl)))))
           | (with_reducible refine act8.c1 ?_)
           | ((with_reducible apply act8.e1); (· first | exact hS | exact hid); (· (with_reducible (repeat (first | exact .blk | exact .rng | apply Rng.tl)))))
           | (with_reducible refine act8.a2 ?_)
           | ((with_reducible apply act8.r2 hs); (· (with_reducible (repeat (first | exact .blk | exact .rng | apply Rng.tl)))))
           | (with_reducible refine act8.c2 ?_)
           | ((with_reducible apply act8.e2); (· first | exact hS | exact hid); (· (with_reducible (repeat (first | exact .blk | exact .rng | apply Rng.tl)))))
           | (with_reducible refine act8.a3 ?_)
           | ((with_reducible apply act8.r3 hs); (· (with_reducible (repeat (first | exact .blk | exact .rng | apply Rng.tl)))))
           | (with_reducible refine act8.c3 ?_)
           | ((with_reducible apply act8.e3); (· first | exact hS | exact hid); (· (with_reducible (repeat (first | exact .blk | exact .rng | apply Rng.tl)))))
           | (with_reducible refine act8.a4 ?_)
           | ((with_reducible apply act8.r4 hs); (· (with_reducible (repeat (first | exact .blk | exact .rng | apply Rng.tl)))))
           | (with_reducible refine act8.c4 ?_)
           | ((with_reducible apply act8.e4); (· first | exact hS | exact hid); (· (with_reducible (repeat (first | exact .blk | exact .rng | apply Rng.tl)))))
           | (with_reducible (first | refine st_lens ?_ | refine st_eqls ?_ | refine st_nels ?_ | refine tk_nels ?_ | refine mv.mk ?_ | refine gdT_i ?_ | refine gdT_ft ?_ | refine gdT_tf ?_ | refine gdT_u ?_ | refine gd_u ?_ | refine gd_ft ?_ | refine gd_tf ?_ | refine gd_i ?_ | refine pk_t ?_ | refine pk_f ?_ | refine br_t ?_ | refine br_f ?_ | refine sp_boxa hs fun g w hs => ?_))
           | (with_reducible ((first | apply st_bin | apply st_ext | apply st_len | apply st_un | apply st_conv); intro k' hk; simp [go_sem, thenR_ok, bin]; refine hk _ _ ?_; clear hk k'))
           | ((with_reducible (first | apply tk_bin | apply tk_len | apply tk_un)); (· intro w; simp [go_sem, bin]; rfl))
           | ((with_reducible apply sp_newr hs); (· kernel_rfl); intro g w hs))
          refine cl (isthmusref18_Done (ts := x.list) hlv hkv (.tl (.tl (.tl (.tl .hd)))) (.tl (.tl (.tl (.tl (.tl .hd))))) (.tl (.tl (.tl (.tl (.tl (.tl (.tl (.tl hli)))))))) (by rw [List.length_map]; omega) (by omega) (fun z hz => by
            obtain ⟨y, hy, rfl⟩ := List.mem_map.1 hz
            have := ok.small y hy
            show y.b.length ≤ _
            omega) hc1 (by omega) (by omega) (fun t ht => by have := hxl.2.2 t ht; omega) hs) ?_
          rintro _ w ⟨lv4, kv4, hlv4, hkv4, rfl, hs⟩
          refine sp_stb hs (.tl (.tl (.tl (.tl (.tl .hd))))) (by kernel_rfl) rfl rfl (rpoolC_one rfl rfl rfl hlv4 hkv4) fun w hs => ?_
          rw [← dones_toR ok] at hs
          obtain ⟨e1, e2, e3⟩ := dones_cache (ts := x.list) (p := p)
          rw [← e1, ← e2, ← e3] at hs
          exact ⟨x.list.foldl doneP p, lv3, kv3, lv4, kv4, _, by rw [h4], ok.dones.next, hlv4, hkv4, hs.sbl (.cons (.tl (.tl (.tl .hd))) (.cons (.tl (.tl (.tl .hd))) (.cons (.tl (.tl (.tl .hd))) (.cons .hd (.cons .hd (.cons .hd (.drop (.drop .all))))))))⟩
        | false =>
          refine br_f ?_
          repeat (first
           | (with_reducible (first | refine st_lens ?_ | refine st_eqls ?_ | refine st_nels ?_ | refine tk_nels ?_ | refine mv.mk ?_ | refine gdT_i ?_ | refine gdT_ft ?_ | refine gdT_tf ?_ | refine gdT_u ?_ | refine gd_u ?_ | refine gd_ft ?_ | refine gd_tf ?_ | refine gd_i ?_ | refine pk_t ?_ | refine pk_f ?_ | refine br_t ?_ | refine br_f ?_ | refine sp_boxa hs fun g w hs => ?_))
           | (with_reducible ((first | apply st_bin | apply st_ext | apply st_len | apply st_un | apply st_conv); intro k' hk; simp [go_sem, thenR_ok, bin]; refine hk _ _ ?_; clear hk k'))
           | ((with_reducible (first | apply tk_bin | apply tk_len | apply tk_un)); (· intro w; simp [go_sem, bin]; rfl))
           | ((with_reducible apply sp_newr hs); (· kernel_rfl); intro g w hs))
          refine jn_by (Run36 b (blkI g14 T.api_Hash (u8s (hB x.tx)) :: blkI g13 T.isthmuslaw18_Act (act8V x (.slice Ax x.tx.length cx) (.slice Ay x.list.length cy)) :: LL) gp g7 i) ?_ ?_
          · cases hq4 : (IntKind.i64.wrap ((IntKind.u64.wrap x.kind).tmod 5) == 4) with
            | true =>
              refine br_t ?_
              exact runs_drop ok h2 h4 hlv hkv hH hT' hs
            | false =>
              refine br_f ?_
              exact mv.mk (runs_add ok h2 h4 hlv hkv hH hT' hR' htx hxl1 hs)
          · rintro x3 w ⟨p, lv, kv, lv2, kv2, ys, hx3, ok, hlv, hkv, hs⟩
            simp only [List.cons.injEq] at hx3
            exact ⟨p, lv, kv, lv2, kv2, _, by rw [hx3.1], ok, hlv, hkv, hs⟩
      · rintro x2 w ⟨p, lv, kv, lv2, kv2, ys, hx2, ok, hlv, hkv, hs⟩
        simp only [List.cons.injEq] at hx2
        have hend := fun (k : Value → World → Prop) (t180 : Value) (w1 : World) => runs_end (k := k) (t180 := t180) (w1 := w1) (x1 := x1) (x2 := x2) ok h2 hx2.1 h12 hok.2.2 hok.2.1 hlv hkv hH hsub hs
        unfold F.isthmuslaw18_PoolRuns_end at hend
        simp only [h12] at hend
        exact hend _ _ _
    · by_cases h2 : i < l.length
      · rw [decide_eq_true h2]
        repeat (first
         | (with_reducible (first | refine st_lens ?_ | refine st_eqls ?_ | refine st_nels ?_ | refine tk_nels ?_ | refine mv.mk ?_ | refine gdT_i ?_ | refine gdT_ft ?_ | refine gdT_tf ?_ | refine gdT_u ?_ | refine gd_u ?_ | refine gd_ft ?_ | refine gd_tf ?_ | refine gd_i ?_ | refine pk_t ?_ | refine pk_f ?_ | refine br_t ?_ | refine br_f ?_ | refine sp_boxa hs fun g w hs => ?_))
         | (with_reducible ((first | apply st_bin | apply st_ext | apply st_len | apply st_un | apply st_conv); intro k' hk; simp [go_sem, thenR_ok, bin]; refine hk _ _ ?_; clear hk k'))
         | ((with_reducible (first | apply tk_bin | apply tk_len | apply tk_un)); (· intro w; simp [go_sem, bin]; rfl))
         | ((with_reducible apply sp_newr hs); (· kernel_rfl); intro g w hs))
        rw [show decide ((i : Int) < 60) = false by simp; omega]
        repeat (first
         | (with_reducible (first | refine st_lens ?_ | refine st_eqls ?_ | refine st_nels ?_ | refine tk_nels ?_ | refine mv.mk ?_ | refine gdT_i ?_ | refine gdT_ft ?_ | refine gdT_tf ?_ | refine gdT_u ?_ | refine gd_u ?_ | refine gd_ft ?_ | refine gd_tf ?_ | refine gd_i ?_ | refine pk_t ?_ | refine pk_f ?_ | refine br_t ?_ | refine br_f ?_ | refine sp_boxa hs fun g w hs => ?_))
         | (with_reducible ((first | apply st_bin | apply st_ext | apply st_len | apply st_un | apply st_conv); intro k' hk; simp [go_sem, thenR_ok, bin]; refine hk _ _ ?_; clear hk k'))
         | ((with_reducible (first | apply tk_bin | apply tk_len | apply tk_un)); (· intro w; simp [go_sem, bin]; rfl))
         | ((with_reducible apply sp_newr hs); (· kernel_rfl); intro g w hs))
        refine cl (isthmuslaw18_sure hs (.tl (.tl (.tl (.tl (.tl (.tl hT)))))) (.tl (.tl (.tl (.tl (.tl (.tl hR))))))) ?_
        rintro _ w ⟨rfl, hs⟩
        repeat with_reducible refine mv.mk ?_
        exact ⟨rfl, hs.sbl (.drop (.drop (.drop (.drop (.drop (.drop .all))))))⟩
      · rw [decide_eq_false h2]
        repeat (first
         | (with_reducible (first | refine st_lens ?_ | refine st_eqls ?_ | refine st_nels ?_ | refine tk_nels ?_ | refine mv.mk ?_ | refine gdT_i ?_ | refine gdT_ft ?_ | refine gdT_tf ?_ | refine gdT_u ?_ | refine gd_u ?_ | refine gd_ft ?_ | refine gd_tf ?_ | refine gd_i ?_ | refine pk_t ?_ | refine pk_f ?_ | refine br_t ?_ | refine br_f ?_ | refine sp_boxa hs fun g w hs => ?_))
         | (with_reducible ((first | apply st_bin | apply st_ext | apply st_len | apply st_un | apply st_conv); intro k' hk; simp [go_sem, thenR_ok, bin]; refine hk _ _ ?_; clear hk k'))
         | ((with_reducible (first | apply tk_bin | apply tk_len | apply tk_un)); (· intro w; simp [go_sem, bin]; rfl))
         | ((with_reducible apply sp_newr hs); (· kernel_rfl); intro g w hs))
        refine cl (isthmuslaw18_sure hs (.tl (.tl (.tl (.tl (.tl (.tl hT)))))) (.tl (.tl (.tl (.tl (.tl (.tl hR))))))) ?_
        rintro _ w ⟨rfl, hs⟩
        repeat with_reducible refine mv.mk ?_
        exact ⟨rfl, hs.sbl (.drop (.drop (.drop (.drop (.drop (.drop .all))))))⟩
end
end Go.Proofs.YtgagekffmamldaaGreatDoor
set_option linter.unusedVariables false
set_option linter.unusedSimpArgs false
set_option linter.unusedSectionVars false
namespace Go.Proofs.YtgagekffmamldaaGreatDoor
open Go Go.Isk Go.RowKit
theorem sum_small : ∀ {ts : List Bytes}, ts.length ≤ (ts.map fun l => l.length + 1).sum ∧ ∀ t ∈ ts, t.length + 1 ≤ (ts.map fun l => l.length + 1).sum
  | [] => ⟨Nat.zero_le _, fun t h => by cases h⟩
  | a :: ts => by
    have ih := sum_small (ts := ts)
    simp only [List.map_cons, List.sum_cons, List.length_cons]
    refine ⟨by omega, fun t h => ?_⟩
    rcases List.mem_cons.1 h with rfl | h
    · omega
    · have := ih.2 t h
      omega
theorem poolRunsW {b : Base} {w : World} {L : List It} {cs : List Value} {x : Size8} {lv : Value} {l : List Act8} (hs : Isk.Sep b w L) (hT : Ins L errT.it) (hR : Ins L rndF.it) (hx : Ins L (size8F cs x).it) (hl : Ins L (listF act8F 5 lv l).it) (hB : (l.map act8M).sum + 1 ≤ 1048576) :
    C Tryz.prog N.isthmuslaw18_PoolRuns #[.agg cs.toArray, lv] w fun r w' => r = .bool true ∧ Isk.Sep b w' L := by
  obtain rfl : cs = size8C (.int .i64 x.a) (.int .i64 x.c) (.int .i64 x.d) := hs.get hx
  exact isthmuslaw18_PoolRuns hs hT hR hl fun y hy => by
    have := act8_small hB y hy
    have h2 : y.tx.length + 1 ≤ act8M y := Nat.le_max_left ..
    have h3 : (y.list.map fun l => l.length + 1).sum + 1 ≤ act8M y := Nat.le_max_right ..
    have h4 := sum_small (ts := y.list)
    exact ⟨by omega, by omega, fun t ht => by have := h4.2 t ht; omega⟩
end Go.Proofs.YtgagekffmamldaaGreatDoor
