/- Blocks: whether one may be, in the program. -/
import Derived.Test.YtlfelmikcdmkhaaGreatDoorB1
set_option linter.unusedVariables false
set_option linter.unusedSimpArgs false
set_option linter.unusedSectionVars false
namespace Go.Proofs.YtlfelmikcdmkhaaGreatDoor
open Go Go.Isk Go.RowKit
set_option maxRecDepth 20000
def F.types_CheckBlock_r1 (k : Value → World → Prop) (t1 t3 t4 t5 t6 : Value) (w : World) : Prop :=
  dr w.drew fun S1 =>
  mv t6 fun t38 =>
  mv t38 fun t39 =>
  gdT t39 true (fun k16 => tk Tryz.prog S1 (Instr.fieldAt 31 t1 1) k16) fun t40 =>
  gdT t39 true (fun k17 => tk Tryz.prog S1 (Instr.loadAt 26 t40) k17) fun t41 =>
  gdT t39 true (fun k18 => tk Tryz.prog S1 (Builtin.len_ #[26] 3 #[t41]) k18) fun t42 =>
  gdT t39 true (fun k19 => tk Tryz.prog S1 (bin .leq 3 (.tmp 42) (.const (.int .i64 64)) t42 (.int .i64 64)) k19) fun t43 =>
  pk t39 t43 (.bool false) fun t44 =>
  mv t44 fun t45 =>
  gdT t45 true (fun k20 => tk Tryz.prog S1 (Instr.fieldAt 31 t1 1) k20) fun t46 =>
  gdT t45 true (fun k21 => tk Tryz.prog S1 (Instr.loadAt 26 t46) k21) fun t47 =>
  gdT t45 true (fun k22 => mv t5 k22) fun t48 =>
  gd t45 true (fun k23 => C Tryz.prog N.slices_ContainsFunc_texts #[t47, t48] w.drew k23) w.drew fun t49 w =>
  S1 w ∧
  gdT t45 true (fun k24 => tk Tryz.prog S1 (Op.unary .not t49) k24) fun t50 =>
  pk t45 t50 (.bool false) fun t51 =>
  mv t51 fun t52 =>
  gdT t52 true (fun k25 => tk Tryz.prog S1 (Instr.fieldAt 25 t3 5) k25) fun t53 =>
  nS S1 w fun S2 =>
  gdT t52 true (fun k26 => tk Tryz.prog S2 (Instr.loadAt 23 t53) k26) fun t54 =>
  gdT t52 true (fun k27 => tk Tryz.prog S2 (Instr.fieldAt 31 t1 1) k27) fun t55 =>
  gdT t52 true (fun k28 => tk Tryz.prog S2 (Instr.loadAt 26 t55) k28) fun t56 =>
  gd t52 true (fun k29 => C Tryz.prog N.types_TxsHash #[t56] w k29) w fun t57 w =>
  S2 w ∧
  gdT t52 true (fun k30 => tk Tryz.prog S2 (bin .eql 23 (.tmp 54) (.tmp 57) t54 t57) k30) fun t58 =>
  pk t52 t58 (.bool false) fun t59 =>
  mv t59 fun t6_1 =>
  o1 Tryz.prog (Instr.fieldAt 25 t3 1) w fun t60 w =>
  o1 Tryz.prog (Instr.loadAt 3 t60) w fun t61 w =>
  o1 Tryz.prog (bin .eql 3 (.tmp 61) (.const (.int .i64 1)) t61 (.int .i64 1)) w fun t62 w =>
  jn (fun x1 => [x1 6]) (fun k31 =>
  br t62 (fun _ =>
  mv t6_1 fun t63 =>
  mv t63 fun t64 =>
  gd t64 true (fun k32 => o1 Tryz.prog (Instr.fieldAt 25 t3 3) w k32) w fun t65 w =>
  gd t64 true (fun k33 => o1 Tryz.prog (Instr.loadAt 23 t65) w k33) w fun t66 w =>
  gd t64 true (fun k34 => o1 Tryz.prog (Instr.loadAt 23 t4) w k34) w fun t67 w =>
  gd t64 true (fun k35 => o1 Tryz.prog (bin .eql 23 (.tmp 66) (.tmp 67) t66 t67) w k35) w fun t68 w =>
  pk t64 t68 (.bool false) fun t69 =>
  mv t69 fun t70 =>
  gd t70 true (fun k36 => o1 Tryz.prog (Instr.fieldAt 31 t1 2) w k36) w fun t71 w =>
  gd t70 true (fun k37 => o1 Tryz.prog (Instr.fieldAt 29 t71 0) w k37) w fun t72 w =>
  gd t70 true (fun k38 => o1 Tryz.prog (Instr.loadAt 3 t72) w k38) w fun t73 w =>
  gd t70 true (fun k39 => o1 Tryz.prog (bin .eql 3 (.tmp 73) (.const (.int .i64 0)) t73 (.int .i64 0)) w k39) w fun t74 w =>
  pk t70 t74 (.bool false) fun t75 =>
  mv t75 fun t76 =>
  gd t76 true (fun k40 => o1 Tryz.prog (Instr.fieldAt 31 t1 2) w k40) w fun t77 w =>
  gd t76 true (fun k41 => o1 Tryz.prog (Instr.fieldAt 29 t77 1) w k41) w fun t78 w =>
  gd t76 true (fun k42 => o1 Tryz.prog (Instr.loadAt 3 t78) w k42) w fun t79 w =>
  gd t76 true (fun k43 => o1 Tryz.prog (bin .eql 3 (.tmp 79) (.const (.int .i64 0)) t79 (.int .i64 0)) w k43) w fun t80 w =>
  pk t76 t80 (.bool false) fun t81 =>
  mv t81 fun t82 =>
  gd t82 true (fun k44 => o1 Tryz.prog (Instr.fieldAt 31 t1 2) w k44) w fun t83 w =>
  gd t82 true (fun k45 => o1 Tryz.prog (Instr.fieldAt 29 t83 2) w k45) w fun t84 w =>
  gd t82 true (fun k46 => o1 Tryz.prog (Instr.loadAt 23 t84) w k46) w fun t85 w =>
  gd t82 true (fun k47 => o1 Tryz.prog (Instr.loadAt 23 t4) w k47) w fun t86 w =>
  gd t82 true (fun k48 => o1 Tryz.prog (bin .eql 23 (.tmp 85) (.tmp 86) t85 t86) w k48) w fun t87 w =>
  pk t82 t87 (.bool false) fun t88 =>
  mv t88 fun t89 =>
  gd t89 true (fun k49 => o1 Tryz.prog (Instr.fieldAt 31 t1 2) w k49) w fun t90 w =>
  gd t89 true (fun k50 => o1 Tryz.prog (Instr.fieldAt 29 t90 3) w k50) w fun t91 w =>
  gd t89 true (fun k51 => o1 Tryz.prog (Instr.loadAt 27 t91) w k51) w fun t92 w =>
  gd t89 true (fun k52 => o1 Tryz.prog (Builtin.len_ #[27] 3 #[t92]) w k52) w fun t93 w =>
  gd t89 true (fun k53 => o1 Tryz.prog (bin .eql 3 (.tmp 93) (.const (.int .i64 0)) t93 (.int .i64 0)) w k53) w fun t94 w =>
  pk t89 t94 (.bool false) fun t95 =>
  mv t95 fun t6_2 =>
  k31 [t6_2] w) (fun _ =>
  mv t6_1 fun t96 =>
  mv t96 fun t97 =>
  gd t97 true (fun k54 => o1 Tryz.prog (Instr.fieldAt 25 t3 3) w k54) w fun t98 w =>
  gd t97 true (fun k55 => o1 Tryz.prog (Instr.loadAt 23 t98) w k55) w fun t99 w =>
  gd t97 true (fun k56 => o1 Tryz.prog (Instr.loadAt 23 t4) w k56) w fun t100 w =>
  gd t97 true (fun k57 => o1 Tryz.prog (bin .neq 23 (.tmp 99) (.tmp 100) t99 t100) w k57) w fun t101 w =>
  pk t97 t101 (.bool false) fun t102 =>
  mv t102 fun t103 =>
  gd t103 true (fun k58 => o1 Tryz.prog (Instr.fieldAt 31 t1 2) w k58) w fun t104 w =>
  gd t103 true (fun k59 => o1 Tryz.prog (Instr.fieldAt 29 t104 0) w k59) w fun t105 w =>
  gd t103 true (fun k60 => o1 Tryz.prog (Instr.loadAt 3 t105) w k60) w fun t106 w =>
  gd t103 true (fun k61 => o1 Tryz.prog (Instr.fieldAt 25 t3 1) w k61) w fun t107 w =>
  gd t103 true (fun k62 => o1 Tryz.prog (Instr.loadAt 3 t107) w k62) w fun t108 w =>
  gd t103 true (fun k63 => o1 Tryz.prog (bin .sub 3 (.tmp 108) (.const (.int .i64 1)) t108 (.int .i64 1)) w k63) w fun t109 w =>
  gd t103 true (fun k64 => o1 Tryz.prog (bin .eql 3 (.tmp 106) (.tmp 109) t106 t109) w k64) w fun t110 w =>
  pk t103 t110 (.bool false) fun t111 =>
  mv t111 fun t112 =>
  gd t112 true (fun k65 => o1 Tryz.prog (Instr.fieldAt 31 t1 2) w k65) w fun t113 w =>
  gd t112 true (fun k66 => o1 Tryz.prog (Instr.fieldAt 29 t113 2) w k66) w fun t114 w =>
  gd t112 true (fun k67 => o1 Tryz.prog (Instr.loadAt 23 t114) w k67) w fun t115 w =>
  gd t112 true (fun k68 => o1 Tryz.prog (Instr.fieldAt 25 t3 3) w k68) w fun t116 w =>
  gd t112 true (fun k69 => o1 Tryz.prog (Instr.loadAt 23 t116) w k69) w fun t117 w =>
  gd t112 true (fun k70 => o1 Tryz.prog (bin .eql 23 (.tmp 115) (.tmp 117) t115 t117) w k70) w fun t118 w =>
  pk t112 t118 (.bool false) fun t119 =>
  mv t119 fun t6_3 =>
  k31 [t6_3] w)) fun x1 w =>
  mv (x1 6) fun t120 =>
  o1 Tryz.prog (Op.unary .not t120) w fun t121 w =>
  br t121 (fun _ =>
  C Tryz.prog N.types_fault #[.string ⟨#[98, 108, 111, 99, 107]⟩, .int .i64 34] w fun t122 w =>
  mv t122 fun t2_1 =>
  k t2_1 w) (fun _ =>
  mv .nilIface fun t2_2 =>
  k t2_2 w)
def F.types_CheckBlock_r2 (k : Value → World → Prop) (t1 t3 t4 t6_1 : Value) (w : World) : Prop :=
  o1 Tryz.prog (Instr.fieldAt 25 t3 1) w fun t60 w =>
  o1 Tryz.prog (Instr.loadAt 3 t60) w fun t61 w =>
  o1 Tryz.prog (bin .eql 3 (.tmp 61) (.const (.int .i64 1)) t61 (.int .i64 1)) w fun t62 w =>
  jn (fun x1 => [x1 6]) (fun k31 =>
  br t62 (fun _ =>
  mv t6_1 fun t63 =>
  mv t63 fun t64 =>
  gd t64 true (fun k32 => o1 Tryz.prog (Instr.fieldAt 25 t3 3) w k32) w fun t65 w =>
  gd t64 true (fun k33 => o1 Tryz.prog (Instr.loadAt 23 t65) w k33) w fun t66 w =>
  gd t64 true (fun k34 => o1 Tryz.prog (Instr.loadAt 23 t4) w k34) w fun t67 w =>
  gd t64 true (fun k35 => o1 Tryz.prog (bin .eql 23 (.tmp 66) (.tmp 67) t66 t67) w k35) w fun t68 w =>
  pk t64 t68 (.bool false) fun t69 =>
  mv t69 fun t70 =>
  gd t70 true (fun k36 => o1 Tryz.prog (Instr.fieldAt 31 t1 2) w k36) w fun t71 w =>
  gd t70 true (fun k37 => o1 Tryz.prog (Instr.fieldAt 29 t71 0) w k37) w fun t72 w =>
  gd t70 true (fun k38 => o1 Tryz.prog (Instr.loadAt 3 t72) w k38) w fun t73 w =>
  gd t70 true (fun k39 => o1 Tryz.prog (bin .eql 3 (.tmp 73) (.const (.int .i64 0)) t73 (.int .i64 0)) w k39) w fun t74 w =>
  pk t70 t74 (.bool false) fun t75 =>
  mv t75 fun t76 =>
  gd t76 true (fun k40 => o1 Tryz.prog (Instr.fieldAt 31 t1 2) w k40) w fun t77 w =>
  gd t76 true (fun k41 => o1 Tryz.prog (Instr.fieldAt 29 t77 1) w k41) w fun t78 w =>
  gd t76 true (fun k42 => o1 Tryz.prog (Instr.loadAt 3 t78) w k42) w fun t79 w =>
  gd t76 true (fun k43 => o1 Tryz.prog (bin .eql 3 (.tmp 79) (.const (.int .i64 0)) t79 (.int .i64 0)) w k43) w fun t80 w =>
  pk t76 t80 (.bool false) fun t81 =>
  mv t81 fun t82 =>
  gd t82 true (fun k44 => o1 Tryz.prog (Instr.fieldAt 31 t1 2) w k44) w fun t83 w =>
  gd t82 true (fun k45 => o1 Tryz.prog (Instr.fieldAt 29 t83 2) w k45) w fun t84 w =>
  gd t82 true (fun k46 => o1 Tryz.prog (Instr.loadAt 23 t84) w k46) w fun t85 w =>
  gd t82 true (fun k47 => o1 Tryz.prog (Instr.loadAt 23 t4) w k47) w fun t86 w =>
  gd t82 true (fun k48 => o1 Tryz.prog (bin .eql 23 (.tmp 85) (.tmp 86) t85 t86) w k48) w fun t87 w =>
  pk t82 t87 (.bool false) fun t88 =>
  mv t88 fun t89 =>
  gd t89 true (fun k49 => o1 Tryz.prog (Instr.fieldAt 31 t1 2) w k49) w fun t90 w =>
  gd t89 true (fun k50 => o1 Tryz.prog (Instr.fieldAt 29 t90 3) w k50) w fun t91 w =>
  gd t89 true (fun k51 => o1 Tryz.prog (Instr.loadAt 27 t91) w k51) w fun t92 w =>
  gd t89 true (fun k52 => o1 Tryz.prog (Builtin.len_ #[27] 3 #[t92]) w k52) w fun t93 w =>
  gd t89 true (fun k53 => o1 Tryz.prog (bin .eql 3 (.tmp 93) (.const (.int .i64 0)) t93 (.int .i64 0)) w k53) w fun t94 w =>
  pk t89 t94 (.bool false) fun t95 =>
  mv t95 fun t6_2 =>
  k31 [t6_2] w) (fun _ =>
  mv t6_1 fun t96 =>
  mv t96 fun t97 =>
  gd t97 true (fun k54 => o1 Tryz.prog (Instr.fieldAt 25 t3 3) w k54) w fun t98 w =>
  gd t97 true (fun k55 => o1 Tryz.prog (Instr.loadAt 23 t98) w k55) w fun t99 w =>
  gd t97 true (fun k56 => o1 Tryz.prog (Instr.loadAt 23 t4) w k56) w fun t100 w =>
  gd t97 true (fun k57 => o1 Tryz.prog (bin .neq 23 (.tmp 99) (.tmp 100) t99 t100) w k57) w fun t101 w =>
  pk t97 t101 (.bool false) fun t102 =>
  mv t102 fun t103 =>
  gd t103 true (fun k58 => o1 Tryz.prog (Instr.fieldAt 31 t1 2) w k58) w fun t104 w =>
  gd t103 true (fun k59 => o1 Tryz.prog (Instr.fieldAt 29 t104 0) w k59) w fun t105 w =>
  gd t103 true (fun k60 => o1 Tryz.prog (Instr.loadAt 3 t105) w k60) w fun t106 w =>
  gd t103 true (fun k61 => o1 Tryz.prog (Instr.fieldAt 25 t3 1) w k61) w fun t107 w =>
  gd t103 true (fun k62 => o1 Tryz.prog (Instr.loadAt 3 t107) w k62) w fun t108 w =>
  gd t103 true (fun k63 => o1 Tryz.prog (bin .sub 3 (.tmp 108) (.const (.int .i64 1)) t108 (.int .i64 1)) w k63) w fun t109 w =>
  gd t103 true (fun k64 => o1 Tryz.prog (bin .eql 3 (.tmp 106) (.tmp 109) t106 t109) w k64) w fun t110 w =>
  pk t103 t110 (.bool false) fun t111 =>
  mv t111 fun t112 =>
  gd t112 true (fun k65 => o1 Tryz.prog (Instr.fieldAt 31 t1 2) w k65) w fun t113 w =>
  gd t112 true (fun k66 => o1 Tryz.prog (Instr.fieldAt 29 t113 2) w k66) w fun t114 w =>
  gd t112 true (fun k67 => o1 Tryz.prog (Instr.loadAt 23 t114) w k67) w fun t115 w =>
  gd t112 true (fun k68 => o1 Tryz.prog (Instr.fieldAt 25 t3 3) w k68) w fun t116 w =>
  gd t112 true (fun k69 => o1 Tryz.prog (Instr.loadAt 23 t116) w k69) w fun t117 w =>
  gd t112 true (fun k70 => o1 Tryz.prog (bin .eql 23 (.tmp 115) (.tmp 117) t115 t117) w k70) w fun t118 w =>
  pk t112 t118 (.bool false) fun t119 =>
  mv t119 fun t6_3 =>
  k31 [t6_3] w)) fun x1 w =>
  mv (x1 6) fun t120 =>
  o1 Tryz.prog (Op.unary .not t120) w fun t121 w =>
  br t121 (fun _ =>
  C Tryz.prog N.types_fault #[.string ⟨#[98, 108, 111, 99, 107]⟩, .int .i64 34] w fun t122 w =>
  mv t122 fun t2_1 =>
  k t2_1 w) (fun _ =>
  mv .nilIface fun t2_2 =>
  k t2_2 w)
def okA (x : Block) : Bool := namedB x.header.chain && (decide (1 ≤ x.header.height) && (decide (x.header.height ≤ 1099511627776) && (decide (0 ≤ x.header.time) && (decide (x.header.time ≤ 1099511627776) && decide (0 ≤ x.header.proposer)))))
def okT (x : Block) : Bool := okA x && (decide (x.txs.length ≤ 64) && (!x.txs.any longB && decide (x.header.txs = txsHashB x.txs)))
def okL (x : Block) : Bool := if x.header.height = 1 then decide (x.header.last = zero32) && (decide (x.last.height = 0) && (decide (x.last.round = 0) && (decide (x.last.block = zero32) && decide (x.last.votes.length = 0))))
  else !decide (x.header.last = zero32) && (decide (x.last.height = x.header.height - 1) && decide (x.last.block = x.header.last))
def checkBlock (x : Block) : Int := if okT x && okL x then 0 else 34
def hcC (h : Header) : List Value := headC (str h.chain) (.int .i64 h.height) (.int .i64 h.time) (u8s h.last) (u8s h.app) (u8s h.txs) (u8s h.validators) (u8s h.next) (.int .i64 h.proposer)
def ccC (c : Commit) (A : Option Addr) (k : Nat) : List Value := commC (.int .i64 c.height) (.int .i64 c.round) (u8s c.block) (.slice A c.votes.length k)
section
variable {b : Base} {w : World} {L R : List It} {g : Nat} {v sv : Value} {cs : List Value}
theorem Sep.facts : ∀ (fs : List Fact), Isk.Sep b w L → (∀ f ∈ fs, f.holds (Stb w L) w) → Isk.Sep b w (fs.map Fact.it ++ L)
  | [], h, _ => h
  | f :: fs, h, hf => by
    have h1 := Sep.facts fs h fun g hg => hf g (by simp [hg])
    refine h1.fact (f.mono (hf f (by simp)) fun k hk _ => ⟨hk.1, fun hm => hk.2 ?_⟩)
    clear h1 hf
    induction fs with
    | nil => exact hm
    | cons g fs ih => exact ih (mine_fact.1 hm)
/-- a block, opened -/
theorem blok_box {x : Block} {K : Value → World → Prop} (hs : Isk.Sep b w L) (hm : Ins L (blokF cs x).it)
    (hk : ∀ (g : Nat) (w : World) (A1 : Option Addr) (c1 : Nat) (A2 : Option Addr) (c2 : Nat), cs = blokC (hcC x.header) (.slice A1 x.txs.length c1) (ccC x.last A2 c2) → x.header.ok → x.last.ok →
      Isk.Sep b w ((rngF g (0 + 165) (ccC x.last A2 c2)).it :: (rngF g 0 (blokC (hcC x.header) (.slice A1 x.txs.length c1) (ccC x.last A2 c2))).it :: (blokF (blokC (hcC x.header) (.slice A1 x.txs.length c1) (ccC x.last A2 c2)) x).it ::
        (listF bytesF 1 (.slice A1 x.txs.length c1) x.txs).it :: (listF voteF 37 (.slice A2 x.last.votes.length c2) x.last.votes).it :: (commF (ccC x.last A2 c2) x.last).it :: (headF (hcC x.header) x.header).it :: L) → K (.pointer (some ⟨g, 0, none⟩)) w) :
    o1 Tryz.prog (Instr.box T.api_Block (.agg cs.toArray)) w K := by
  have hb : BlokS _ _ cs _ := hs.get hm
  obtain ⟨hc, sv, cc, rfl, p1, p2, p3⟩ := id hb
  obtain ⟨vv, rfl, q1, q2⟩ := id p3
  obtain ⟨A1, c1, rfl⟩ := (hs.fact (f := listF bytesF 1 sv x.txs) p2).lst_len .lst
  obtain ⟨A2, c2, rfl⟩ := (hs.fact (f := listF voteF 37 vv x.last.votes) q2).lst_len .lst
  have hcl := p1.len
  obtain ⟨rfl, p5⟩ := id p1
  have hs : Isk.Sep b w ((blokF _ x).it :: (listF bytesF 1 _ x.txs).it :: (listF voteF 37 _ x.last.votes).it :: (commF _ x.last).it :: (headF _ x.header).it :: L) :=
    Sep.facts [blokF _ x, listF bytesF 1 _ x.txs, listF voteF 37 _ x.last.votes, commF _ x.last, headF _ x.header] hs (by
      intro f hf
      simp only [List.mem_cons, List.not_mem_nil, or_false] at hf
      rcases hf with rfl | rfl | rfl | rfl | rfl
      · exact hb
      · exact p2
      · exact q2
      · exact p3
      · exact p1)
  refine sp_boxa hs fun g w hs => ?_
  replace hs := hs.freeze (f := rngF g 0 (blokC (hcC x.header) (.slice A1 x.txs.length c1) (ccC x.last A2 c2))) .hd fun S h => ⟨Blk.range (o := 0) h fun j v hv => by rwa [Nat.zero_add], fun _ => .inr (by simp [blkI])⟩
  have hr0 := hs.get (I := (rngF g 0 (blokC (hcC x.header) (.slice A1 x.txs.length c1) (ccC x.last A2 c2))).it) .hd
  have hSg := hr0.2 (by simp [blokC]; omega)
  exact hk g w A1 c1 A2 c2 rfl p5 q1 (hs.fact (f := rngF g (0 + 165) (ccC x.last A2 c2)) ⟨range_sub hr0.1 165 (sub_of_drop (blokC_d2 hcl)), fun _ => hSg⟩)
theorem cb_r2 {x : Block} {g1 g3 g4 : Nat} {A2 : Option Addr} {c2 : Nat} (bb : Bool) (hh : x.header.ok) (hc : x.last.ok)
    (hbd : bb = true → 1 ≤ x.header.height)
    {K : Value → World → Prop} (hK : ∀ r w', Isk.Sep b w' ((errF r (if bb && okL x then 0 else 34)).it :: L) → K r w')
    (hs : Isk.Sep b w (blkI g4 T.api_Hash (u8s zero32) :: blkI g3 T.api_Header (hcC x.header) :: (rngF g1 (0 + 165) (ccC x.last A2 c2)).it :: L)) :
    F.types_CheckBlock_r2 K (.pointer (some ⟨g1, 0, none⟩)) (.pointer (some ⟨g3, 0, none⟩)) (.pointer (some ⟨g4, 0, none⟩)) (.bool bb) w := by
  have e1 := u8s_len hh.last; have e2 := u8s_len hh.app; have e3 := u8s_len hh.txs; have e4 := u8s_len hh.validators; have e5 := u8s_len hh.next
  have e6 := u8s_len hc.block
  have z : zero32.length = 32 := by decide
  unfold F.types_CheckBlock_r2
  unfold hcC ccC at hs
  repeat (first
   | (with_reducible refine head.a0 ?_)
   | ((with_reducible apply head.r0 hs); (· (with_reducible (repeat (first | exact .blk | exact .rng | apply Rng.tl)))))
   | (with_reducible refine head.c0 ?_)
   | ((with_reducible apply head.e0); (· first | exact hS | exact hid); (· (with_reducible (repeat (first | exact .blk | exact .rng | apply Rng.tl)))))
   | (with_reducible refine head.a1 ?_)
   | ((with_reducible apply head.r1 hs); (· (with_reducible (repeat (first | exact .blk | exact .rng | apply Rng.tl)))))
   | (with_reducible refine head.c1 ?_)
   | ((with_reducible apply head.e1); (· first | exact hS | exact hid); (· (with_reducible (repeat (first | exact .blk | exact .rng | apply Rng.tl)))))
   | (with_reducible refine head.a2 ?_)
   | ((with_reducible apply head.r2 hs); (· (with_reducible (repeat (first | exact .blk | exact .rng | apply Rng.tl)))))
   | (with_reducible refine head.c2 ?_)
   | ((with_reducible apply head.e2); (· first | exact hS | exact hid); (· (with_reducible (repeat (first | exact .blk | exact .rng | apply Rng.tl)))))
   | (with_reducible refine head.a3 ?_)
   | ((with_reducible apply head.r3 hs); (· (with_reducible (repeat (first | exact .blk | exact .rng | apply Rng.tl)))); (· (with_reducible (first | assumption | exact z32 | exact u8s_len (by assumption)))))
   | (with_reducible refine head.c3 ?_)
   | ((with_reducible apply head.e3); (· first | exact hS | exact hid); (· (with_reducible (repeat (first | exact .blk | exact .rng | apply Rng.tl)))); (· (with_reducible (first | assumption | exact z32 | exact u8s_len (by assumption)))))
   | (with_reducible refine head.a4 ?_)
   | ((with_reducible apply head.r4 hs); (· (with_reducible (repeat (first | exact .blk | exact .rng | apply Rng.tl)))); (repeat (· (with_reducible (first | assumption | exact z32 | exact u8s_len (by assumption))))))
   | (with_reducible refine head.c4 ?_)
   | ((with_reducible apply head.e4); (· first | exact hS | exact hid); (· (with_reducible (repeat (first | exact .blk | exact .rng | apply Rng.tl)))); (repeat (· (with_reducible (first | assumption | exact z32 | exact u8s_len (by assumption))))))
   | (with_reducible refine head.a5 ?_)
   | ((with_reducible apply head.r5 hs); (· (with_reducible (repeat (first | exact .blk | exact .rng | apply Rng.tl)))); (repeat (· (with_reducible (first | assumption | exact z32 | exact u8s_len (by assumption))))))
   | (with_reducible refine head.c5 ?_)
   | ((with_reducible apply head.e5); (· first | exact hS | exact hid); (· (with_reducible (repeat (first | exact .blk | exact .rng | apply Rng.tl)))); (repeat (· (with_reducible (first | assumption | exact z32 | exact u8s_len (by assumption))))))
   | (with_reducible refine head.a6 ?_)
   | ((with_reducible apply head.r6 hs); (· (with_reducible (repeat (first | exact .blk | exact .rng | apply Rng.tl)))); (repeat (· (with_reducible (first | assumption | exact z32 | exact u8s_len (by assumption))))))
   | (with_reducible refine head.c6 ?_)
   | ((with_reducible apply head.e6); (· first | exact hS | exact hid); (· (with_reducible (repeat (first | exact .blk | exact .rng | apply Rng.tl)))); (repeat (· (with_reducible (first | assumption | exact z32 | exact u8s_len (by assumption))))))
   | (with_reducible refine head.a7 ?_)
   | ((with_reducible apply head.r7 hs); (· (with_reducible (repeat (first | exact .blk | exact .rng | apply Rng.tl)))); (repeat (· (with_reducible (first | assumption | exact z32 | exact u8s_len (by assumption))))))
   | (with_reducible refine head.c7 ?_)
   | ((with_reducible apply head.e7); (· first | exact hS | exact hid); (· (with_reducible (repeat (first | exact .blk | exact .rng | apply Rng.tl)))); (repeat (· (with_reducible (first | assumption | exact z32 | exact u8s_len (by assumption))))))
   | (with_reducible refine head.a8 ?_)
   | ((with_reducible apply head.r8 hs); (· (with_reducible (repeat (first | exact .blk | exact .rng | apply Rng.tl)))); (repeat (· (with_reducible (first | assumption | exact z32 | exact u8s_len (by assumption))))))
   | (with_reducible refine head.c8 ?_)
   | ((with_reducible apply head.e8); (· first | exact hS | exact hid); (· (with_reducible (repeat (first | exact .blk | exact .rng | apply Rng.tl)))); (repeat (· (with_reducible (first | assumption | exact z32 | exact u8s_len (by assumption))))))
   | (with_reducible (first | refine st_lens ?_ | refine st_eqls ?_ | refine st_nels ?_ | refine tk_eqls ?_ | refine tk_nels ?_ | refine mv.mk ?_ | refine nk_p ?_ | refine gdT_i ?_ | refine gdT_ft ?_ | refine gdT_tf ?_ | refine gdT_u ?_ | refine gd_u ?_ | refine gd_ft ?_ | refine gd_tf ?_ | refine gd_i ?_ | refine pk_t ?_ | refine pk_f ?_ | refine br_t ?_ | refine br_f ?_ | refine sp_boxa hs fun g w hs => ?_))
   | (with_reducible ((first | apply st_bin | apply st_ext | apply st_len | apply st_un | apply st_conv | apply st_mki | apply st_fld | apply st_cap | apply st_max | apply st_min | apply st_ixv | apply st_mkf); intro k' hk; simp [go_sem, thenR_ok, bin]; refine hk _ _ ?_; clear hk k'))
   | ((with_reducible (first | apply tk_bin | apply tk_ext | apply tk_len | apply tk_un)); (· intro w; simp [go_sem, bin]; rfl))
   | ((with_reducible apply sp_newr hs); (· kernel_rfl); intro g w hs))
  refine jn_by (fun us w' => us = [.bool (bb && okL x)] ∧ Isk.Sep b w' L) ?_ ?_
  · by_cases h1 : x.header.height = 1
    · rw [show (x.header.height == 1) = true by simpa using h1]
      refine br_t ?_
      cases bb with
      | false =>
        repeat (first
         | (with_reducible (first | refine st_lens ?_ | refine st_eqls ?_ | refine st_nels ?_ | refine tk_eqls ?_ | refine tk_nels ?_ | refine mv.mk ?_ | refine nk_p ?_ | refine gdT_i ?_ | refine gdT_ft ?_ | refine gdT_tf ?_ | refine gdT_u ?_ | refine gd_u ?_ | refine gd_ft ?_ | refine gd_tf ?_ | refine gd_i ?_ | refine pk_t ?_ | refine pk_f ?_ | refine br_t ?_ | refine br_f ?_ | refine sp_boxa hs fun g w hs => ?_))
         | (with_reducible ((first | apply st_bin | apply st_ext | apply st_len | apply st_un | apply st_conv | apply st_mki | apply st_fld | apply st_cap | apply st_max | apply st_min | apply st_ixv | apply st_mkf); intro k' hk; simp [go_sem, thenR_ok, bin]; refine hk _ _ ?_; clear hk k'))
         | ((with_reducible (first | apply tk_bin | apply tk_ext | apply tk_len | apply tk_un)); (· intro w; simp [go_sem, bin]; rfl))
         | ((with_reducible apply sp_newr hs); (· kernel_rfl); intro g w hs))
        exact ⟨rfl, hs.sbl (.drop (.drop (.drop .all)))⟩
      | true =>
      repeat (first
       | (with_reducible refine head.a0 ?_)
       | ((with_reducible apply head.r0 hs); (· (with_reducible (repeat (first | exact .blk | exact .rng | apply Rng.tl)))))
       | (with_reducible refine head.c0 ?_)
       | ((with_reducible apply head.e0); (· first | exact hS | exact hid); (· (with_reducible (repeat (first | exact .blk | exact .rng | apply Rng.tl)))))
       | (with_reducible refine head.a1 ?_)
       | ((with_reducible apply head.r1 hs); (· (with_reducible (repeat (first | exact .blk | exact .rng | apply Rng.tl)))))
       | (with_reducible refine head.c1 ?_)
       | ((with_reducible apply head.e1); (· first | exact hS | exact hid); (· (with_reducible (repeat (first | exact .blk | exact .rng | apply Rng.tl)))))
       | (with_reducible refine head.a2 ?_)
       | ((with_reducible apply head.r2 hs); (· (with_reducible (repeat (first | exact .blk | exact .rng | apply Rng.tl)))))
       | (with_reducible refine head.c2 ?_)
       | ((with_reducible apply head.e2); (· first | exact hS | exact hid); (· (with_reducible (repeat (first | exact .blk | exact .rng | apply Rng.tl)))))
       | (with_reducible refine head.a3 ?_)
       | ((with_reducible apply head.r3 hs); (· (with_reducible (repeat (first | exact .blk | exact .rng | apply Rng.tl)))); (· (with_reducible (first | assumption | exact z32 | exact u8s_len (by assumption)))))
       | (with_reducible refine head.c3 ?_)
       | ((with_reducible apply head.e3); (· first | exact hS | exact hid); (· (with_reducible (repeat (first | exact .blk | exact .rng | apply Rng.tl)))); (· (with_reducible (first | assumption | exact z32 | exact u8s_len (by assumption)))))
       | (with_reducible refine head.a4 ?_)
       | ((with_reducible apply head.r4 hs); (· (with_reducible (repeat (first | exact .blk | exact .rng | apply Rng.tl)))); (repeat (· (with_reducible (first | assumption | exact z32 | exact u8s_len (by assumption))))))
       | (with_reducible refine head.c4 ?_)
       | ((with_reducible apply head.e4); (· first | exact hS | exact hid); (· (with_reducible (repeat (first | exact .blk | exact .rng | apply Rng.tl)))); (repeat (· (with_reducible (first | assumption | exact z32 | exact u8s_len (by assumption))))))
       | (with_reducible refine head.a5 ?_)
       | ((with_reducible apply head.r5 hs); (· (with_reducible (repeat (first | exact .blk | exact .rng | apply Rng.tl)))); (repeat (· (with_reducible (first | assumption | exact z32 | exact u8s_len (by assumption))))))
       | (with_reducible refine head.c5 ?_)
       | ((with_reducible apply head.e5); (· first | exact hS | exact hid); (· (with_reducible (repeat (first | exact .blk | exact .rng | apply Rng.tl)))); (repeat (· (with_reducible (first | assumption | exact z32 | exact u8s_len (by assumption))))))
       | (with_reducible refine head.a6 ?_)
       | ((with_reducible apply head.r6 hs); (· (with_reducible (repeat (first | exact .blk | exact .rng | apply Rng.tl)))); (repeat (· (with_reducible (first | assumption | exact z32 | exact u8s_len (by assumption))))))
       | (with_reducible refine head.c6 ?_)
       | ((with_reducible apply head.e6); (· first | exact hS | exact hid); (· (with_reducible (repeat (first | exact .blk | exact .rng | apply Rng.tl)))); (repeat (· (with_reducible (first | assumption | exact z32 | exact u8s_len (by assumption))))))
       | (with_reducible refine head.a7 ?_)
       | ((with_reducible apply head.r7 hs); (· (with_reducible (repeat (first | exact .blk | exact .rng | apply Rng.tl)))); (repeat (· (with_reducible (first | assumption | exact z32 | exact u8s_len (by assumption))))))
       | (with_reducible refine head.c7 ?_)
       | ((with_reducible apply head.e7); (· first | exact hS | exact hid); (· (with_reducible (repeat (first | exact .blk | exact .rng | apply Rng.tl)))); (repeat (· (with_reducible (first | assumption | exact z32 | exact u8s_len (by assumption))))))
       | (with_reducible refine head.a8 ?_)
       | ((with_reducible apply head.r8 hs); (· (with_reducible (repeat (first | exact .blk | exact .rng | apply Rng.tl)))); (repeat (· (with_reducible (first | assumption | exact z32 | exact u8s_len (by assumption))))))
       | (with_reducible refine head.c8 ?_)
       | ((with_reducible apply head.e8); (· first | exact hS | exact hid); (· (with_reducible (repeat (first | exact .blk | exact .rng | apply Rng.tl)))); (repeat (· (with_reducible (first | assumption | exact z32 | exact u8s_len (by assumption))))))
       | (with_reducible (first | refine st_lens ?_ | refine st_eqls ?_ | refine st_nels ?_ | refine tk_eqls ?_ | refine tk_nels ?_ | refine mv.mk ?_ | refine nk_p ?_ | refine gdT_i ?_ | refine gdT_ft ?_ | refine gdT_tf ?_ | refine gdT_u ?_ | refine gd_u ?_ | refine gd_ft ?_ | refine gd_tf ?_ | refine gd_i ?_ | refine pk_t ?_ | refine pk_f ?_ | refine br_t ?_ | refine br_f ?_ | refine sp_boxa hs fun g w hs => ?_))
       | (with_reducible ((first | apply st_bin | apply st_ext | apply st_len | apply st_un | apply st_conv | apply st_mki | apply st_fld | apply st_cap | apply st_max | apply st_min | apply st_ixv | apply st_mkf); intro k' hk; simp [go_sem, thenR_ok, bin]; refine hk _ _ ?_; clear hk k'))
       | ((with_reducible (first | apply tk_bin | apply tk_ext | apply tk_len | apply tk_un)); (· intro w; simp [go_sem, bin]; rfl))
       | ((with_reducible apply sp_newr hs); (· kernel_rfl); intro g w hs))
      refine sp_ldn hs (by repeat (first | with_reducible exact Rng.blk | with_reducible exact Rng.rng | with_reducible apply Rng.tl)) (by kernel_rfl) z32 ?_
      repeat (first
       | (with_reducible (first | refine st_lens ?_ | refine st_eqls ?_ | refine st_nels ?_ | refine tk_eqls ?_ | refine tk_nels ?_ | refine mv.mk ?_ | refine nk_p ?_ | refine gdT_i ?_ | refine gdT_ft ?_ | refine gdT_tf ?_ | refine gdT_u ?_ | refine gd_u ?_ | refine gd_ft ?_ | refine gd_tf ?_ | refine gd_i ?_ | refine pk_t ?_ | refine pk_f ?_ | refine br_t ?_ | refine br_f ?_ | refine sp_boxa hs fun g w hs => ?_))
       | (with_reducible ((first | apply st_bin | apply st_ext | apply st_len | apply st_un | apply st_conv | apply st_mki | apply st_fld | apply st_cap | apply st_max | apply st_min | apply st_ixv | apply st_mkf); intro k' hk; simp [go_sem, thenR_ok, bin]; refine hk _ _ ?_; clear hk k'))
       | ((with_reducible (first | apply tk_bin | apply tk_ext | apply tk_len | apply tk_un)); (· intro w; simp [go_sem, bin]; rfl))
       | ((with_reducible apply sp_newr hs); (· kernel_rfl); intro g w hs))
      refine st_of (hash_eq hh.last z _ _ _) ?_
      by_cases c3 : x.header.last = zero32
      rotate_left
      · rw [decide_eq_false c3]
        repeat (first
         | (with_reducible (first | refine st_lens ?_ | refine st_eqls ?_ | refine st_nels ?_ | refine tk_eqls ?_ | refine tk_nels ?_ | refine mv.mk ?_ | refine nk_p ?_ | refine gdT_i ?_ | refine gdT_ft ?_ | refine gdT_tf ?_ | refine gdT_u ?_ | refine gd_u ?_ | refine gd_ft ?_ | refine gd_tf ?_ | refine gd_i ?_ | refine pk_t ?_ | refine pk_f ?_ | refine br_t ?_ | refine br_f ?_ | refine sp_boxa hs fun g w hs => ?_))
         | (with_reducible ((first | apply st_bin | apply st_ext | apply st_len | apply st_un | apply st_conv | apply st_mki | apply st_fld | apply st_cap | apply st_max | apply st_min | apply st_ixv | apply st_mkf); intro k' hk; simp [go_sem, thenR_ok, bin]; refine hk _ _ ?_; clear hk k'))
         | ((with_reducible (first | apply tk_bin | apply tk_ext | apply tk_len | apply tk_un)); (· intro w; simp [go_sem, bin]; rfl))
         | ((with_reducible apply sp_newr hs); (· kernel_rfl); intro g w hs))
        exact ⟨by simp [okL, h1, c3], hs.sbl (.drop (.drop (.drop .all)))⟩
      rw [decide_eq_true c3]
      repeat (first
       | (with_reducible refine blok.a0 ?_)
       | ((with_reducible apply blok.r0 hs); (· (with_reducible (repeat (first | exact .blk | exact .rng | apply Rng.tl)))); (· (with_reducible (first | assumption | exact z32 | exact u8s_len (by assumption)))))
       | (with_reducible refine blok.c0 ?_)
       | ((with_reducible apply blok.e0); (· first | exact hS | exact hid); (· (with_reducible (repeat (first | exact .blk | exact .rng | apply Rng.tl)))); (· (with_reducible (first | assumption | exact z32 | exact u8s_len (by assumption)))))
       | (with_reducible refine blok.a1 ?_)
       | ((with_reducible apply blok.r1 hs); (· (with_reducible (repeat (first | exact .blk | exact .rng | apply Rng.tl)))); (· (with_reducible (first | assumption | exact z32 | exact u8s_len (by assumption)))))
       | (with_reducible refine blok.c1 ?_)
       | ((with_reducible apply blok.e1); (· first | exact hS | exact hid); (· (with_reducible (repeat (first | exact .blk | exact .rng | apply Rng.tl)))); (· (with_reducible (first | assumption | exact z32 | exact u8s_len (by assumption)))))
       | (with_reducible refine blok.a2 ?_)
       | ((with_reducible apply blok.r2 hs); (· (with_reducible (repeat (first | exact .blk | exact .rng | apply Rng.tl)))); (repeat (· (with_reducible (first | assumption | exact z32 | exact u8s_len (by assumption))))))
       | (with_reducible refine blok.c2 ?_)
       | ((with_reducible apply blok.e2); (· first | exact hS | exact hid); (· (with_reducible (repeat (first | exact .blk | exact .rng | apply Rng.tl)))); (repeat (· (with_reducible (first | assumption | exact z32 | exact u8s_len (by assumption))))))
       | (with_reducible refine comm.a0 ?_)
       | ((with_reducible apply comm.r0 hs); (· (with_reducible (repeat (first | exact .blk | exact .rng | apply Rng.tl)))))
       | (with_reducible refine comm.c0 ?_)
       | ((with_reducible apply comm.e0); (· first | exact hS | exact hid); (· (with_reducible (repeat (first | exact .blk | exact .rng | apply Rng.tl)))))
       | (with_reducible refine comm.a1 ?_)
       | ((with_reducible apply comm.r1 hs); (· (with_reducible (repeat (first | exact .blk | exact .rng | apply Rng.tl)))))
       | (with_reducible refine comm.c1 ?_)
       | ((with_reducible apply comm.e1); (· first | exact hS | exact hid); (· (with_reducible (repeat (first | exact .blk | exact .rng | apply Rng.tl)))))
       | (with_reducible refine comm.a2 ?_)
       | ((with_reducible apply comm.r2 hs); (· (with_reducible (repeat (first | exact .blk | exact .rng | apply Rng.tl)))); (· (with_reducible (first | assumption | exact z32 | exact u8s_len (by assumption)))))
       | (with_reducible refine comm.c2 ?_)
       | ((with_reducible apply comm.e2); (· first | exact hS | exact hid); (· (with_reducible (repeat (first | exact .blk | exact .rng | apply Rng.tl)))); (· (with_reducible (first | assumption | exact z32 | exact u8s_len (by assumption)))))
       | (with_reducible refine comm.a3 ?_)
       | ((with_reducible apply comm.r3 hs); (· (with_reducible (repeat (first | exact .blk | exact .rng | apply Rng.tl)))); (· (with_reducible (first | assumption | exact z32 | exact u8s_len (by assumption)))))
       | (with_reducible refine comm.c3 ?_)
       | ((with_reducible apply comm.e3); (· first | exact hS | exact hid); (· (with_reducible (repeat (first | exact .blk | exact .rng | apply Rng.tl)))); (· (with_reducible (first | assumption | exact z32 | exact u8s_len (by assumption)))))
       | (with_reducible (first | refine st_lens ?_ | refine st_eqls ?_ | refine st_nels ?_ | refine tk_eqls ?_ | refine tk_nels ?_ | refine mv.mk ?_ | refine nk_p ?_ | refine gdT_i ?_ | refine gdT_ft ?_ | refine gdT_tf ?_ | refine gdT_u ?_ | refine gd_u ?_ | refine gd_ft ?_ | refine gd_tf ?_ | refine gd_i ?_ | refine pk_t ?_ | refine pk_f ?_ | refine br_t ?_ | refine br_f ?_ | refine sp_boxa hs fun g w hs => ?_))
       | (with_reducible ((first | apply st_bin | apply st_ext | apply st_len | apply st_un | apply st_conv | apply st_mki | apply st_fld | apply st_cap | apply st_max | apply st_min | apply st_ixv | apply st_mkf); intro k' hk; simp [go_sem, thenR_ok, bin]; refine hk _ _ ?_; clear hk k'))
       | ((with_reducible (first | apply tk_bin | apply tk_ext | apply tk_len | apply tk_un)); (· intro w; simp [go_sem, bin]; rfl))
       | ((with_reducible apply sp_newr hs); (· kernel_rfl); intro g w hs))
      by_cases c4 : x.last.height = 0
      rotate_left
      · rw [show (x.last.height == 0) = false by simpa using c4]
        repeat (first
         | (with_reducible (first | refine st_lens ?_ | refine st_eqls ?_ | refine st_nels ?_ | refine tk_eqls ?_ | refine tk_nels ?_ | refine mv.mk ?_ | refine nk_p ?_ | refine gdT_i ?_ | refine gdT_ft ?_ | refine gdT_tf ?_ | refine gdT_u ?_ | refine gd_u ?_ | refine gd_ft ?_ | refine gd_tf ?_ | refine gd_i ?_ | refine pk_t ?_ | refine pk_f ?_ | refine br_t ?_ | refine br_f ?_ | refine sp_boxa hs fun g w hs => ?_))
         | (with_reducible ((first | apply st_bin | apply st_ext | apply st_len | apply st_un | apply st_conv | apply st_mki | apply st_fld | apply st_cap | apply st_max | apply st_min | apply st_ixv | apply st_mkf); intro k' hk; simp [go_sem, thenR_ok, bin]; refine hk _ _ ?_; clear hk k'))
         | ((with_reducible (first | apply tk_bin | apply tk_ext | apply tk_len | apply tk_un)); (· intro w; simp [go_sem, bin]; rfl))
         | ((with_reducible apply sp_newr hs); (· kernel_rfl); intro g w hs))
        exact ⟨by simp [okL, h1, c3, c4], hs.sbl (.drop (.drop (.drop .all)))⟩
      rw [show (x.last.height == 0) = true by simpa using c4]
      repeat (first
       | (with_reducible refine blok.a0 ?_)
       | ((with_reducible apply blok.r0 hs); (· (with_reducible (repeat (first | exact .blk | exact .rng | apply Rng.tl)))); (· (with_reducible (first | assumption | exact z32 | exact u8s_len (by assumption)))))
       | (with_reducible refine blok.c0 ?_)
       | ((with_reducible apply blok.e0); (· first | exact hS | exact hid); (· (with_reducible (repeat (first | exact .blk | exact .rng | apply Rng.tl)))); (· (with_reducible (first | assumption | exact z32 | exact u8s_len (by assumption)))))
       | (with_reducible refine blok.a1 ?_)
       | ((with_reducible apply blok.r1 hs); (· (with_reducible (repeat (first | exact .blk | exact .rng | apply Rng.tl)))); (· (with_reducible (first | assumption | exact z32 | exact u8s_len (by assumption)))))
       | (with_reducible refine blok.c1 ?_)
       | ((with_reducible apply blok.e1); (· first | exact hS | exact hid); (· (with_reducible (repeat (first | exact .blk | exact .rng | apply Rng.tl)))); (· (with_reducible (first | assumption | exact z32 | exact u8s_len (by assumption)))))
       | (with_reducible refine blok.a2 ?_)
       | ((with_reducible apply blok.r2 hs); (· (with_reducible (repeat (first | exact .blk | exact .rng | apply Rng.tl)))); (repeat (· (with_reducible (first | assumption | exact z32 | exact u8s_len (by assumption))))))
       | (with_reducible refine blok.c2 ?_)
       | ((with_reducible apply blok.e2); (· first | exact hS | exact hid); (· (with_reducible (repeat (first | exact .blk | exact .rng | apply Rng.tl)))); (repeat (· (with_reducible (first | assumption | exact z32 | exact u8s_len (by assumption))))))
       | (with_reducible refine comm.a0 ?_)
       | ((with_reducible apply comm.r0 hs); (· (with_reducible (repeat (first | exact .blk | exact .rng | apply Rng.tl)))))
       | (with_reducible refine comm.c0 ?_)
       | ((with_reducible apply comm.e0); (· first | exact hS | exact hid); (· (with_reducible (repeat (first | exact .blk | exact .rng | apply Rng.tl)))))
       | (with_reducible refine comm.a1 ?_)
       | ((with_reducible apply comm.r1 hs); (· (with_reducible (repeat (first | exact .blk | exact .rng | apply Rng.tl)))))
       | (with_reducible refine comm.c1 ?_)
       | ((with_reducible apply comm.e1); (· first | exact hS | exact hid); (· (with_reducible (repeat (first | exact .blk | exact .rng | apply Rng.tl)))))
       | (with_reducible refine comm.a2 ?_)
       | ((with_reducible apply comm.r2 hs); (· (with_reducible (repeat (first | exact .blk | exact .rng | apply Rng.tl)))); (· (with_reducible (first | assumption | exact z32 | exact u8s_len (by assumption)))))
       | (with_reducible refine comm.c2 ?_)
       | ((with_reducible apply comm.e2); (· first | exact hS | exact hid); (· (with_reducible (repeat (first | exact .blk | exact .rng | apply Rng.tl)))); (· (with_reducible (first | assumption | exact z32 | exact u8s_len (by assumption)))))
       | (with_reducible refine comm.a3 ?_)
       | ((with_reducible apply comm.r3 hs); (· (with_reducible (repeat (first | exact .blk | exact .rng | apply Rng.tl)))); (· (with_reducible (first | assumption | exact z32 | exact u8s_len (by assumption)))))
       | (with_reducible refine comm.c3 ?_)
       | ((with_reducible apply comm.e3); (· first | exact hS | exact hid); (· (with_reducible (repeat (first | exact .blk | exact .rng | apply Rng.tl)))); (· (with_reducible (first | assumption | exact z32 | exact u8s_len (by assumption)))))
       | (with_reducible (first | refine st_lens ?_ | refine st_eqls ?_ | refine st_nels ?_ | refine tk_eqls ?_ | refine tk_nels ?_ | refine mv.mk ?_ | refine nk_p ?_ | refine gdT_i ?_ | refine gdT_ft ?_ | refine gdT_tf ?_ | refine gdT_u ?_ | refine gd_u ?_ | refine gd_ft ?_ | refine gd_tf ?_ | refine gd_i ?_ | refine pk_t ?_ | refine pk_f ?_ | refine br_t ?_ | refine br_f ?_ | refine sp_boxa hs fun g w hs => ?_))
       | (with_reducible ((first | apply st_bin | apply st_ext | apply st_len | apply st_un | apply st_conv | apply st_mki | apply st_fld | apply st_cap | apply st_max | apply st_min | apply st_ixv | apply st_mkf); intro k' hk; simp [go_sem, thenR_ok, bin]; refine hk _ _ ?_; clear hk k'))
       | ((with_reducible (first | apply tk_bin | apply tk_ext | apply tk_len | apply tk_un)); (· intro w; simp [go_sem, bin]; rfl))
       | ((with_reducible apply sp_newr hs); (· kernel_rfl); intro g w hs))
      by_cases c5 : x.last.round = 0
      rotate_left
      · rw [show (x.last.round == 0) = false by simpa using c5]
        repeat (first
         | (with_reducible (first | refine st_lens ?_ | refine st_eqls ?_ | refine st_nels ?_ | refine tk_eqls ?_ | refine tk_nels ?_ | refine mv.mk ?_ | refine nk_p ?_ | refine gdT_i ?_ | refine gdT_ft ?_ | refine gdT_tf ?_ | refine gdT_u ?_ | refine gd_u ?_ | refine gd_ft ?_ | refine gd_tf ?_ | refine gd_i ?_ | refine pk_t ?_ | refine pk_f ?_ | refine br_t ?_ | refine br_f ?_ | refine sp_boxa hs fun g w hs => ?_))
         | (with_reducible ((first | apply st_bin | apply st_ext | apply st_len | apply st_un | apply st_conv | apply st_mki | apply st_fld | apply st_cap | apply st_max | apply st_min | apply st_ixv | apply st_mkf); intro k' hk; simp [go_sem, thenR_ok, bin]; refine hk _ _ ?_; clear hk k'))
         | ((with_reducible (first | apply tk_bin | apply tk_ext | apply tk_len | apply tk_un)); (· intro w; simp [go_sem, bin]; rfl))
         | ((with_reducible apply sp_newr hs); (· kernel_rfl); intro g w hs))
        exact ⟨by simp [okL, h1, c3, c4, c5], hs.sbl (.drop (.drop (.drop .all)))⟩
      rw [show (x.last.round == 0) = true by simpa using c5]
      repeat (first
       | (with_reducible refine blok.a0 ?_)
       | ((with_reducible apply blok.r0 hs); (· (with_reducible (repeat (first | exact .blk | exact .rng | apply Rng.tl)))); (· (with_reducible (first | assumption | exact z32 | exact u8s_len (by assumption)))))
       | (with_reducible refine blok.c0 ?_)
       | ((with_reducible apply blok.e0); (· first | exact hS | exact hid); (· (with_reducible (repeat (first | exact .blk | exact .rng | apply Rng.tl)))); (· (with_reducible (first | assumption | exact z32 | exact u8s_len (by assumption)))))
       | (with_reducible refine blok.a1 ?_)
       | ((with_reducible apply blok.r1 hs); (· (with_reducible (repeat (first | exact .blk | exact .rng | apply Rng.tl)))); (· (with_reducible (first | assumption | exact z32 | exact u8s_len (by assumption)))))
       | (with_reducible refine blok.c1 ?_)
       | ((with_reducible apply blok.e1); (· first | exact hS | exact hid); (· (with_reducible (repeat (first | exact .blk | exact .rng | apply Rng.tl)))); (· (with_reducible (first | assumption | exact z32 | exact u8s_len (by assumption)))))
       | (with_reducible refine blok.a2 ?_)
       | ((with_reducible apply blok.r2 hs); (· (with_reducible (repeat (first | exact .blk | exact .rng | apply Rng.tl)))); (repeat (· (with_reducible (first | assumption | exact z32 | exact u8s_len (by assumption))))))
       | (with_reducible refine blok.c2 ?_)
       | ((with_reducible apply blok.e2); (· first | exact hS | exact hid); (· (with_reducible (repeat (first | exact .blk | exact .rng | apply Rng.tl)))); (repeat (· (with_reducible (first | assumption | exact z32 | exact u8s_len (by assumption))))))
       | (with_reducible refine comm.a0 ?_)
       | ((with_reducible apply comm.r0 hs); (· (with_reducible (repeat (first | exact .blk | exact .rng | apply Rng.tl)))))
       | (with_reducible refine comm.c0 ?_)
       | ((with_reducible apply comm.e0); (· first | exact hS | exact hid); (· (with_reducible (repeat (first | exact .blk | exact .rng | apply Rng.tl)))))
       | (with_reducible refine comm.a1 ?_)
       | ((with_reducible apply comm.r1 hs); (· (with_reducible (repeat (first | exact .blk | exact .rng | apply Rng.tl)))))
       | (with_reducible refine comm.c1 ?_)
       | ((with_reducible apply comm.e1); (· first | exact hS | exact hid); (· (with_reducible (repeat (first | exact .blk | exact .rng | apply Rng.tl)))))
       | (with_reducible refine comm.a2 ?_)
       | ((with_reducible apply comm.r2 hs); (· (with_reducible (repeat (first | exact .blk | exact .rng | apply Rng.tl)))); (· (with_reducible (first | assumption | exact z32 | exact u8s_len (by assumption)))))
       | (with_reducible refine comm.c2 ?_)
       | ((with_reducible apply comm.e2); (· first | exact hS | exact hid); (· (with_reducible (repeat (first | exact .blk | exact .rng | apply Rng.tl)))); (· (with_reducible (first | assumption | exact z32 | exact u8s_len (by assumption)))))
       | (with_reducible refine comm.a3 ?_)
       | ((with_reducible apply comm.r3 hs); (· (with_reducible (repeat (first | exact .blk | exact .rng | apply Rng.tl)))); (· (with_reducible (first | assumption | exact z32 | exact u8s_len (by assumption)))))
       | (with_reducible refine comm.c3 ?_)
       | ((with_reducible apply comm.e3); (· first | exact hS | exact hid); (· (with_reducible (repeat (first | exact .blk | exact .rng | apply Rng.tl)))); (· (with_reducible (first | assumption | exact z32 | exact u8s_len (by assumption)))))
       | (with_reducible (first | refine st_lens ?_ | refine st_eqls ?_ | refine st_nels ?_ | refine tk_eqls ?_ | refine tk_nels ?_ | refine mv.mk ?_ | refine nk_p ?_ | refine gdT_i ?_ | refine gdT_ft ?_ | refine gdT_tf ?_ | refine gdT_u ?_ | refine gd_u ?_ | refine gd_ft ?_ | refine gd_tf ?_ | refine gd_i ?_ | refine pk_t ?_ | refine pk_f ?_ | refine br_t ?_ | refine br_f ?_ | refine sp_boxa hs fun g w hs => ?_))
       | (with_reducible ((first | apply st_bin | apply st_ext | apply st_len | apply st_un | apply st_conv | apply st_mki | apply st_fld | apply st_cap | apply st_max | apply st_min | apply st_ixv | apply st_mkf); intro k' hk; simp [go_sem, thenR_ok, bin]; refine hk _ _ ?_; clear hk k'))
       | ((with_reducible (first | apply tk_bin | apply tk_ext | apply tk_len | apply tk_un)); (· intro w; simp [go_sem, bin]; rfl))
       | ((with_reducible apply sp_newr hs); (· kernel_rfl); intro g w hs))
      refine sp_ldn hs (by repeat (first | with_reducible exact Rng.blk | with_reducible exact Rng.rng | with_reducible apply Rng.tl)) (by kernel_rfl) z32 ?_
      repeat (first
       | (with_reducible (first | refine st_lens ?_ | refine st_eqls ?_ | refine st_nels ?_ | refine tk_eqls ?_ | refine tk_nels ?_ | refine mv.mk ?_ | refine nk_p ?_ | refine gdT_i ?_ | refine gdT_ft ?_ | refine gdT_tf ?_ | refine gdT_u ?_ | refine gd_u ?_ | refine gd_ft ?_ | refine gd_tf ?_ | refine gd_i ?_ | refine pk_t ?_ | refine pk_f ?_ | refine br_t ?_ | refine br_f ?_ | refine sp_boxa hs fun g w hs => ?_))
       | (with_reducible ((first | apply st_bin | apply st_ext | apply st_len | apply st_un | apply st_conv | apply st_mki | apply st_fld | apply st_cap | apply st_max | apply st_min | apply st_ixv | apply st_mkf); intro k' hk; simp [go_sem, thenR_ok, bin]; refine hk _ _ ?_; clear hk k'))
       | ((with_reducible (first | apply tk_bin | apply tk_ext | apply tk_len | apply tk_un)); (· intro w; simp [go_sem, bin]; rfl))
       | ((with_reducible apply sp_newr hs); (· kernel_rfl); intro g w hs))
      refine st_of (hash_eq hc.block z _ _ _) ?_
      by_cases c6 : x.last.block = zero32
      rotate_left
      · rw [decide_eq_false c6]
        repeat (first
         | (with_reducible (first | refine st_lens ?_ | refine st_eqls ?_ | refine st_nels ?_ | refine tk_eqls ?_ | refine tk_nels ?_ | refine mv.mk ?_ | refine nk_p ?_ | refine gdT_i ?_ | refine gdT_ft ?_ | refine gdT_tf ?_ | refine gdT_u ?_ | refine gd_u ?_ | refine gd_ft ?_ | refine gd_tf ?_ | refine gd_i ?_ | refine pk_t ?_ | refine pk_f ?_ | refine br_t ?_ | refine br_f ?_ | refine sp_boxa hs fun g w hs => ?_))
         | (with_reducible ((first | apply st_bin | apply st_ext | apply st_len | apply st_un | apply st_conv | apply st_mki | apply st_fld | apply st_cap | apply st_max | apply st_min | apply st_ixv | apply st_mkf); intro k' hk; simp [go_sem, thenR_ok, bin]; refine hk _ _ ?_; clear hk k'))
         | ((with_reducible (first | apply tk_bin | apply tk_ext | apply tk_len | apply tk_un)); (· intro w; simp [go_sem, bin]; rfl))
         | ((with_reducible apply sp_newr hs); (· kernel_rfl); intro g w hs))
        exact ⟨by simp [okL, h1, c3, c4, c5, c6], hs.sbl (.drop (.drop (.drop .all)))⟩
      rw [decide_eq_true c6]
      repeat (first
       | (with_reducible refine blok.a0 ?_)
       | ((with_reducible apply blok.r0 hs); (· (with_reducible (repeat (first | exact .blk | exact .rng | apply Rng.tl)))); (· (with_reducible (first | assumption | exact z32 | exact u8s_len (by assumption)))))
       | (with_reducible refine blok.c0 ?_)
       | ((with_reducible apply blok.e0); (· first | exact hS | exact hid); (· (with_reducible (repeat (first | exact .blk | exact .rng | apply Rng.tl)))); (· (with_reducible (first | assumption | exact z32 | exact u8s_len (by assumption)))))
       | (with_reducible refine blok.a1 ?_)
       | ((with_reducible apply blok.r1 hs); (· (with_reducible (repeat (first | exact .blk | exact .rng | apply Rng.tl)))); (· (with_reducible (first | assumption | exact z32 | exact u8s_len (by assumption)))))
       | (with_reducible refine blok.c1 ?_)
       | ((with_reducible apply blok.e1); (· first | exact hS | exact hid); (· (with_reducible (repeat (first | exact .blk | exact .rng | apply Rng.tl)))); (· (with_reducible (first | assumption | exact z32 | exact u8s_len (by assumption)))))
       | (with_reducible refine blok.a2 ?_)
       | ((with_reducible apply blok.r2 hs); (· (with_reducible (repeat (first | exact .blk | exact .rng | apply Rng.tl)))); (repeat (· (with_reducible (first | assumption | exact z32 | exact u8s_len (by assumption))))))
       | (with_reducible refine blok.c2 ?_)
       | ((with_reducible apply blok.e2); (· first | exact hS | exact hid); (· (with_reducible (repeat (first | exact .blk | exact .rng | apply Rng.tl)))); (repeat (· (with_reducible (first | assumption | exact z32 | exact u8s_len (by assumption))))))
       | (with_reducible refine comm.a0 ?_)
       | ((with_reducible apply comm.r0 hs); (· (with_reducible (repeat (first | exact .blk | exact .rng | apply Rng.tl)))))
       | (with_reducible refine comm.c0 ?_)
       | ((with_reducible apply comm.e0); (· first | exact hS | exact hid); (· (with_reducible (repeat (first | exact .blk | exact .rng | apply Rng.tl)))))
       | (with_reducible refine comm.a1 ?_)
       | ((with_reducible apply comm.r1 hs); (· (with_reducible (repeat (first | exact .blk | exact .rng | apply Rng.tl)))))
       | (with_reducible refine comm.c1 ?_)
       | ((with_reducible apply comm.e1); (· first | exact hS | exact hid); (· (with_reducible (repeat (first | exact .blk | exact .rng | apply Rng.tl)))))
       | (with_reducible refine comm.a2 ?_)
       | ((with_reducible apply comm.r2 hs); (· (with_reducible (repeat (first | exact .blk | exact .rng | apply Rng.tl)))); (· (with_reducible (first | assumption | exact z32 | exact u8s_len (by assumption)))))
       | (with_reducible refine comm.c2 ?_)
       | ((with_reducible apply comm.e2); (· first | exact hS | exact hid); (· (with_reducible (repeat (first | exact .blk | exact .rng | apply Rng.tl)))); (· (with_reducible (first | assumption | exact z32 | exact u8s_len (by assumption)))))
       | (with_reducible refine comm.a3 ?_)
       | ((with_reducible apply comm.r3 hs); (· (with_reducible (repeat (first | exact .blk | exact .rng | apply Rng.tl)))); (· (with_reducible (first | assumption | exact z32 | exact u8s_len (by assumption)))))
       | (with_reducible refine comm.c3 ?_)
       | ((with_reducible apply comm.e3); (· first | exact hS | exact hid); (· (with_reducible (repeat (first | exact .blk | exact .rng | apply Rng.tl)))); (· (with_reducible (first | assumption | exact z32 | exact u8s_len (by assumption)))))
       | (with_reducible (first | refine st_lens ?_ | refine st_eqls ?_ | refine st_nels ?_ | refine tk_eqls ?_ | refine tk_nels ?_ | refine mv.mk ?_ | refine nk_p ?_ | refine gdT_i ?_ | refine gdT_ft ?_ | refine gdT_tf ?_ | refine gdT_u ?_ | refine gd_u ?_ | refine gd_ft ?_ | refine gd_tf ?_ | refine gd_i ?_ | refine pk_t ?_ | refine pk_f ?_ | refine br_t ?_ | refine br_f ?_ | refine sp_boxa hs fun g w hs => ?_))
       | (with_reducible ((first | apply st_bin | apply st_ext | apply st_len | apply st_un | apply st_conv | apply st_mki | apply st_fld | apply st_cap | apply st_max | apply st_min | apply st_ixv | apply st_mkf); intro k' hk; simp [go_sem, thenR_ok, bin]; refine hk _ _ ?_; clear hk k'))
       | ((with_reducible (first | apply tk_bin | apply tk_ext | apply tk_len | apply tk_un)); (· intro w; simp [go_sem, bin]; rfl))
       | ((with_reducible apply sp_newr hs); (· kernel_rfl); intro g w hs))
      refine ⟨?_, hs.sbl (.drop (.drop (.drop .all)))⟩
      simp [okL, h1, c3, c4, c5, c6]
      rw [Bool.eq_iff_iff]
      simp
      try omega
    · rw [show (x.header.height == 1) = false by simpa using h1]
      refine br_f ?_
      cases bb with
      | false =>
        repeat (first
         | (with_reducible (first | refine st_lens ?_ | refine st_eqls ?_ | refine st_nels ?_ | refine tk_eqls ?_ | refine tk_nels ?_ | refine mv.mk ?_ | refine nk_p ?_ | refine gdT_i ?_ | refine gdT_ft ?_ | refine gdT_tf ?_ | refine gdT_u ?_ | refine gd_u ?_ | refine gd_ft ?_ | refine gd_tf ?_ | refine gd_i ?_ | refine pk_t ?_ | refine pk_f ?_ | refine br_t ?_ | refine br_f ?_ | refine sp_boxa hs fun g w hs => ?_))
         | (with_reducible ((first | apply st_bin | apply st_ext | apply st_len | apply st_un | apply st_conv | apply st_mki | apply st_fld | apply st_cap | apply st_max | apply st_min | apply st_ixv | apply st_mkf); intro k' hk; simp [go_sem, thenR_ok, bin]; refine hk _ _ ?_; clear hk k'))
         | ((with_reducible (first | apply tk_bin | apply tk_ext | apply tk_len | apply tk_un)); (· intro w; simp [go_sem, bin]; rfl))
         | ((with_reducible apply sp_newr hs); (· kernel_rfl); intro g w hs))
        exact ⟨rfl, hs.sbl (.drop (.drop (.drop .all)))⟩
      | true =>
      have hge := hbd rfl
      repeat (first
       | (with_reducible refine head.a0 ?_)
       | ((with_reducible apply head.r0 hs); (· (with_reducible (repeat (first | exact .blk | exact .rng | apply Rng.tl)))))
       | (with_reducible refine head.c0 ?_)
       | ((with_reducible apply head.e0); (· first | exact hS | exact hid); (· (with_reducible (repeat (first | exact .blk | exact .rng | apply Rng.tl)))))
       | (with_reducible refine head.a1 ?_)
       | ((with_reducible apply head.r1 hs); (· (with_reducible (repeat (first | exact .blk | exact .rng | apply Rng.tl)))))
       | (with_reducible refine head.c1 ?_)
       | ((with_reducible apply head.e1); (· first | exact hS | exact hid); (· (with_reducible (repeat (first | exact .blk | exact .rng | apply Rng.tl)))))
       | (with_reducible refine head.a2 ?_)
       | ((with_reducible apply head.r2 hs); (· (with_reducible (repeat (first | exact .blk | exact .rng | apply Rng.tl)))))
       | (with_reducible refine head.c2 ?_)
       | ((with_reducible apply head.e2); (· first | exact hS | exact hid); (· (with_reducible (repeat (first | exact .blk | exact .rng | apply Rng.tl)))))
       | (with_reducible refine head.a3 ?_)
       | ((with_reducible apply head.r3 hs); (· (with_reducible (repeat (first | exact .blk | exact .rng | apply Rng.tl)))); (· (with_reducible (first | assumption | exact z32 | exact u8s_len (by assumption)))))
       | (with_reducible refine head.c3 ?_)
       | ((with_reducible apply head.e3); (· first | exact hS | exact hid); (· (with_reducible (repeat (first | exact .blk | exact .rng | apply Rng.tl)))); (· (with_reducible (first | assumption | exact z32 | exact u8s_len (by assumption)))))
       | (with_reducible refine head.a4 ?_)
       | ((with_reducible apply head.r4 hs); (· (with_reducible (repeat (first | exact .blk | exact .rng | apply Rng.tl)))); (repeat (· (with_reducible (first | assumption | exact z32 | exact u8s_len (by assumption))))))
       | (with_reducible refine head.c4 ?_)
       | ((with_reducible apply head.e4); (· first | exact hS | exact hid); (· (with_reducible (repeat (first | exact .blk | exact .rng | apply Rng.tl)))); (repeat (· (with_reducible (first | assumption | exact z32 | exact u8s_len (by assumption))))))
       | (with_reducible refine head.a5 ?_)
       | ((with_reducible apply head.r5 hs); (· (with_reducible (repeat (first | exact .blk | exact .rng | apply Rng.tl)))); (repeat (· (with_reducible (first | assumption | exact z32 | exact u8s_len (by assumption))))))
       | (with_reducible refine head.c5 ?_)
       | ((with_reducible apply head.e5); (· first | exact hS | exact hid); (· (with_reducible (repeat (first | exact .blk | exact .rng | apply Rng.tl)))); (repeat (· (with_reducible (first | assumption | exact z32 | exact u8s_len (by assumption))))))
       | (with_reducible refine head.a6 ?_)
       | ((with_reducible apply head.r6 hs); (· (with_reducible (repeat (first | exact .blk | exact .rng | apply Rng.tl)))); (repeat (· (with_reducible (first | assumption | exact z32 | exact u8s_len (by assumption))))))
       | (with_reducible refine head.c6 ?_)
       | ((with_reducible apply head.e6); (· first | exact hS | exact hid); (· (with_reducible (repeat (first | exact .blk | exact .rng | apply Rng.tl)))); (repeat (· (with_reducible (first | assumption | exact z32 | exact u8s_len (by assumption))))))
       | (with_reducible refine head.a7 ?_)
       | ((with_reducible apply head.r7 hs); (· (with_reducible (repeat (first | exact .blk | exact .rng | apply Rng.tl)))); (repeat (· (with_reducible (first | assumption | exact z32 | exact u8s_len (by assumption))))))
       | (with_reducible refine head.c7 ?_)
       | ((with_reducible apply head.e7); (· first | exact hS | exact hid); (· (with_reducible (repeat (first | exact .blk | exact .rng | apply Rng.tl)))); (repeat (· (with_reducible (first | assumption | exact z32 | exact u8s_len (by assumption))))))
       | (with_reducible refine head.a8 ?_)
       | ((with_reducible apply head.r8 hs); (· (with_reducible (repeat (first | exact .blk | exact .rng | apply Rng.tl)))); (repeat (· (with_reducible (first | assumption | exact z32 | exact u8s_len (by assumption))))))
       | (with_reducible refine head.c8 ?_)
       | ((with_reducible apply head.e8); (· first | exact hS | exact hid); (· (with_reducible (repeat (first | exact .blk | exact .rng | apply Rng.tl)))); (repeat (· (with_reducible (first | assumption | exact z32 | exact u8s_len (by assumption))))))
       | (with_reducible (first | refine st_lens ?_ | refine st_eqls ?_ | refine st_nels ?_ | refine tk_eqls ?_ | refine tk_nels ?_ | refine mv.mk ?_ | refine nk_p ?_ | refine gdT_i ?_ | refine gdT_ft ?_ | refine gdT_tf ?_ | refine gdT_u ?_ | refine gd_u ?_ | refine gd_ft ?_ | refine gd_tf ?_ | refine gd_i ?_ | refine pk_t ?_ | refine pk_f ?_ | refine br_t ?_ | refine br_f ?_ | refine sp_boxa hs fun g w hs => ?_))
       | (with_reducible ((first | apply st_bin | apply st_ext | apply st_len | apply st_un | apply st_conv | apply st_mki | apply st_fld | apply st_cap | apply st_max | apply st_min | apply st_ixv | apply st_mkf); intro k' hk; simp [go_sem, thenR_ok, bin]; refine hk _ _ ?_; clear hk k'))
       | ((with_reducible (first | apply tk_bin | apply tk_ext | apply tk_len | apply tk_un)); (· intro w; simp [go_sem, bin]; rfl))
       | ((with_reducible apply sp_newr hs); (· kernel_rfl); intro g w hs))
      refine sp_ldn hs (by repeat (first | with_reducible exact Rng.blk | with_reducible exact Rng.rng | with_reducible apply Rng.tl)) (by kernel_rfl) z32 ?_
      repeat (first
       | (with_reducible (first | refine st_lens ?_ | refine st_eqls ?_ | refine st_nels ?_ | refine tk_eqls ?_ | refine tk_nels ?_ | refine mv.mk ?_ | refine nk_p ?_ | refine gdT_i ?_ | refine gdT_ft ?_ | refine gdT_tf ?_ | refine gdT_u ?_ | refine gd_u ?_ | refine gd_ft ?_ | refine gd_tf ?_ | refine gd_i ?_ | refine pk_t ?_ | refine pk_f ?_ | refine br_t ?_ | refine br_f ?_ | refine sp_boxa hs fun g w hs => ?_))
       | (with_reducible ((first | apply st_bin | apply st_ext | apply st_len | apply st_un | apply st_conv | apply st_mki | apply st_fld | apply st_cap | apply st_max | apply st_min | apply st_ixv | apply st_mkf); intro k' hk; simp [go_sem, thenR_ok, bin]; refine hk _ _ ?_; clear hk k'))
       | ((with_reducible (first | apply tk_bin | apply tk_ext | apply tk_len | apply tk_un)); (· intro w; simp [go_sem, bin]; rfl))
       | ((with_reducible apply sp_newr hs); (· kernel_rfl); intro g w hs))
      refine st_of (hash_ne hh.last z _ _ _) ?_
      by_cases c3 : ¬ x.header.last = zero32
      rotate_left
      · rw [show (!decide (x.header.last = zero32)) = false by simpa using c3]
        repeat (first
         | (with_reducible (first | refine st_lens ?_ | refine st_eqls ?_ | refine st_nels ?_ | refine tk_eqls ?_ | refine tk_nels ?_ | refine mv.mk ?_ | refine nk_p ?_ | refine gdT_i ?_ | refine gdT_ft ?_ | refine gdT_tf ?_ | refine gdT_u ?_ | refine gd_u ?_ | refine gd_ft ?_ | refine gd_tf ?_ | refine gd_i ?_ | refine pk_t ?_ | refine pk_f ?_ | refine br_t ?_ | refine br_f ?_ | refine sp_boxa hs fun g w hs => ?_))
         | (with_reducible ((first | apply st_bin | apply st_ext | apply st_len | apply st_un | apply st_conv | apply st_mki | apply st_fld | apply st_cap | apply st_max | apply st_min | apply st_ixv | apply st_mkf); intro k' hk; simp [go_sem, thenR_ok, bin]; refine hk _ _ ?_; clear hk k'))
         | ((with_reducible (first | apply tk_bin | apply tk_ext | apply tk_len | apply tk_un)); (· intro w; simp [go_sem, bin]; rfl))
         | ((with_reducible apply sp_newr hs); (· kernel_rfl); intro g w hs))
        exact ⟨by simp [okL, h1, c3], hs.sbl (.drop (.drop (.drop .all)))⟩
      rw [show (!decide (x.header.last = zero32)) = true by simpa using c3]
      repeat (first
       | (with_reducible refine blok.a0 ?_)
       | ((with_reducible apply blok.r0 hs); (· (with_reducible (repeat (first | exact .blk | exact .rng | apply Rng.tl)))); (· (with_reducible (first | assumption | exact z32 | exact u8s_len (by assumption)))))
       | (with_reducible refine blok.c0 ?_)
       | ((with_reducible apply blok.e0); (· first | exact hS | exact hid); (· (with_reducible (repeat (first | exact .blk | exact .rng | apply Rng.tl)))); (· (with_reducible (first | assumption | exact z32 | exact u8s_len (by assumption)))))
       | (with_reducible refine blok.a1 ?_)
       | ((with_reducible apply blok.r1 hs); (· (with_reducible (repeat (first | exact .blk | exact .rng | apply Rng.tl)))); (· (with_reducible (first | assumption | exact z32 | exact u8s_len (by assumption)))))
       | (with_reducible refine blok.c1 ?_)
       | ((with_reducible apply blok.e1); (· first | exact hS | exact hid); (· (with_reducible (repeat (first | exact .blk | exact .rng | apply Rng.tl)))); (· (with_reducible (first | assumption | exact z32 | exact u8s_len (by assumption)))))
       | (with_reducible refine blok.a2 ?_)
       | ((with_reducible apply blok.r2 hs); (· (with_reducible (repeat (first | exact .blk | exact .rng | apply Rng.tl)))); (repeat (· (with_reducible (first | assumption | exact z32 | exact u8s_len (by assumption))))))
       | (with_reducible refine blok.c2 ?_)
       | ((with_reducible apply blok.e2); (· first | exact hS | exact hid); (· (with_reducible (repeat (first | exact .blk | exact .rng | apply Rng.tl)))); (repeat (· (with_reducible (first | assumption | exact z32 | exact u8s_len (by assumption))))))
       | (with_reducible refine comm.a0 ?_)
       | ((with_reducible apply comm.r0 hs); (· (with_reducible (repeat (first | exact .blk | exact .rng | apply Rng.tl)))))
       | (with_reducible refine comm.c0 ?_)
       | ((with_reducible apply comm.e0); (· first | exact hS | exact hid); (· (with_reducible (repeat (first | exact .blk | exact .rng | apply Rng.tl)))))
       | (with_reducible refine comm.a1 ?_)
       | ((with_reducible apply comm.r1 hs); (· (with_reducible (repeat (first | exact .blk | exact .rng | apply Rng.tl)))))
       | (with_reducible refine comm.c1 ?_)
       | ((with_reducible apply comm.e1); (· first | exact hS | exact hid); (· (with_reducible (repeat (first | exact .blk | exact .rng | apply Rng.tl)))))
       | (with_reducible refine comm.a2 ?_)
       | ((with_reducible apply comm.r2 hs); (· (with_reducible (repeat (first | exact .blk | exact .rng | apply Rng.tl)))); (· (with_reducible (first | assumption | exact z32 | exact u8s_len (by assumption)))))
       | (with_reducible refine comm.c2 ?_)
       | ((with_reducible apply comm.e2); (· first | exact hS | exact hid); (· (with_reducible (repeat (first | exact .blk | exact .rng | apply Rng.tl)))); (· (with_reducible (first | assumption | exact z32 | exact u8s_len (by assumption)))))
       | (with_reducible refine comm.a3 ?_)
       | ((with_reducible apply comm.r3 hs); (· (with_reducible (repeat (first | exact .blk | exact .rng | apply Rng.tl)))); (· (with_reducible (first | assumption | exact z32 | exact u8s_len (by assumption)))))
       | (with_reducible refine comm.c3 ?_)
       | ((with_reducible apply comm.e3); (· first | exact hS | exact hid); (· (with_reducible (repeat (first | exact .blk | exact .rng | apply Rng.tl)))); (· (with_reducible (first | assumption | exact z32 | exact u8s_len (by assumption)))))
       | (with_reducible refine head.a0 ?_)
       | ((with_reducible apply head.r0 hs); (· (with_reducible (repeat (first | exact .blk | exact .rng | apply Rng.tl)))))
       | (with_reducible refine head.c0 ?_)
       | ((with_reducible apply head.e0); (· first | exact hS | exact hid); (· (with_reducible (repeat (first | exact .blk | exact .rng | apply Rng.tl)))))
       | (with_reducible refine head.a1 ?_)
       | ((with_reducible apply head.r1 hs); (· (with_reducible (repeat (first | exact .blk | exact .rng | apply Rng.tl)))))
       | (with_reducible refine head.c1 ?_)
       | ((with_reducible apply head.e1); (· first | exact hS | exact hid); (· (with_reducible (repeat (first | exact .blk | exact .rng | apply Rng.tl)))))
       | (with_reducible refine head.a2 ?_)
       | ((with_reducible apply head.r2 hs); (· (with_reducible (repeat (first | exact .blk | exact .rng | apply Rng.tl)))))
       | (with_reducible refine head.c2 ?_)
       | ((with_reducible apply head.e2); (· first | exact hS | exact hid); (· (with_reducible (repeat (first | exact .blk | exact .rng | apply Rng.tl)))))
       | (with_reducible refine head.a3 ?_)
       | ((with_reducible apply head.r3 hs); (· (with_reducible (repeat (first | exact .blk | exact .rng | apply Rng.tl)))); (· (with_reducible (first | assumption | exact z32 | exact u8s_len (by assumption)))))
       | (with_reducible refine head.c3 ?_)
       | ((with_reducible apply head.e3); (· first | exact hS | exact hid); (· (with_reducible (repeat (first | exact .blk | exact .rng | apply Rng.tl)))); (· (with_reducible (first | assumption | exact z32 | exact u8s_len (by assumption)))))
       | (with_reducible refine head.a4 ?_)
       | ((with_reducible apply head.r4 hs); (· (with_reducible (repeat (first | exact .blk | exact .rng | apply Rng.tl)))); (repeat (· (with_reducible (first | assumption | exact z32 | exact u8s_len (by assumption))))))
       | (with_reducible refine head.c4 ?_)
       | ((with_reducible apply head.e4); (· first | exact hS | exact hid); (· (with_reducible (repeat (first | exact .blk | exact .rng | apply Rng.tl)))); (repeat (· (with_reducible (first | assumption | exact z32 | exact u8s_len (by assumption))))))
       | (with_reducible refine head.a5 ?_)
       | ((with_reducible apply head.r5 hs); (· (with_reducible (repeat (first | exact .blk | exact .rng | apply Rng.tl)))); (repeat (· (with_reducible (first | assumption | exact z32 | exact u8s_len (by assumption))))))
       | (with_reducible refine head.c5 ?_)
       | ((with_reducible apply head.e5); (· first | exact hS | exact hid); (· (with_reducible (repeat (first | exact .blk | exact .rng | apply Rng.tl)))); (repeat (· (with_reducible (first | assumption | exact z32 | exact u8s_len (by assumption))))))
       | (with_reducible refine head.a6 ?_)
       | ((with_reducible apply head.r6 hs); (· (with_reducible (repeat (first | exact .blk | exact .rng | apply Rng.tl)))); (repeat (· (with_reducible (first | assumption | exact z32 | exact u8s_len (by assumption))))))
       | (with_reducible refine head.c6 ?_)
       | ((with_reducible apply head.e6); (· first | exact hS | exact hid); (· (with_reducible (repeat (first | exact .blk | exact .rng | apply Rng.tl)))); (repeat (· (with_reducible (first | assumption | exact z32 | exact u8s_len (by assumption))))))
       | (with_reducible refine head.a7 ?_)
       | ((with_reducible apply head.r7 hs); (· (with_reducible (repeat (first | exact .blk | exact .rng | apply Rng.tl)))); (repeat (· (with_reducible (first | assumption | exact z32 | exact u8s_len (by assumption))))))
       | (with_reducible refine head.c7 ?_)
       | ((with_reducible apply head.e7); (· first | exact hS | exact hid); (· (with_reducible (repeat (first | exact .blk | exact .rng | apply Rng.tl)))); (repeat (· (with_reducible (first | assumption | exact z32 | exact u8s_len (by assumption))))))
       | (with_reducible refine head.a8 ?_)
       | ((with_reducible apply head.r8 hs); (· (with_reducible (repeat (first | exact .blk | exact .rng | apply Rng.tl)))); (repeat (· (with_reducible (first | assumption | exact z32 | exact u8s_len (by assumption))))))
       | (with_reducible refine head.c8 ?_)
       | ((with_reducible apply head.e8); (· first | exact hS | exact hid); (· (with_reducible (repeat (first | exact .blk | exact .rng | apply Rng.tl)))); (repeat (· (with_reducible (first | assumption | exact z32 | exact u8s_len (by assumption))))))
       | (with_reducible (first | refine st_lens ?_ | refine st_eqls ?_ | refine st_nels ?_ | refine tk_eqls ?_ | refine tk_nels ?_ | refine mv.mk ?_ | refine nk_p ?_ | refine gdT_i ?_ | refine gdT_ft ?_ | refine gdT_tf ?_ | refine gdT_u ?_ | refine gd_u ?_ | refine gd_ft ?_ | refine gd_tf ?_ | refine gd_i ?_ | refine pk_t ?_ | refine pk_f ?_ | refine br_t ?_ | refine br_f ?_ | refine sp_boxa hs fun g w hs => ?_))
       | (with_reducible ((first | apply st_bin | apply st_ext | apply st_len | apply st_un | apply st_conv | apply st_mki | apply st_fld | apply st_cap | apply st_max | apply st_min | apply st_ixv | apply st_mkf); intro k' hk; simp [go_sem, thenR_ok, bin]; refine hk _ _ ?_; clear hk k'))
       | ((with_reducible (first | apply tk_bin | apply tk_ext | apply tk_len | apply tk_un)); (· intro w; simp [go_sem, bin]; rfl))
       | ((with_reducible apply sp_newr hs); (· kernel_rfl); intro g w hs))
      rw [i64_wrap (n := x.header.height - 1) (by omega) (by have := hh.height.2; omega)]
      by_cases c4 : x.last.height = x.header.height - 1
      rotate_left
      · rw [show (x.last.height == x.header.height - 1) = false by simpa using c4]
        repeat (first
         | (with_reducible (first | refine st_lens ?_ | refine st_eqls ?_ | refine st_nels ?_ | refine tk_eqls ?_ | refine tk_nels ?_ | refine mv.mk ?_ | refine nk_p ?_ | refine gdT_i ?_ | refine gdT_ft ?_ | refine gdT_tf ?_ | refine gdT_u ?_ | refine gd_u ?_ | refine gd_ft ?_ | refine gd_tf ?_ | refine gd_i ?_ | refine pk_t ?_ | refine pk_f ?_ | refine br_t ?_ | refine br_f ?_ | refine sp_boxa hs fun g w hs => ?_))
         | (with_reducible ((first | apply st_bin | apply st_ext | apply st_len | apply st_un | apply st_conv | apply st_mki | apply st_fld | apply st_cap | apply st_max | apply st_min | apply st_ixv | apply st_mkf); intro k' hk; simp [go_sem, thenR_ok, bin]; refine hk _ _ ?_; clear hk k'))
         | ((with_reducible (first | apply tk_bin | apply tk_ext | apply tk_len | apply tk_un)); (· intro w; simp [go_sem, bin]; rfl))
         | ((with_reducible apply sp_newr hs); (· kernel_rfl); intro g w hs))
        exact ⟨by simp [okL, h1, c3, c4], hs.sbl (.drop (.drop (.drop .all)))⟩
      rw [show (x.last.height == x.header.height - 1) = true by simpa using c4]
      repeat (first
       | (with_reducible refine blok.a0 ?_)
       | ((with_reducible apply blok.r0 hs); (· (with_reducible (repeat (first | exact .blk | exact .rng | apply Rng.tl)))); (· (with_reducible (first | assumption | exact z32 | exact u8s_len (by assumption)))))
       | (with_reducible refine blok.c0 ?_)
       | ((with_reducible apply blok.e0); (· first | exact hS | exact hid); (· (with_reducible (repeat (first | exact .blk | exact .rng | apply Rng.tl)))); (· (with_reducible (first | assumption | exact z32 | exact u8s_len (by assumption)))))
       | (with_reducible refine blok.a1 ?_)
       | ((with_reducible apply blok.r1 hs); (· (with_reducible (repeat (first | exact .blk | exact .rng | apply Rng.tl)))); (· (with_reducible (first | assumption | exact z32 | exact u8s_len (by assumption)))))
       | (with_reducible refine blok.c1 ?_)
       | ((with_reducible apply blok.e1); (· first | exact hS | exact hid); (· (with_reducible (repeat (first | exact .blk | exact .rng | apply Rng.tl)))); (· (with_reducible (first | assumption | exact z32 | exact u8s_len (by assumption)))))
       | (with_reducible refine blok.a2 ?_)
       | ((with_reducible apply blok.r2 hs); (· (with_reducible (repeat (first | exact .blk | exact .rng | apply Rng.tl)))); (repeat (· (with_reducible (first | assumption | exact z32 | exact u8s_len (by assumption))))))
       | (with_reducible refine blok.c2 ?_)
       | ((with_reducible apply blok.e2); (· first | exact hS | exact hid); (· (with_reducible (repeat (first | exact .blk | exact .rng | apply Rng.tl)))); (repeat (· (with_reducible (first | assumption | exact z32 | exact u8s_len (by assumption))))))
       | (with_reducible refine comm.a0 ?_)
       | ((with_reducible apply comm.r0 hs); (· (with_reducible (repeat (first | exact .blk | exact .rng | apply Rng.tl)))))
       | (with_reducible refine comm.c0 ?_)
       | ((with_reducible apply comm.e0); (· first | exact hS | exact hid); (· (with_reducible (repeat (first | exact .blk | exact .rng | apply Rng.tl)))))
       | (with_reducible refine comm.a1 ?_)
       | ((with_reducible apply comm.r1 hs); (· (with_reducible (repeat (first | exact .blk | exact .rng | apply Rng.tl)))))
       | (with_reducible refine comm.c1 ?_)
       | ((with_reducible apply comm.e1); (· first | exact hS | exact hid); (· (with_reducible (repeat (first | exact .blk | exact .rng | apply Rng.tl)))))
       | (with_reducible refine comm.a2 ?_)
       | ((with_reducible apply comm.r2 hs); (· (with_reducible (repeat (first | exact .blk | exact .rng | apply Rng.tl)))); (· (with_reducible (first | assumption | exact z32 | exact u8s_len (by assumption)))))
       | (with_reducible refine comm.c2 ?_)
       | ((with_reducible apply comm.e2); (· first | exact hS | exact hid); (· (with_reducible (repeat (first | exact .blk | exact .rng | apply Rng.tl)))); (· (with_reducible (first | assumption | exact z32 | exact u8s_len (by assumption)))))
       | (with_reducible refine comm.a3 ?_)
       | ((with_reducible apply comm.r3 hs); (· (with_reducible (repeat (first | exact .blk | exact .rng | apply Rng.tl)))); (· (with_reducible (first | assumption | exact z32 | exact u8s_len (by assumption)))))
       | (with_reducible refine comm.c3 ?_)
       | ((with_reducible apply comm.e3); (· first | exact hS | exact hid); (· (with_reducible (repeat (first | exact .blk | exact .rng | apply Rng.tl)))); (· (with_reducible (first | assumption | exact z32 | exact u8s_len (by assumption)))))
       | (with_reducible refine head.a0 ?_)
       | ((with_reducible apply head.r0 hs); (· (with_reducible (repeat (first | exact .blk | exact .rng | apply Rng.tl)))))
       | (with_reducible refine head.c0 ?_)
       | ((with_reducible apply head.e0); (· first | exact hS | exact hid); (· (with_reducible (repeat (first | exact .blk | exact .rng | apply Rng.tl)))))
       | (with_reducible refine head.a1 ?_)
       | ((with_reducible apply head.r1 hs); (· (with_reducible (repeat (first | exact .blk | exact .rng | apply Rng.tl)))))
       | (with_reducible refine head.c1 ?_)
       | ((with_reducible apply head.e1); (· first | exact hS | exact hid); (· (with_reducible (repeat (first | exact .blk | exact .rng | apply Rng.tl)))))
       | (with_reducible refine head.a2 ?_)
       | ((with_reducible apply head.r2 hs); (· (with_reducible (repeat (first | exact .blk | exact .rng | apply Rng.tl)))))
       | (with_reducible refine head.c2 ?_)
       | ((with_reducible apply head.e2); (· first | exact hS | exact hid); (· (with_reducible (repeat (first | exact .blk | exact .rng | apply Rng.tl)))))
       | (with_reducible refine head.a3 ?_)
       | ((with_reducible apply head.r3 hs); (· (with_reducible (repeat (first | exact .blk | exact .rng | apply Rng.tl)))); (· (with_reducible (first | assumption | exact z32 | exact u8s_len (by assumption)))))
       | (with_reducible refine head.c3 ?_)
       | ((with_reducible apply head.e3); (· first | exact hS | exact hid); (· (with_reducible (repeat (first | exact .blk | exact .rng | apply Rng.tl)))); (· (with_reducible (first | assumption | exact z32 | exact u8s_len (by assumption)))))
       | (with_reducible refine head.a4 ?_)
       | ((with_reducible apply head.r4 hs); (· (with_reducible (repeat (first | exact .blk | exact .rng | apply Rng.tl)))); (repeat (· (with_reducible (first | assumption | exact z32 | exact u8s_len (by assumption))))))
       | (with_reducible refine head.c4 ?_)
       | ((with_reducible apply head.e4); (· first | exact hS | exact hid); (· (with_reducible (repeat (first | exact .blk | exact .rng | apply Rng.tl)))); (repeat (· (with_reducible (first | assumption | exact z32 | exact u8s_len (by assumption))))))
       | (with_reducible refine head.a5 ?_)
       | ((with_reducible apply head.r5 hs); (· (with_reducible (repeat (first | exact .blk | exact .rng | apply Rng.tl)))); (repeat (· (with_reducible (first | assumption | exact z32 | exact u8s_len (by assumption))))))
       | (with_reducible refine head.c5 ?_)
       | ((with_reducible apply head.e5); (· first | exact hS | exact hid); (· (with_reducible (repeat (first | exact .blk | exact .rng | apply Rng.tl)))); (repeat (· (with_reducible (first | assumption | exact z32 | exact u8s_len (by assumption))))))
       | (with_reducible refine head.a6 ?_)
       | ((with_reducible apply head.r6 hs); (· (with_reducible (repeat (first | exact .blk | exact .rng | apply Rng.tl)))); (repeat (· (with_reducible (first | assumption | exact z32 | exact u8s_len (by assumption))))))
       | (with_reducible refine head.c6 ?_)
       | ((with_reducible apply head.e6); (· first | exact hS | exact hid); (· (with_reducible (repeat (first | exact .blk | exact .rng | apply Rng.tl)))); (repeat (· (with_reducible (first | assumption | exact z32 | exact u8s_len (by assumption))))))
       | (with_reducible refine head.a7 ?_)
       | ((with_reducible apply head.r7 hs); (· (with_reducible (repeat (first | exact .blk | exact .rng | apply Rng.tl)))); (repeat (· (with_reducible (first | assumption | exact z32 | exact u8s_len (by assumption))))))
       | (with_reducible refine head.c7 ?_)
       | ((with_reducible apply head.e7); (· first | exact hS | exact hid); (· (with_reducible (repeat (first | exact .blk | exact .rng | apply Rng.tl)))); (repeat (· (with_reducible (first | assumption | exact z32 | exact u8s_len (by assumption))))))
       | (with_reducible refine head.a8 ?_)
       | ((with_reducible apply head.r8 hs); (· (with_reducible (repeat (first | exact .blk | exact .rng | apply Rng.tl)))); (repeat (· (with_reducible (first | assumption | exact z32 | exact u8s_len (by assumption))))))
       | (with_reducible refine head.c8 ?_)
       | ((with_reducible apply head.e8); (· first | exact hS | exact hid); (· (with_reducible (repeat (first | exact .blk | exact .rng | apply Rng.tl)))); (repeat (· (with_reducible (first | assumption | exact z32 | exact u8s_len (by assumption))))))
       | (with_reducible (first | refine st_lens ?_ | refine st_eqls ?_ | refine st_nels ?_ | refine tk_eqls ?_ | refine tk_nels ?_ | refine mv.mk ?_ | refine nk_p ?_ | refine gdT_i ?_ | refine gdT_ft ?_ | refine gdT_tf ?_ | refine gdT_u ?_ | refine gd_u ?_ | refine gd_ft ?_ | refine gd_tf ?_ | refine gd_i ?_ | refine pk_t ?_ | refine pk_f ?_ | refine br_t ?_ | refine br_f ?_ | refine sp_boxa hs fun g w hs => ?_))
       | (with_reducible ((first | apply st_bin | apply st_ext | apply st_len | apply st_un | apply st_conv | apply st_mki | apply st_fld | apply st_cap | apply st_max | apply st_min | apply st_ixv | apply st_mkf); intro k' hk; simp [go_sem, thenR_ok, bin]; refine hk _ _ ?_; clear hk k'))
       | ((with_reducible (first | apply tk_bin | apply tk_ext | apply tk_len | apply tk_un)); (· intro w; simp [go_sem, bin]; rfl))
       | ((with_reducible apply sp_newr hs); (· kernel_rfl); intro g w hs))
      refine st_of (hash_eq hc.block hh.last _ _ _) ?_
      repeat (first
       | (with_reducible (first | refine st_lens ?_ | refine st_eqls ?_ | refine st_nels ?_ | refine tk_eqls ?_ | refine tk_nels ?_ | refine mv.mk ?_ | refine nk_p ?_ | refine gdT_i ?_ | refine gdT_ft ?_ | refine gdT_tf ?_ | refine gdT_u ?_ | refine gd_u ?_ | refine gd_ft ?_ | refine gd_tf ?_ | refine gd_i ?_ | refine pk_t ?_ | refine pk_f ?_ | refine br_t ?_ | refine br_f ?_ | refine sp_boxa hs fun g w hs => ?_))
       | (with_reducible ((first | apply st_bin | apply st_ext | apply st_len | apply st_un | apply st_conv | apply st_mki | apply st_fld | apply st_cap | apply st_max | apply st_min | apply st_ixv | apply st_mkf); intro k' hk; simp [go_sem, thenR_ok, bin]; refine hk _ _ ?_; clear hk k'))
       | ((with_reducible (first | apply tk_bin | apply tk_ext | apply tk_len | apply tk_un)); (· intro w; simp [go_sem, bin]; rfl))
       | ((with_reducible apply sp_newr hs); (· kernel_rfl); intro g w hs))
      refine ⟨?_, hs.sbl (.drop (.drop (.drop .all)))⟩
      simp [okL, h1, c3, c4]
  clear hs
  rintro x1 w ⟨hx, hs⟩
  simp only [List.cons.injEq, and_true] at hx
  simp only [hx]
  cases hr : (bb && okL x) with
  | true =>
    rw [hr] at hK
    repeat (first
     | (with_reducible (first | refine st_lens ?_ | refine st_eqls ?_ | refine st_nels ?_ | refine tk_eqls ?_ | refine tk_nels ?_ | refine mv.mk ?_ | refine nk_p ?_ | refine gdT_i ?_ | refine gdT_ft ?_ | refine gdT_tf ?_ | refine gdT_u ?_ | refine gd_u ?_ | refine gd_ft ?_ | refine gd_tf ?_ | refine gd_i ?_ | refine pk_t ?_ | refine pk_f ?_ | refine br_t ?_ | refine br_f ?_ | refine sp_boxa hs fun g w hs => ?_))
     | (with_reducible ((first | apply st_bin | apply st_ext | apply st_len | apply st_un | apply st_conv | apply st_mki | apply st_fld | apply st_cap | apply st_max | apply st_min | apply st_ixv | apply st_mkf); intro k' hk; simp [go_sem, thenR_ok, bin]; refine hk _ _ ?_; clear hk k'))
     | ((with_reducible (first | apply tk_bin | apply tk_ext | apply tk_len | apply tk_un)); (· intro w; simp [go_sem, bin]; rfl))
     | ((with_reducible apply sp_newr hs); (· kernel_rfl); intro g w hs))
    exact hK _ _ (errF_nil hs)
  | false =>
    rw [hr] at hK
    repeat (first
     | (with_reducible (first | refine st_lens ?_ | refine st_eqls ?_ | refine st_nels ?_ | refine tk_eqls ?_ | refine tk_nels ?_ | refine mv.mk ?_ | refine nk_p ?_ | refine gdT_i ?_ | refine gdT_ft ?_ | refine gdT_tf ?_ | refine gdT_u ?_ | refine gd_u ?_ | refine gd_ft ?_ | refine gd_tf ?_ | refine gd_i ?_ | refine pk_t ?_ | refine pk_f ?_ | refine br_t ?_ | refine br_f ?_ | refine sp_boxa hs fun g w hs => ?_))
     | (with_reducible ((first | apply st_bin | apply st_ext | apply st_len | apply st_un | apply st_conv | apply st_mki | apply st_fld | apply st_cap | apply st_max | apply st_min | apply st_ixv | apply st_mkf); intro k' hk; simp [go_sem, thenR_ok, bin]; refine hk _ _ ?_; clear hk k'))
     | ((with_reducible (first | apply tk_bin | apply tk_ext | apply tk_len | apply tk_un)); (· intro w; simp [go_sem, bin]; rfl))
     | ((with_reducible apply sp_newr hs); (· kernel_rfl); intro g w hs))
    refine cl (types_fault (by decide) (by decide) (by decide) hs) ?_
    rintro r w hs
    repeat with_reducible refine mv.mk ?_
    exact hK _ _ hs
/-- the list that the middle part and the end stand over -/
theorem cb_r1 {x : Block} {g1 g3 g4 : Nat} {A1 A2 : Option Addr} {c1 c2 : Nat} (bb : Bool) (hh : x.header.ok) (hc : x.last.ok)
    (hbd : bb = true → 1 ≤ x.header.height) (hR : Ins L rndF.it) (hn : x.txs.length ≤ 1073741824) (hnm : ∀ t ∈ x.txs, t.length ≤ 1073741824)
    {K : Value → World → Prop} (V : Int) (hK : ∀ r w', Isk.Sep b w' ((errF r V).it :: L) → K r w') (hV : V = if (bb && (decide (x.txs.length ≤ 64) && (!x.txs.any longB && decide (x.header.txs = txsHashB x.txs)))) && okL x then 0 else 34)
    (hs : Isk.Sep b w (blkI g4 T.api_Hash (u8s zero32) :: blkI g3 T.api_Header (hcC x.header) :: (rngF g1 (0 + 165) (ccC x.last A2 c2)).it :: (rngF g1 0 (blokC (hcC x.header) (.slice A1 x.txs.length c1) (ccC x.last A2 c2))).it :: (listF bytesF 1 (.slice A1 x.txs.length c1) x.txs).it :: L)) :
    F.types_CheckBlock_r1 K (.pointer (some ⟨g1, 0, none⟩)) (.pointer (some ⟨g3, 0, none⟩)) (.pointer (some ⟨g4, 0, none⟩)) (.func (.func N.types_CheckBlock_1) #[] #[]) (.bool bb) w := by
  have e1 := u8s_len hh.last; have e2 := u8s_len hh.app; have e3 := u8s_len hh.txs; have e4 := u8s_len hh.validators; have e5 := u8s_len hh.next
  have hcl : (hcC x.header).length = 164 := headC_len e1 e2 e3 e4 e5
  have hcl2 : (ccC x.last A2 c2).length = 35 := commC_len (u8s_len hc.block)
  unfold F.types_CheckBlock_r1
  refine dr_can hs.drew .all ?_
  replace hs := hs.drew
  have hend : ∀ (cc : Bool) (w : World), (cc = true → bb = true) → Isk.Sep b w (blkI g4 T.api_Hash (u8s zero32) :: blkI g3 T.api_Header (hcC x.header) :: (rngF g1 (0 + 165) (ccC x.last A2 c2)).it :: (rngF g1 0 (blokC (hcC x.header) (.slice A1 x.txs.length c1) (ccC x.last A2 c2))).it :: (listF bytesF 1 (.slice A1 x.txs.length c1) x.txs).it :: L) →
      (bb && (decide (x.txs.length ≤ 64) && (!x.txs.any longB && decide (x.header.txs = txsHashB x.txs)))) = cc →
      F.types_CheckBlock_r2 K (.pointer (some ⟨g1, 0, none⟩)) (.pointer (some ⟨g3, 0, none⟩)) (.pointer (some ⟨g4, 0, none⟩)) (.bool cc) w := fun cc w hcb hs he => by
    rw [hV, he] at hK
    exact cb_r2 cc hh hc (fun h => hbd (hcb h)) (fun r w h => hK r w (h.sbl (.cons .hd (.drop (.drop .all))))) hs
  have hS := hid (L := (blkI g4 T.api_Hash (u8s zero32) :: blkI g3 T.api_Header (hcC x.header) :: (rngF g1 (0 + 165) (ccC x.last A2 c2)).it :: (rngF g1 0 (blokC (hcC x.header) (.slice A1 x.txs.length c1) (ccC x.last A2 c2))).it :: (listF bytesF 1 (.slice A1 x.txs.length c1) x.txs).it :: L))
  cases bb with
  | false =>
    repeat (first
     | (with_reducible (first | refine st_lens ?_ | refine st_eqls ?_ | refine st_nels ?_ | refine tk_eqls ?_ | refine tk_nels ?_ | refine mv.mk ?_ | refine nk_p ?_ | refine gdT_i ?_ | refine gdT_ft ?_ | refine gdT_tf ?_ | refine gdT_u ?_ | refine gd_u ?_ | refine gd_ft ?_ | refine gd_tf ?_ | refine gd_i ?_ | refine pk_t ?_ | refine pk_f ?_ | refine br_t ?_ | refine br_f ?_ | refine sp_boxa hs fun g w hs => ?_))
     | (with_reducible ((first | apply st_bin | apply st_ext | apply st_len | apply st_un | apply st_conv | apply st_mki | apply st_fld | apply st_cap | apply st_max | apply st_min | apply st_ixv | apply st_mkf); intro k' hk; simp [go_sem, thenR_ok, bin]; refine hk _ _ ?_; clear hk k'))
     | ((with_reducible (first | apply tk_bin | apply tk_ext | apply tk_len | apply tk_un)); (· intro w; simp [go_sem, bin]; rfl))
     | ((with_reducible apply sp_newr hs); (· kernel_rfl); intro g w hs))
    refine ⟨hs.mayr .all, ?_⟩
    repeat (first
     | (with_reducible (first | refine st_lens ?_ | refine st_eqls ?_ | refine st_nels ?_ | refine tk_eqls ?_ | refine tk_nels ?_ | refine mv.mk ?_ | refine nk_p ?_ | refine gdT_i ?_ | refine gdT_ft ?_ | refine gdT_tf ?_ | refine gdT_u ?_ | refine gd_u ?_ | refine gd_ft ?_ | refine gd_tf ?_ | refine gd_i ?_ | refine pk_t ?_ | refine pk_f ?_ | refine br_t ?_ | refine br_f ?_ | refine sp_boxa hs fun g w hs => ?_))
     | (with_reducible ((first | apply st_bin | apply st_ext | apply st_len | apply st_un | apply st_conv | apply st_mki | apply st_fld | apply st_cap | apply st_max | apply st_min | apply st_ixv | apply st_mkf); intro k' hk; simp [go_sem, thenR_ok, bin]; refine hk _ _ ?_; clear hk k'))
     | ((with_reducible (first | apply tk_bin | apply tk_ext | apply tk_len | apply tk_un)); (· intro w; simp [go_sem, bin]; rfl))
     | ((with_reducible apply sp_newr hs); (· kernel_rfl); intro g w hs))
    refine nS_can hs .all .all ?_
    repeat (first
     | (with_reducible (first | refine st_lens ?_ | refine st_eqls ?_ | refine st_nels ?_ | refine tk_eqls ?_ | refine tk_nels ?_ | refine mv.mk ?_ | refine nk_p ?_ | refine gdT_i ?_ | refine gdT_ft ?_ | refine gdT_tf ?_ | refine gdT_u ?_ | refine gd_u ?_ | refine gd_ft ?_ | refine gd_tf ?_ | refine gd_i ?_ | refine pk_t ?_ | refine pk_f ?_ | refine br_t ?_ | refine br_f ?_ | refine sp_boxa hs fun g w hs => ?_))
     | (with_reducible ((first | apply st_bin | apply st_ext | apply st_len | apply st_un | apply st_conv | apply st_mki | apply st_fld | apply st_cap | apply st_max | apply st_min | apply st_ixv | apply st_mkf); intro k' hk; simp [go_sem, thenR_ok, bin]; refine hk _ _ ?_; clear hk k'))
     | ((with_reducible (first | apply tk_bin | apply tk_ext | apply tk_len | apply tk_un)); (· intro w; simp [go_sem, bin]; rfl))
     | ((with_reducible apply sp_newr hs); (· kernel_rfl); intro g w hs))
    refine ⟨hs.mayr .all, ?_⟩
    repeat (first
     | (with_reducible (first | refine st_lens ?_ | refine st_eqls ?_ | refine st_nels ?_ | refine tk_eqls ?_ | refine tk_nels ?_ | refine mv.mk ?_ | refine nk_p ?_ | refine gdT_i ?_ | refine gdT_ft ?_ | refine gdT_tf ?_ | refine gdT_u ?_ | refine gd_u ?_ | refine gd_ft ?_ | refine gd_tf ?_ | refine gd_i ?_ | refine pk_t ?_ | refine pk_f ?_ | refine br_t ?_ | refine br_f ?_ | refine sp_boxa hs fun g w hs => ?_))
     | (with_reducible ((first | apply st_bin | apply st_ext | apply st_len | apply st_un | apply st_conv | apply st_mki | apply st_fld | apply st_cap | apply st_max | apply st_min | apply st_ixv | apply st_mkf); intro k' hk; simp [go_sem, thenR_ok, bin]; refine hk _ _ ?_; clear hk k'))
     | ((with_reducible (first | apply tk_bin | apply tk_ext | apply tk_len | apply tk_un)); (· intro w; simp [go_sem, bin]; rfl))
     | ((with_reducible apply sp_newr hs); (· kernel_rfl); intro g w hs))
    exact hend false _ (fun h => h) hs rfl
  | true =>
  repeat (first
   | (with_reducible refine blok.a0 ?_)
   | ((with_reducible apply blok.r0 hs); (· (with_reducible (repeat (first | exact .blk | exact .rng | apply Rng.tl)))); (· (with_reducible (first | assumption | exact z32 | exact u8s_len (by assumption)))))
   | (with_reducible refine blok.c0 ?_)
   | ((with_reducible apply blok.e0); (· first | exact hS | exact hid); (· (with_reducible (repeat (first | exact .blk | exact .rng | apply Rng.tl)))); (· (with_reducible (first | assumption | exact z32 | exact u8s_len (by assumption)))))
   | (with_reducible refine blok.a1 ?_)
   | ((with_reducible apply blok.r1 hs); (· (with_reducible (repeat (first | exact .blk | exact .rng | apply Rng.tl)))); (· (with_reducible (first | assumption | exact z32 | exact u8s_len (by assumption)))))
   | (with_reducible refine blok.c1 ?_)
   | ((with_reducible apply blok.e1); (· first | exact hS | exact hid); (· (with_reducible (repeat (first | exact .blk | exact .rng | apply Rng.tl)))); (· (with_reducible (first | assumption | exact z32 | exact u8s_len (by assumption)))))
   | (with_reducible refine blok.a2 ?_)
   | ((with_reducible apply blok.r2 hs); (· (with_reducible (repeat (first | exact .blk | exact .rng | apply Rng.tl)))); (repeat (· (with_reducible (first | assumption | exact z32 | exact u8s_len (by assumption))))))
   | (with_reducible refine blok.c2 ?_)
   | ((with_reducible apply blok.e2); (· first | exact hS | exact hid); (· (with_reducible (repeat (first | exact .blk | exact .rng | apply Rng.tl)))); (repeat (· (with_reducible (first | assumption | exact z32 | exact u8s_len (by assumption))))))
   | (with_reducible (first | refine st_lens ?_ | refine st_eqls ?_ | refine st_nels ?_ | refine tk_eqls ?_ | refine tk_nels ?_ | refine mv.mk ?_ | refine nk_p ?_ | refine gdT_i ?_ | refine gdT_ft ?_ | refine gdT_tf ?_ | refine gdT_u ?_ | refine gd_u ?_ | refine gd_ft ?_ | refine gd_tf ?_ | refine gd_i ?_ | refine pk_t ?_ | refine pk_f ?_ | refine br_t ?_ | refine br_f ?_ | refine sp_boxa hs fun g w hs => ?_))
   | (with_reducible ((first | apply st_bin | apply st_ext | apply st_len | apply st_un | apply st_conv | apply st_mki | apply st_fld | apply st_cap | apply st_max | apply st_min | apply st_ixv | apply st_mkf); intro k' hk; simp [go_sem, thenR_ok, bin]; refine hk _ _ ?_; clear hk k'))
   | ((with_reducible (first | apply tk_bin | apply tk_ext | apply tk_len | apply tk_un)); (· intro w; simp [go_sem, bin]; rfl))
   | ((with_reducible apply sp_newr hs); (· kernel_rfl); intro g w hs))
  by_cases d1 : x.txs.length ≤ 64
  rotate_left
  · rw [show decide ((x.txs.length : Int) ≤ 64) = false by simp; omega]
    repeat (first
     | (with_reducible (first | refine st_lens ?_ | refine st_eqls ?_ | refine st_nels ?_ | refine tk_eqls ?_ | refine tk_nels ?_ | refine mv.mk ?_ | refine nk_p ?_ | refine gdT_i ?_ | refine gdT_ft ?_ | refine gdT_tf ?_ | refine gdT_u ?_ | refine gd_u ?_ | refine gd_ft ?_ | refine gd_tf ?_ | refine gd_i ?_ | refine pk_t ?_ | refine pk_f ?_ | refine br_t ?_ | refine br_f ?_ | refine sp_boxa hs fun g w hs => ?_))
     | (with_reducible ((first | apply st_bin | apply st_ext | apply st_len | apply st_un | apply st_conv | apply st_mki | apply st_fld | apply st_cap | apply st_max | apply st_min | apply st_ixv | apply st_mkf); intro k' hk; simp [go_sem, thenR_ok, bin]; refine hk _ _ ?_; clear hk k'))
     | ((with_reducible (first | apply tk_bin | apply tk_ext | apply tk_len | apply tk_un)); (· intro w; simp [go_sem, bin]; rfl))
     | ((with_reducible apply sp_newr hs); (· kernel_rfl); intro g w hs))
    refine ⟨hs.mayr .all, ?_⟩
    repeat (first
     | (with_reducible (first | refine st_lens ?_ | refine st_eqls ?_ | refine st_nels ?_ | refine tk_eqls ?_ | refine tk_nels ?_ | refine mv.mk ?_ | refine nk_p ?_ | refine gdT_i ?_ | refine gdT_ft ?_ | refine gdT_tf ?_ | refine gdT_u ?_ | refine gd_u ?_ | refine gd_ft ?_ | refine gd_tf ?_ | refine gd_i ?_ | refine pk_t ?_ | refine pk_f ?_ | refine br_t ?_ | refine br_f ?_ | refine sp_boxa hs fun g w hs => ?_))
     | (with_reducible ((first | apply st_bin | apply st_ext | apply st_len | apply st_un | apply st_conv | apply st_mki | apply st_fld | apply st_cap | apply st_max | apply st_min | apply st_ixv | apply st_mkf); intro k' hk; simp [go_sem, thenR_ok, bin]; refine hk _ _ ?_; clear hk k'))
     | ((with_reducible (first | apply tk_bin | apply tk_ext | apply tk_len | apply tk_un)); (· intro w; simp [go_sem, bin]; rfl))
     | ((with_reducible apply sp_newr hs); (· kernel_rfl); intro g w hs))
    refine nS_can hs .all .all ?_
    repeat (first
     | (with_reducible (first | refine st_lens ?_ | refine st_eqls ?_ | refine st_nels ?_ | refine tk_eqls ?_ | refine tk_nels ?_ | refine mv.mk ?_ | refine nk_p ?_ | refine gdT_i ?_ | refine gdT_ft ?_ | refine gdT_tf ?_ | refine gdT_u ?_ | refine gd_u ?_ | refine gd_ft ?_ | refine gd_tf ?_ | refine gd_i ?_ | refine pk_t ?_ | refine pk_f ?_ | refine br_t ?_ | refine br_f ?_ | refine sp_boxa hs fun g w hs => ?_))
     | (with_reducible ((first | apply st_bin | apply st_ext | apply st_len | apply st_un | apply st_conv | apply st_mki | apply st_fld | apply st_cap | apply st_max | apply st_min | apply st_ixv | apply st_mkf); intro k' hk; simp [go_sem, thenR_ok, bin]; refine hk _ _ ?_; clear hk k'))
     | ((with_reducible (first | apply tk_bin | apply tk_ext | apply tk_len | apply tk_un)); (· intro w; simp [go_sem, bin]; rfl))
     | ((with_reducible apply sp_newr hs); (· kernel_rfl); intro g w hs))
    refine ⟨hs.mayr .all, ?_⟩
    repeat (first
     | (with_reducible (first | refine st_lens ?_ | refine st_eqls ?_ | refine st_nels ?_ | refine tk_eqls ?_ | refine tk_nels ?_ | refine mv.mk ?_ | refine nk_p ?_ | refine gdT_i ?_ | refine gdT_ft ?_ | refine gdT_tf ?_ | refine gdT_u ?_ | refine gd_u ?_ | refine gd_ft ?_ | refine gd_tf ?_ | refine gd_i ?_ | refine pk_t ?_ | refine pk_f ?_ | refine br_t ?_ | refine br_f ?_ | refine sp_boxa hs fun g w hs => ?_))
     | (with_reducible ((first | apply st_bin | apply st_ext | apply st_len | apply st_un | apply st_conv | apply st_mki | apply st_fld | apply st_cap | apply st_max | apply st_min | apply st_ixv | apply st_mkf); intro k' hk; simp [go_sem, thenR_ok, bin]; refine hk _ _ ?_; clear hk k'))
     | ((with_reducible (first | apply tk_bin | apply tk_ext | apply tk_len | apply tk_un)); (· intro w; simp [go_sem, bin]; rfl))
     | ((with_reducible apply sp_newr hs); (· kernel_rfl); intro g w hs))
    exact hend false _ (fun h => by cases h) hs (by simp [d1])
  rw [show decide ((x.txs.length : Int) ≤ 64) = true by simp; omega]
  repeat (first
   | (with_reducible refine blok.a0 ?_)
   | ((with_reducible apply blok.r0 hs); (· (with_reducible (repeat (first | exact .blk | exact .rng | apply Rng.tl)))); (· (with_reducible (first | assumption | exact z32 | exact u8s_len (by assumption)))))
   | (with_reducible refine blok.c0 ?_)
   | ((with_reducible apply blok.e0); (· first | exact hS | exact hid); (· (with_reducible (repeat (first | exact .blk | exact .rng | apply Rng.tl)))); (· (with_reducible (first | assumption | exact z32 | exact u8s_len (by assumption)))))
   | (with_reducible refine blok.a1 ?_)
   | ((with_reducible apply blok.r1 hs); (· (with_reducible (repeat (first | exact .blk | exact .rng | apply Rng.tl)))); (· (with_reducible (first | assumption | exact z32 | exact u8s_len (by assumption)))))
   | (with_reducible refine blok.c1 ?_)
   | ((with_reducible apply blok.e1); (· first | exact hS | exact hid); (· (with_reducible (repeat (first | exact .blk | exact .rng | apply Rng.tl)))); (· (with_reducible (first | assumption | exact z32 | exact u8s_len (by assumption)))))
   | (with_reducible refine blok.a2 ?_)
   | ((with_reducible apply blok.r2 hs); (· (with_reducible (repeat (first | exact .blk | exact .rng | apply Rng.tl)))); (repeat (· (with_reducible (first | assumption | exact z32 | exact u8s_len (by assumption))))))
   | (with_reducible refine blok.c2 ?_)
   | ((with_reducible apply blok.e2); (· first | exact hS | exact hid); (· (with_reducible (repeat (first | exact .blk | exact .rng | apply Rng.tl)))); (repeat (· (with_reducible (first | assumption | exact z32 | exact u8s_len (by assumption))))))
   | (with_reducible (first | refine st_lens ?_ | refine st_eqls ?_ | refine st_nels ?_ | refine tk_eqls ?_ | refine tk_nels ?_ | refine mv.mk ?_ | refine nk_p ?_ | refine gdT_i ?_ | refine gdT_ft ?_ | refine gdT_tf ?_ | refine gdT_u ?_ | refine gd_u ?_ | refine gd_ft ?_ | refine gd_tf ?_ | refine gd_i ?_ | refine pk_t ?_ | refine pk_f ?_ | refine br_t ?_ | refine br_f ?_ | refine sp_boxa hs fun g w hs => ?_))
   | (with_reducible ((first | apply st_bin | apply st_ext | apply st_len | apply st_un | apply st_conv | apply st_mki | apply st_fld | apply st_cap | apply st_max | apply st_min | apply st_ixv | apply st_mkf); intro k' hk; simp [go_sem, thenR_ok, bin]; refine hk _ _ ?_; clear hk k'))
   | ((with_reducible (first | apply tk_bin | apply tk_ext | apply tk_len | apply tk_un)); (· intro w; simp [go_sem, bin]; rfl))
   | ((with_reducible apply sp_newr hs); (· kernel_rfl); intro g w hs))
  refine cl (slices_ContainsFunc_texts hs (l := x.txs) (by repeat (first | with_reducible exact Ins.hd | with_reducible apply Ins.tl)) (by omega)) ?_
  rintro _ w ⟨rfl, hs⟩
  refine ⟨hs.mayr .all, ?_⟩
  cases d2 : x.txs.any longB with
  | true =>
    repeat (first
     | (with_reducible (first | refine st_lens ?_ | refine st_eqls ?_ | refine st_nels ?_ | refine tk_eqls ?_ | refine tk_nels ?_ | refine mv.mk ?_ | refine nk_p ?_ | refine gdT_i ?_ | refine gdT_ft ?_ | refine gdT_tf ?_ | refine gdT_u ?_ | refine gd_u ?_ | refine gd_ft ?_ | refine gd_tf ?_ | refine gd_i ?_ | refine pk_t ?_ | refine pk_f ?_ | refine br_t ?_ | refine br_f ?_ | refine sp_boxa hs fun g w hs => ?_))
     | (with_reducible ((first | apply st_bin | apply st_ext | apply st_len | apply st_un | apply st_conv | apply st_mki | apply st_fld | apply st_cap | apply st_max | apply st_min | apply st_ixv | apply st_mkf); intro k' hk; simp [go_sem, thenR_ok, bin]; refine hk _ _ ?_; clear hk k'))
     | ((with_reducible (first | apply tk_bin | apply tk_ext | apply tk_len | apply tk_un)); (· intro w; simp [go_sem, bin]; rfl))
     | ((with_reducible apply sp_newr hs); (· kernel_rfl); intro g w hs))
    refine nS_can hs .all .all ?_
    repeat (first
     | (with_reducible (first | refine st_lens ?_ | refine st_eqls ?_ | refine st_nels ?_ | refine tk_eqls ?_ | refine tk_nels ?_ | refine mv.mk ?_ | refine nk_p ?_ | refine gdT_i ?_ | refine gdT_ft ?_ | refine gdT_tf ?_ | refine gdT_u ?_ | refine gd_u ?_ | refine gd_ft ?_ | refine gd_tf ?_ | refine gd_i ?_ | refine pk_t ?_ | refine pk_f ?_ | refine br_t ?_ | refine br_f ?_ | refine sp_boxa hs fun g w hs => ?_))
     | (with_reducible ((first | apply st_bin | apply st_ext | apply st_len | apply st_un | apply st_conv | apply st_mki | apply st_fld | apply st_cap | apply st_max | apply st_min | apply st_ixv | apply st_mkf); intro k' hk; simp [go_sem, thenR_ok, bin]; refine hk _ _ ?_; clear hk k'))
     | ((with_reducible (first | apply tk_bin | apply tk_ext | apply tk_len | apply tk_un)); (· intro w; simp [go_sem, bin]; rfl))
     | ((with_reducible apply sp_newr hs); (· kernel_rfl); intro g w hs))
    refine ⟨hs.mayr .all, ?_⟩
    repeat (first
     | (with_reducible (first | refine st_lens ?_ | refine st_eqls ?_ | refine st_nels ?_ | refine tk_eqls ?_ | refine tk_nels ?_ | refine mv.mk ?_ | refine nk_p ?_ | refine gdT_i ?_ | refine gdT_ft ?_ | refine gdT_tf ?_ | refine gdT_u ?_ | refine gd_u ?_ | refine gd_ft ?_ | refine gd_tf ?_ | refine gd_i ?_ | refine pk_t ?_ | refine pk_f ?_ | refine br_t ?_ | refine br_f ?_ | refine sp_boxa hs fun g w hs => ?_))
     | (with_reducible ((first | apply st_bin | apply st_ext | apply st_len | apply st_un | apply st_conv | apply st_mki | apply st_fld | apply st_cap | apply st_max | apply st_min | apply st_ixv | apply st_mkf); intro k' hk; simp [go_sem, thenR_ok, bin]; refine hk _ _ ?_; clear hk k'))
     | ((with_reducible (first | apply tk_bin | apply tk_ext | apply tk_len | apply tk_un)); (· intro w; simp [go_sem, bin]; rfl))
     | ((with_reducible apply sp_newr hs); (· kernel_rfl); intro g w hs))
    exact hend false _ (fun h => by cases h) hs (by simp [d2])
  | false =>
  unfold hcC at hs hS hcl ⊢
  repeat (first
   | (with_reducible refine head.a0 ?_)
   | ((with_reducible apply head.r0 hs); (· (with_reducible (repeat (first | exact .blk | exact .rng | apply Rng.tl)))))
   | (with_reducible refine head.c0 ?_)
   | ((with_reducible apply head.e0); (· first | exact hS | exact hid); (· (with_reducible (repeat (first | exact .blk | exact .rng | apply Rng.tl)))))
   | (with_reducible refine head.a1 ?_)
   | ((with_reducible apply head.r1 hs); (· (with_reducible (repeat (first | exact .blk | exact .rng | apply Rng.tl)))))
   | (with_reducible refine head.c1 ?_)
   | ((with_reducible apply head.e1); (· first | exact hS | exact hid); (· (with_reducible (repeat (first | exact .blk | exact .rng | apply Rng.tl)))))
   | (with_reducible refine head.a2 ?_)
   | ((with_reducible apply head.r2 hs); (· (with_reducible (repeat (first | exact .blk | exact .rng | apply Rng.tl)))))
   | (with_reducible refine head.c2 ?_)
   | ((with_reducible apply head.e2); (· first | exact hS | exact hid); (· (with_reducible (repeat (first | exact .blk | exact .rng | apply Rng.tl)))))
   | (with_reducible refine head.a3 ?_)
   | ((with_reducible apply head.r3 hs); (· (with_reducible (repeat (first | exact .blk | exact .rng | apply Rng.tl)))); (· (with_reducible (first | assumption | exact z32 | exact u8s_len (by assumption)))))
   | (with_reducible refine head.c3 ?_)
   | ((with_reducible apply head.e3); (· first | exact hS | exact hid); (· (with_reducible (repeat (first | exact .blk | exact .rng | apply Rng.tl)))); (· (with_reducible (first | assumption | exact z32 | exact u8s_len (by assumption)))))
   | (with_reducible refine head.a4 ?_)
   | ((with_reducible apply head.r4 hs); (· (with_reducible (repeat (first | exact .blk | exact .rng | apply Rng.tl)))); (repeat (· (with_reducible (first | assumption | exact z32 | exact u8s_len (by assumption))))))
   | (with_reducible refine head.c4 ?_)
   | ((with_reducible apply head.e4); (· first | exact hS | exact hid); (· (with_reducible (repeat (first | exact .blk | exact .rng | apply Rng.tl)))); (repeat (· (with_reducible (first | assumption | exact z32 | exact u8s_len (by assumption))))))
   | (with_reducible refine head.a5 ?_)
   | ((with_reducible apply head.r5 hs); (· (with_reducible (repeat (first | exact .blk | exact .rng | apply Rng.tl)))); (repeat (· (with_reducible (first | assumption | exact z32 | exact u8s_len (by assumption))))))
   | (with_reducible refine head.c5 ?_)
   | ((with_reducible apply head.e5); (· first | exact hS | exact hid); (· (with_reducible (repeat (first | exact .blk | exact .rng | apply Rng.tl)))); (repeat (· (with_reducible (first | assumption | exact z32 | exact u8s_len (by assumption))))))
   | (with_reducible refine head.a6 ?_)
   | ((with_reducible apply head.r6 hs); (· (with_reducible (repeat (first | exact .blk | exact .rng | apply Rng.tl)))); (repeat (· (with_reducible (first | assumption | exact z32 | exact u8s_len (by assumption))))))
   | (with_reducible refine head.c6 ?_)
   | ((with_reducible apply head.e6); (· first | exact hS | exact hid); (· (with_reducible (repeat (first | exact .blk | exact .rng | apply Rng.tl)))); (repeat (· (with_reducible (first | assumption | exact z32 | exact u8s_len (by assumption))))))
   | (with_reducible refine head.a7 ?_)
   | ((with_reducible apply head.r7 hs); (· (with_reducible (repeat (first | exact .blk | exact .rng | apply Rng.tl)))); (repeat (· (with_reducible (first | assumption | exact z32 | exact u8s_len (by assumption))))))
   | (with_reducible refine head.c7 ?_)
   | ((with_reducible apply head.e7); (· first | exact hS | exact hid); (· (with_reducible (repeat (first | exact .blk | exact .rng | apply Rng.tl)))); (repeat (· (with_reducible (first | assumption | exact z32 | exact u8s_len (by assumption))))))
   | (with_reducible refine head.a8 ?_)
   | ((with_reducible apply head.r8 hs); (· (with_reducible (repeat (first | exact .blk | exact .rng | apply Rng.tl)))); (repeat (· (with_reducible (first | assumption | exact z32 | exact u8s_len (by assumption))))))
   | (with_reducible refine head.c8 ?_)
   | ((with_reducible apply head.e8); (· first | exact hS | exact hid); (· (with_reducible (repeat (first | exact .blk | exact .rng | apply Rng.tl)))); (repeat (· (with_reducible (first | assumption | exact z32 | exact u8s_len (by assumption))))))
   | (with_reducible (first | refine st_lens ?_ | refine st_eqls ?_ | refine st_nels ?_ | refine tk_eqls ?_ | refine tk_nels ?_ | refine mv.mk ?_ | refine nk_p ?_ | refine gdT_i ?_ | refine gdT_ft ?_ | refine gdT_tf ?_ | refine gdT_u ?_ | refine gd_u ?_ | refine gd_ft ?_ | refine gd_tf ?_ | refine gd_i ?_ | refine pk_t ?_ | refine pk_f ?_ | refine br_t ?_ | refine br_f ?_ | refine sp_boxa hs fun g w hs => ?_))
   | (with_reducible ((first | apply st_bin | apply st_ext | apply st_len | apply st_un | apply st_conv | apply st_mki | apply st_fld | apply st_cap | apply st_max | apply st_min | apply st_ixv | apply st_mkf); intro k' hk; simp [go_sem, thenR_ok, bin]; refine hk _ _ ?_; clear hk k'))
   | ((with_reducible (first | apply tk_bin | apply tk_ext | apply tk_len | apply tk_un)); (· intro w; simp [go_sem, bin]; rfl))
   | ((with_reducible apply sp_newr hs); (· kernel_rfl); intro g w hs))
  refine nS_can hs .all .all ?_
  repeat (first
   | (with_reducible refine head.a0 ?_)
   | ((with_reducible apply head.r0 hs); (· (with_reducible (repeat (first | exact .blk | exact .rng | apply Rng.tl)))))
   | (with_reducible refine head.c0 ?_)
   | ((with_reducible apply head.e0); (· first | exact hS | exact hid); (· (with_reducible (repeat (first | exact .blk | exact .rng | apply Rng.tl)))))
   | (with_reducible refine head.a1 ?_)
   | ((with_reducible apply head.r1 hs); (· (with_reducible (repeat (first | exact .blk | exact .rng | apply Rng.tl)))))
   | (with_reducible refine head.c1 ?_)
   | ((with_reducible apply head.e1); (· first | exact hS | exact hid); (· (with_reducible (repeat (first | exact .blk | exact .rng | apply Rng.tl)))))
   | (with_reducible refine head.a2 ?_)
   | ((with_reducible apply head.r2 hs); (· (with_reducible (repeat (first | exact .blk | exact .rng | apply Rng.tl)))))
   | (with_reducible refine head.c2 ?_)
   | ((with_reducible apply head.e2); (· first | exact hS | exact hid); (· (with_reducible (repeat (first | exact .blk | exact .rng | apply Rng.tl)))))
   | (with_reducible refine head.a3 ?_)
   | ((with_reducible apply head.r3 hs); (· (with_reducible (repeat (first | exact .blk | exact .rng | apply Rng.tl)))); (· (with_reducible (first | assumption | exact z32 | exact u8s_len (by assumption)))))
   | (with_reducible refine head.c3 ?_)
   | ((with_reducible apply head.e3); (· first | exact hS | exact hid); (· (with_reducible (repeat (first | exact .blk | exact .rng | apply Rng.tl)))); (· (with_reducible (first | assumption | exact z32 | exact u8s_len (by assumption)))))
   | (with_reducible refine head.a4 ?_)
   | ((with_reducible apply head.r4 hs); (· (with_reducible (repeat (first | exact .blk | exact .rng | apply Rng.tl)))); (repeat (· (with_reducible (first | assumption | exact z32 | exact u8s_len (by assumption))))))
   | (with_reducible refine head.c4 ?_)
   | ((with_reducible apply head.e4); (· first | exact hS | exact hid); (· (with_reducible (repeat (first | exact .blk | exact .rng | apply Rng.tl)))); (repeat (· (with_reducible (first | assumption | exact z32 | exact u8s_len (by assumption))))))
   | (with_reducible refine head.a5 ?_)
   | ((with_reducible apply head.r5 hs); (· (with_reducible (repeat (first | exact .blk | exact .rng | apply Rng.tl)))); (repeat (· (with_reducible (first | assumption | exact z32 | exact u8s_len (by assumption))))))
   | (with_reducible refine head.c5 ?_)
   | ((with_reducible apply head.e5); (· first | exact hS | exact hid); (· (with_reducible (repeat (first | exact .blk | exact .rng | apply Rng.tl)))); (repeat (· (with_reducible (first | assumption | exact z32 | exact u8s_len (by assumption))))))
   | (with_reducible refine head.a6 ?_)
   | ((with_reducible apply head.r6 hs); (· (with_reducible (repeat (first | exact .blk | exact .rng | apply Rng.tl)))); (repeat (· (with_reducible (first | assumption | exact z32 | exact u8s_len (by assumption))))))
   | (with_reducible refine head.c6 ?_)
   | ((with_reducible apply head.e6); (· first | exact hS | exact hid); (· (with_reducible (repeat (first | exact .blk | exact .rng | apply Rng.tl)))); (repeat (· (with_reducible (first | assumption | exact z32 | exact u8s_len (by assumption))))))
   | (with_reducible refine head.a7 ?_)
   | ((with_reducible apply head.r7 hs); (· (with_reducible (repeat (first | exact .blk | exact .rng | apply Rng.tl)))); (repeat (· (with_reducible (first | assumption | exact z32 | exact u8s_len (by assumption))))))
   | (with_reducible refine head.c7 ?_)
   | ((with_reducible apply head.e7); (· first | exact hS | exact hid); (· (with_reducible (repeat (first | exact .blk | exact .rng | apply Rng.tl)))); (repeat (· (with_reducible (first | assumption | exact z32 | exact u8s_len (by assumption))))))
   | (with_reducible refine head.a8 ?_)
   | ((with_reducible apply head.r8 hs); (· (with_reducible (repeat (first | exact .blk | exact .rng | apply Rng.tl)))); (repeat (· (with_reducible (first | assumption | exact z32 | exact u8s_len (by assumption))))))
   | (with_reducible refine head.c8 ?_)
   | ((with_reducible apply head.e8); (· first | exact hS | exact hid); (· (with_reducible (repeat (first | exact .blk | exact .rng | apply Rng.tl)))); (repeat (· (with_reducible (first | assumption | exact z32 | exact u8s_len (by assumption))))))
   | (with_reducible refine blok.a0 ?_)
   | ((with_reducible apply blok.r0 hs); (· (with_reducible (repeat (first | exact .blk | exact .rng | apply Rng.tl)))); (· (with_reducible (first | assumption | exact z32 | exact u8s_len (by assumption)))))
   | (with_reducible refine blok.c0 ?_)
   | ((with_reducible apply blok.e0); (· first | exact hS | exact hid); (· (with_reducible (repeat (first | exact .blk | exact .rng | apply Rng.tl)))); (· (with_reducible (first | assumption | exact z32 | exact u8s_len (by assumption)))))
   | (with_reducible refine blok.a1 ?_)
   | ((with_reducible apply blok.r1 hs); (· (with_reducible (repeat (first | exact .blk | exact .rng | apply Rng.tl)))); (· (with_reducible (first | assumption | exact z32 | exact u8s_len (by assumption)))))
   | (with_reducible refine blok.c1 ?_)
   | ((with_reducible apply blok.e1); (· first | exact hS | exact hid); (· (with_reducible (repeat (first | exact .blk | exact .rng | apply Rng.tl)))); (· (with_reducible (first | assumption | exact z32 | exact u8s_len (by assumption)))))
   | (with_reducible refine blok.a2 ?_)
   | ((with_reducible apply blok.r2 hs); (· (with_reducible (repeat (first | exact .blk | exact .rng | apply Rng.tl)))); (repeat (· (with_reducible (first | assumption | exact z32 | exact u8s_len (by assumption))))))
   | (with_reducible refine blok.c2 ?_)
   | ((with_reducible apply blok.e2); (· first | exact hS | exact hid); (· (with_reducible (repeat (first | exact .blk | exact .rng | apply Rng.tl)))); (repeat (· (with_reducible (first | assumption | exact z32 | exact u8s_len (by assumption))))))
   | (with_reducible (first | refine st_lens ?_ | refine st_eqls ?_ | refine st_nels ?_ | refine tk_eqls ?_ | refine tk_nels ?_ | refine mv.mk ?_ | refine nk_p ?_ | refine gdT_i ?_ | refine gdT_ft ?_ | refine gdT_tf ?_ | refine gdT_u ?_ | refine gd_u ?_ | refine gd_ft ?_ | refine gd_tf ?_ | refine gd_i ?_ | refine pk_t ?_ | refine pk_f ?_ | refine br_t ?_ | refine br_f ?_ | refine sp_boxa hs fun g w hs => ?_))
   | (with_reducible ((first | apply st_bin | apply st_ext | apply st_len | apply st_un | apply st_conv | apply st_mki | apply st_fld | apply st_cap | apply st_max | apply st_min | apply st_ixv | apply st_mkf); intro k' hk; simp [go_sem, thenR_ok, bin]; refine hk _ _ ?_; clear hk k'))
   | ((with_reducible (first | apply tk_bin | apply tk_ext | apply tk_len | apply tk_un)); (· intro w; simp [go_sem, bin]; rfl))
   | ((with_reducible apply sp_newr hs); (· kernel_rfl); intro g w hs))
  refine cl (types_TxsHash hs (l := x.txs) (by repeat (first | exact hR | apply Ins.tl)) (by repeat (first | with_reducible exact Ins.hd | with_reducible apply Ins.tl)) hn hnm) ?_
  rintro _ w ⟨rfl, hs⟩
  refine ⟨hs.mayr .all, ?_⟩
  refine gdT_i ?_
  refine tk_run (hash_eq hh.txs (txsHashB_len _) _ _) ?_
  repeat (first
   | (with_reducible (first | refine st_lens ?_ | refine st_eqls ?_ | refine st_nels ?_ | refine tk_eqls ?_ | refine tk_nels ?_ | refine mv.mk ?_ | refine nk_p ?_ | refine gdT_i ?_ | refine gdT_ft ?_ | refine gdT_tf ?_ | refine gdT_u ?_ | refine gd_u ?_ | refine gd_ft ?_ | refine gd_tf ?_ | refine gd_i ?_ | refine pk_t ?_ | refine pk_f ?_ | refine br_t ?_ | refine br_f ?_ | refine sp_boxa hs fun g w hs => ?_))
   | (with_reducible ((first | apply st_bin | apply st_ext | apply st_len | apply st_un | apply st_conv | apply st_mki | apply st_fld | apply st_cap | apply st_max | apply st_min | apply st_ixv | apply st_mkf); intro k' hk; simp [go_sem, thenR_ok, bin]; refine hk _ _ ?_; clear hk k'))
   | ((with_reducible (first | apply tk_bin | apply tk_ext | apply tk_len | apply tk_un)); (· intro w; simp [go_sem, bin]; rfl))
   | ((with_reducible apply sp_newr hs); (· kernel_rfl); intro g w hs))
  exact hend (decide (x.header.txs = txsHashB x.txs)) _ (fun _ => rfl) hs (by simp [d1, d2])
theorem types_CheckBlock {x : Block} (hs : Isk.Sep b w L) (hm : Ins L (blokF cs x).it) (hR : Ins L rndF.it) (hn : x.txs.length ≤ 1073741824) (hnm : ∀ t ∈ x.txs, t.length ≤ 1073741824) (hch : x.header.chain.length ≤ 4611686018427387904) :
    C Tryz.prog N.types_CheckBlock #[.agg cs.toArray] w fun r w' => Isk.Sep b w' ((errF r (checkBlock x)).it :: L) := by
  refine C.types_CheckBlock ?_
  unfold F.types_CheckBlock
  refine blok_box hs hm fun g1 w A1 c1 A2 c2 hcs hh hc hs => ?_
  have e1 := u8s_len hh.last; have e2 := u8s_len hh.app; have e3 := u8s_len hh.txs; have e4 := u8s_len hh.validators; have e5 := u8s_len hh.next
  have hcl : (hcC x.header).length = 164 := headC_len e1 e2 e3 e4 e5
  have hho : ∀ u ∈ hcC x.header, u.oneCell' = true := headC_one rfl rfl rfl (u8s_one _) (u8s_one _) (u8s_one _) (u8s_one _) (u8s_one _) rfl
  have zH : zeroT Tryz.prog T.api_Hash (u8s zero32) := zeroT_of (by kernel_rfl)
  repeat (first
   | (with_reducible refine blok.a0 ?_)
   | ((with_reducible apply blok.r0 hs); (· (with_reducible (repeat (first | exact .blk | exact .rng | apply Rng.tl)))); (· (with_reducible (first | assumption | exact z32 | exact u8s_len (by assumption)))))
   | (with_reducible refine blok.c0 ?_)
   | ((with_reducible apply blok.e0); (· first | exact hS | exact hid); (· (with_reducible (repeat (first | exact .blk | exact .rng | apply Rng.tl)))); (· (with_reducible (first | assumption | exact z32 | exact u8s_len (by assumption)))))
   | (with_reducible refine blok.a1 ?_)
   | ((with_reducible apply blok.r1 hs); (· (with_reducible (repeat (first | exact .blk | exact .rng | apply Rng.tl)))); (· (with_reducible (first | assumption | exact z32 | exact u8s_len (by assumption)))))
   | (with_reducible refine blok.c1 ?_)
   | ((with_reducible apply blok.e1); (· first | exact hS | exact hid); (· (with_reducible (repeat (first | exact .blk | exact .rng | apply Rng.tl)))); (· (with_reducible (first | assumption | exact z32 | exact u8s_len (by assumption)))))
   | (with_reducible refine blok.a2 ?_)
   | ((with_reducible apply blok.r2 hs); (· (with_reducible (repeat (first | exact .blk | exact .rng | apply Rng.tl)))); (repeat (· (with_reducible (first | assumption | exact z32 | exact u8s_len (by assumption))))))
   | (with_reducible refine blok.c2 ?_)
   | ((with_reducible apply blok.e2); (· first | exact hS | exact hid); (· (with_reducible (repeat (first | exact .blk | exact .rng | apply Rng.tl)))); (repeat (· (with_reducible (first | assumption | exact z32 | exact u8s_len (by assumption))))))
   | (with_reducible (first | refine st_lens ?_ | refine st_eqls ?_ | refine st_nels ?_ | refine tk_eqls ?_ | refine tk_nels ?_ | refine mv.mk ?_ | refine nk_p ?_ | refine gdT_i ?_ | refine gdT_ft ?_ | refine gdT_tf ?_ | refine gdT_u ?_ | refine gd_u ?_ | refine gd_ft ?_ | refine gd_tf ?_ | refine gd_i ?_ | refine pk_t ?_ | refine pk_f ?_ | refine br_t ?_ | refine br_f ?_ | refine sp_boxa hs fun g w hs => ?_))
   | (with_reducible ((first | apply st_bin | apply st_ext | apply st_len | apply st_un | apply st_conv | apply st_mki | apply st_fld | apply st_cap | apply st_max | apply st_min | apply st_ixv | apply st_mkf); intro k' hk; simp [go_sem, thenR_ok, bin]; refine hk _ _ ?_; clear hk k'))
   | ((with_reducible (first | apply tk_bin | apply tk_ext | apply tk_len | apply tk_un)); (· intro w; simp [go_sem, bin]; rfl))
   | ((with_reducible apply sp_newr hs); (· kernel_rfl); intro g w hs))
  refine sp_setr hs .hd (by kernel_rfl) hcl hho fun w hs => ?_
  refine st_build (cells := (u8s zero32).toArray) (by kernel_rfl) ?_
  refine sp_newr hs (by kernel_rfl) fun g4 w hs => ?_
  refine sp_setr hs .hd (by kernel_rfl) z32 (u8s_one _) fun w hs => ?_
  repeat with_reducible refine mv.mk ?_
  have hfin : ∀ (bb : Bool) (w : World), okA x = bb → Isk.Sep b w (blkI g4 T.api_Hash (u8s zero32) :: blkI g T.api_Header (hcC x.header) :: (rngF g1 (0 + 165) (ccC x.last A2 c2)).it :: (rngF g1 0 (blokC (hcC x.header) (.slice A1 x.txs.length c1) (ccC x.last A2 c2))).it :: (blokF (blokC (hcC x.header) (.slice A1 x.txs.length c1) (ccC x.last A2 c2)) x).it :: (listF bytesF 1 (.slice A1 x.txs.length c1) x.txs).it :: (listF voteF 37 (.slice A2 x.last.votes.length c2) x.last.votes).it :: (commF (ccC x.last A2 c2) x.last).it :: (headF (hcC x.header) x.header).it :: L) →
      F.types_CheckBlock_r1 (fun r w' => Isk.Sep b w' ((errF r (checkBlock x)).it :: L)) (.pointer (some ⟨g1, 0, none⟩)) (.pointer (some ⟨g, 0, none⟩)) (.pointer (some ⟨g4, 0, none⟩)) (.func (.func N.types_CheckBlock_1) #[] #[]) (.bool bb) w := fun bb w hb hs => by
    have hs' := hs.perm (.cons _ (.cons _ (.cons _ (.cons _ (.swap _ _ _)))))
    refine cb_r1 bb hh hc ?_ ?_ hn hnm (checkBlock x) ?_ ?_ hs'
    · intro h
      rw [h] at hb
      simp [okA] at hb
      exact hb.2.1
    · repeat (first | exact hR | apply Ins.tl)
    · intro r w h
      exact h.sbl (.cons .hd (.drop (.drop (.drop (.drop .all)))))
    · rw [checkBlock, okT, hb]
  unfold hcC at hs hfin hcl hho
  repeat (first
   | (with_reducible refine head.a0 ?_)
   | ((with_reducible apply head.r0 hs); (· (with_reducible (repeat (first | exact .blk | exact .rng | apply Rng.tl)))))
   | (with_reducible refine head.c0 ?_)
   | ((with_reducible apply head.e0); (· first | exact hS | exact hid); (· (with_reducible (repeat (first | exact .blk | exact .rng | apply Rng.tl)))))
   | (with_reducible refine head.a1 ?_)
   | ((with_reducible apply head.r1 hs); (· (with_reducible (repeat (first | exact .blk | exact .rng | apply Rng.tl)))))
   | (with_reducible refine head.c1 ?_)
   | ((with_reducible apply head.e1); (· first | exact hS | exact hid); (· (with_reducible (repeat (first | exact .blk | exact .rng | apply Rng.tl)))))
   | (with_reducible refine head.a2 ?_)
   | ((with_reducible apply head.r2 hs); (· (with_reducible (repeat (first | exact .blk | exact .rng | apply Rng.tl)))))
   | (with_reducible refine head.c2 ?_)
   | ((with_reducible apply head.e2); (· first | exact hS | exact hid); (· (with_reducible (repeat (first | exact .blk | exact .rng | apply Rng.tl)))))
   | (with_reducible refine head.a3 ?_)
   | ((with_reducible apply head.r3 hs); (· (with_reducible (repeat (first | exact .blk | exact .rng | apply Rng.tl)))); (· (with_reducible (first | assumption | exact z32 | exact u8s_len (by assumption)))))
   | (with_reducible refine head.c3 ?_)
   | ((with_reducible apply head.e3); (· first | exact hS | exact hid); (· (with_reducible (repeat (first | exact .blk | exact .rng | apply Rng.tl)))); (· (with_reducible (first | assumption | exact z32 | exact u8s_len (by assumption)))))
   | (with_reducible refine head.a4 ?_)
   | ((with_reducible apply head.r4 hs); (· (with_reducible (repeat (first | exact .blk | exact .rng | apply Rng.tl)))); (repeat (· (with_reducible (first | assumption | exact z32 | exact u8s_len (by assumption))))))
   | (with_reducible refine head.c4 ?_)
   | ((with_reducible apply head.e4); (· first | exact hS | exact hid); (· (with_reducible (repeat (first | exact .blk | exact .rng | apply Rng.tl)))); (repeat (· (with_reducible (first | assumption | exact z32 | exact u8s_len (by assumption))))))
   | (with_reducible refine head.a5 ?_)
   | ((with_reducible apply head.r5 hs); (· (with_reducible (repeat (first | exact .blk | exact .rng | apply Rng.tl)))); (repeat (· (with_reducible (first | assumption | exact z32 | exact u8s_len (by assumption))))))
   | (with_reducible refine head.c5 ?_)
   | ((with_reducible apply head.e5); (· first | exact hS | exact hid); (· (with_reducible (repeat (first | exact .blk | exact .rng | apply Rng.tl)))); (repeat (· (with_reducible (first | assumption | exact z32 | exact u8s_len (by assumption))))))
   | (with_reducible refine head.a6 ?_)
   | ((with_reducible apply head.r6 hs); (· (with_reducible (repeat (first | exact .blk | exact .rng | apply Rng.tl)))); (repeat (· (with_reducible (first | assumption | exact z32 | exact u8s_len (by assumption))))))
   | (with_reducible refine head.c6 ?_)
   | ((with_reducible apply head.e6); (· first | exact hS | exact hid); (· (with_reducible (repeat (first | exact .blk | exact .rng | apply Rng.tl)))); (repeat (· (with_reducible (first | assumption | exact z32 | exact u8s_len (by assumption))))))
   | (with_reducible refine head.a7 ?_)
   | ((with_reducible apply head.r7 hs); (· (with_reducible (repeat (first | exact .blk | exact .rng | apply Rng.tl)))); (repeat (· (with_reducible (first | assumption | exact z32 | exact u8s_len (by assumption))))))
   | (with_reducible refine head.c7 ?_)
   | ((with_reducible apply head.e7); (· first | exact hS | exact hid); (· (with_reducible (repeat (first | exact .blk | exact .rng | apply Rng.tl)))); (repeat (· (with_reducible (first | assumption | exact z32 | exact u8s_len (by assumption))))))
   | (with_reducible refine head.a8 ?_)
   | ((with_reducible apply head.r8 hs); (· (with_reducible (repeat (first | exact .blk | exact .rng | apply Rng.tl)))); (repeat (· (with_reducible (first | assumption | exact z32 | exact u8s_len (by assumption))))))
   | (with_reducible refine head.c8 ?_)
   | ((with_reducible apply head.e8); (· first | exact hS | exact hid); (· (with_reducible (repeat (first | exact .blk | exact .rng | apply Rng.tl)))); (repeat (· (with_reducible (first | assumption | exact z32 | exact u8s_len (by assumption))))))
   | (with_reducible (first | refine st_lens ?_ | refine st_eqls ?_ | refine st_nels ?_ | refine tk_eqls ?_ | refine tk_nels ?_ | refine mv.mk ?_ | refine nk_p ?_ | refine gdT_i ?_ | refine gdT_ft ?_ | refine gdT_tf ?_ | refine gdT_u ?_ | refine gd_u ?_ | refine gd_ft ?_ | refine gd_tf ?_ | refine gd_i ?_ | refine pk_t ?_ | refine pk_f ?_ | refine br_t ?_ | refine br_f ?_ | refine sp_boxa hs fun g w hs => ?_))
   | (with_reducible ((first | apply st_bin | apply st_ext | apply st_len | apply st_un | apply st_conv | apply st_mki | apply st_fld | apply st_cap | apply st_max | apply st_min | apply st_ixv | apply st_mkf); intro k' hk; simp [go_sem, thenR_ok, bin]; refine hk _ _ ?_; clear hk k'))
   | ((with_reducible (first | apply tk_bin | apply tk_ext | apply tk_len | apply tk_un)); (· intro w; simp [go_sem, bin]; rfl))
   | ((with_reducible apply sp_newr hs); (· kernel_rfl); intro g w hs))
  refine cl (types_named hs hch) ?_
  rintro _ w ⟨rfl, hs⟩
  cases c0 : namedB x.header.chain with
  | false =>
    repeat (first
     | (with_reducible (first | refine st_lens ?_ | refine st_eqls ?_ | refine st_nels ?_ | refine tk_eqls ?_ | refine tk_nels ?_ | refine mv.mk ?_ | refine nk_p ?_ | refine gdT_i ?_ | refine gdT_ft ?_ | refine gdT_tf ?_ | refine gdT_u ?_ | refine gd_u ?_ | refine gd_ft ?_ | refine gd_tf ?_ | refine gd_i ?_ | refine pk_t ?_ | refine pk_f ?_ | refine br_t ?_ | refine br_f ?_ | refine sp_boxa hs fun g w hs => ?_))
     | (with_reducible ((first | apply st_bin | apply st_ext | apply st_len | apply st_un | apply st_conv | apply st_mki | apply st_fld | apply st_cap | apply st_max | apply st_min | apply st_ixv | apply st_mkf); intro k' hk; simp [go_sem, thenR_ok, bin]; refine hk _ _ ?_; clear hk k'))
     | ((with_reducible (first | apply tk_bin | apply tk_ext | apply tk_len | apply tk_un)); (· intro w; simp [go_sem, bin]; rfl))
     | ((with_reducible apply sp_newr hs); (· kernel_rfl); intro g w hs))
    exact hfin false _ (by simp [okA, c0]) hs
  | true =>
  repeat (first
   | (with_reducible refine head.a0 ?_)
   | ((with_reducible apply head.r0 hs); (· (with_reducible (repeat (first | exact .blk | exact .rng | apply Rng.tl)))))
   | (with_reducible refine head.c0 ?_)
   | ((with_reducible apply head.e0); (· first | exact hS | exact hid); (· (with_reducible (repeat (first | exact .blk | exact .rng | apply Rng.tl)))))
   | (with_reducible refine head.a1 ?_)
   | ((with_reducible apply head.r1 hs); (· (with_reducible (repeat (first | exact .blk | exact .rng | apply Rng.tl)))))
   | (with_reducible refine head.c1 ?_)
   | ((with_reducible apply head.e1); (· first | exact hS | exact hid); (· (with_reducible (repeat (first | exact .blk | exact .rng | apply Rng.tl)))))
   | (with_reducible refine head.a2 ?_)
   | ((with_reducible apply head.r2 hs); (· (with_reducible (repeat (first | exact .blk | exact .rng | apply Rng.tl)))))
   | (with_reducible refine head.c2 ?_)
   | ((with_reducible apply head.e2); (· first | exact hS | exact hid); (· (with_reducible (repeat (first | exact .blk | exact .rng | apply Rng.tl)))))
   | (with_reducible refine head.a3 ?_)
   | ((with_reducible apply head.r3 hs); (· (with_reducible (repeat (first | exact .blk | exact .rng | apply Rng.tl)))); (· (with_reducible (first | assumption | exact z32 | exact u8s_len (by assumption)))))
   | (with_reducible refine head.c3 ?_)
   | ((with_reducible apply head.e3); (· first | exact hS | exact hid); (· (with_reducible (repeat (first | exact .blk | exact .rng | apply Rng.tl)))); (· (with_reducible (first | assumption | exact z32 | exact u8s_len (by assumption)))))
   | (with_reducible refine head.a4 ?_)
   | ((with_reducible apply head.r4 hs); (· (with_reducible (repeat (first | exact .blk | exact .rng | apply Rng.tl)))); (repeat (· (with_reducible (first | assumption | exact z32 | exact u8s_len (by assumption))))))
   | (with_reducible refine head.c4 ?_)
   | ((with_reducible apply head.e4); (· first | exact hS | exact hid); (· (with_reducible (repeat (first | exact .blk | exact .rng | apply Rng.tl)))); (repeat (· (with_reducible (first | assumption | exact z32 | exact u8s_len (by assumption))))))
   | (with_reducible refine head.a5 ?_)
   | ((with_reducible apply head.r5 hs); (· (with_reducible (repeat (first | exact .blk | exact .rng | apply Rng.tl)))); (repeat (· (with_reducible (first | assumption | exact z32 | exact u8s_len (by assumption))))))
   | (with_reducible refine head.c5 ?_)
   | ((with_reducible apply head.e5); (· first | exact hS | exact hid); (· (with_reducible (repeat (first | exact .blk | exact .rng | apply Rng.tl)))); (repeat (· (with_reducible (first | assumption | exact z32 | exact u8s_len (by assumption))))))
   | (with_reducible refine head.a6 ?_)
   | ((with_reducible apply head.r6 hs); (· (with_reducible (repeat (first | exact .blk | exact .rng | apply Rng.tl)))); (repeat (· (with_reducible (first | assumption | exact z32 | exact u8s_len (by assumption))))))
   | (with_reducible refine head.c6 ?_)
   | ((with_reducible apply head.e6); (· first | exact hS | exact hid); (· (with_reducible (repeat (first | exact .blk | exact .rng | apply Rng.tl)))); (repeat (· (with_reducible (first | assumption | exact z32 | exact u8s_len (by assumption))))))
   | (with_reducible refine head.a7 ?_)
   | ((with_reducible apply head.r7 hs); (· (with_reducible (repeat (first | exact .blk | exact .rng | apply Rng.tl)))); (repeat (· (with_reducible (first | assumption | exact z32 | exact u8s_len (by assumption))))))
   | (with_reducible refine head.c7 ?_)
   | ((with_reducible apply head.e7); (· first | exact hS | exact hid); (· (with_reducible (repeat (first | exact .blk | exact .rng | apply Rng.tl)))); (repeat (· (with_reducible (first | assumption | exact z32 | exact u8s_len (by assumption))))))
   | (with_reducible refine head.a8 ?_)
   | ((with_reducible apply head.r8 hs); (· (with_reducible (repeat (first | exact .blk | exact .rng | apply Rng.tl)))); (repeat (· (with_reducible (first | assumption | exact z32 | exact u8s_len (by assumption))))))
   | (with_reducible refine head.c8 ?_)
   | ((with_reducible apply head.e8); (· first | exact hS | exact hid); (· (with_reducible (repeat (first | exact .blk | exact .rng | apply Rng.tl)))); (repeat (· (with_reducible (first | assumption | exact z32 | exact u8s_len (by assumption))))))
   | (with_reducible (first | refine st_lens ?_ | refine st_eqls ?_ | refine st_nels ?_ | refine tk_eqls ?_ | refine tk_nels ?_ | refine mv.mk ?_ | refine nk_p ?_ | refine gdT_i ?_ | refine gdT_ft ?_ | refine gdT_tf ?_ | refine gdT_u ?_ | refine gd_u ?_ | refine gd_ft ?_ | refine gd_tf ?_ | refine gd_i ?_ | refine pk_t ?_ | refine pk_f ?_ | refine br_t ?_ | refine br_f ?_ | refine sp_boxa hs fun g w hs => ?_))
   | (with_reducible ((first | apply st_bin | apply st_ext | apply st_len | apply st_un | apply st_conv | apply st_mki | apply st_fld | apply st_cap | apply st_max | apply st_min | apply st_ixv | apply st_mkf); intro k' hk; simp [go_sem, thenR_ok, bin]; refine hk _ _ ?_; clear hk k'))
   | ((with_reducible (first | apply tk_bin | apply tk_ext | apply tk_len | apply tk_un)); (· intro w; simp [go_sem, bin]; rfl))
   | ((with_reducible apply sp_newr hs); (· kernel_rfl); intro g w hs))
  by_cases c1 : 1 ≤ x.header.height
  rotate_left
  · rw [decide_eq_false c1]
    repeat (first
     | (with_reducible (first | refine st_lens ?_ | refine st_eqls ?_ | refine st_nels ?_ | refine tk_eqls ?_ | refine tk_nels ?_ | refine mv.mk ?_ | refine nk_p ?_ | refine gdT_i ?_ | refine gdT_ft ?_ | refine gdT_tf ?_ | refine gdT_u ?_ | refine gd_u ?_ | refine gd_ft ?_ | refine gd_tf ?_ | refine gd_i ?_ | refine pk_t ?_ | refine pk_f ?_ | refine br_t ?_ | refine br_f ?_ | refine sp_boxa hs fun g w hs => ?_))
     | (with_reducible ((first | apply st_bin | apply st_ext | apply st_len | apply st_un | apply st_conv | apply st_mki | apply st_fld | apply st_cap | apply st_max | apply st_min | apply st_ixv | apply st_mkf); intro k' hk; simp [go_sem, thenR_ok, bin]; refine hk _ _ ?_; clear hk k'))
     | ((with_reducible (first | apply tk_bin | apply tk_ext | apply tk_len | apply tk_un)); (· intro w; simp [go_sem, bin]; rfl))
     | ((with_reducible apply sp_newr hs); (· kernel_rfl); intro g w hs))
    exact hfin false _ (by simp [okA, c0, c1]) hs
  rw [decide_eq_true c1]
  repeat (first
   | (with_reducible refine head.a0 ?_)
   | ((with_reducible apply head.r0 hs); (· (with_reducible (repeat (first | exact .blk | exact .rng | apply Rng.tl)))))
   | (with_reducible refine head.c0 ?_)
   | ((with_reducible apply head.e0); (· first | exact hS | exact hid); (· (with_reducible (repeat (first | exact .blk | exact .rng | apply Rng.tl)))))
   | (with_reducible refine head.a1 ?_)
   | ((with_reducible apply head.r1 hs); (· (with_reducible (repeat (first | exact .blk | exact .rng | apply Rng.tl)))))
   | (with_reducible refine head.c1 ?_)
   | ((with_reducible apply head.e1); (· first | exact hS | exact hid); (· (with_reducible (repeat (first | exact .blk | exact .rng | apply Rng.tl)))))
   | (with_reducible refine head.a2 ?_)
   | ((with_reducible apply head.r2 hs); (· (with_reducible (repeat (first | exact .blk | exact .rng | apply Rng.tl)))))
   | (with_reducible refine head.c2 ?_)
   | ((with_reducible apply head.e2); (· first | exact hS | exact hid); (· (with_reducible (repeat (first | exact .blk | exact .rng | apply Rng.tl)))))
   | (with_reducible refine head.a3 ?_)
   | ((with_reducible apply head.r3 hs); (· (with_reducible (repeat (first | exact .blk | exact .rng | apply Rng.tl)))); (· (with_reducible (first | assumption | exact z32 | exact u8s_len (by assumption)))))
   | (with_reducible refine head.c3 ?_)
   | ((with_reducible apply head.e3); (· first | exact hS | exact hid); (· (with_reducible (repeat (first | exact .blk | exact .rng | apply Rng.tl)))); (· (with_reducible (first | assumption | exact z32 | exact u8s_len (by assumption)))))
   | (with_reducible refine head.a4 ?_)
   | ((with_reducible apply head.r4 hs); (· (with_reducible (repeat (first | exact .blk | exact .rng | apply Rng.tl)))); (repeat (· (with_reducible (first | assumption | exact z32 | exact u8s_len (by assumption))))))
   | (with_reducible refine head.c4 ?_)
   | ((with_reducible apply head.e4); (· first | exact hS | exact hid); (· (with_reducible (repeat (first | exact .blk | exact .rng | apply Rng.tl)))); (repeat (· (with_reducible (first | assumption | exact z32 | exact u8s_len (by assumption))))))
   | (with_reducible refine head.a5 ?_)
   | ((with_reducible apply head.r5 hs); (· (with_reducible (repeat (first | exact .blk | exact .rng | apply Rng.tl)))); (repeat (· (with_reducible (first | assumption | exact z32 | exact u8s_len (by assumption))))))
   | (with_reducible refine head.c5 ?_)
   | ((with_reducible apply head.e5); (· first | exact hS | exact hid); (· (with_reducible (repeat (first | exact .blk | exact .rng | apply Rng.tl)))); (repeat (· (with_reducible (first | assumption | exact z32 | exact u8s_len (by assumption))))))
   | (with_reducible refine head.a6 ?_)
   | ((with_reducible apply head.r6 hs); (· (with_reducible (repeat (first | exact .blk | exact .rng | apply Rng.tl)))); (repeat (· (with_reducible (first | assumption | exact z32 | exact u8s_len (by assumption))))))
   | (with_reducible refine head.c6 ?_)
   | ((with_reducible apply head.e6); (· first | exact hS | exact hid); (· (with_reducible (repeat (first | exact .blk | exact .rng | apply Rng.tl)))); (repeat (· (with_reducible (first | assumption | exact z32 | exact u8s_len (by assumption))))))
   | (with_reducible refine head.a7 ?_)
   | ((with_reducible apply head.r7 hs); (· (with_reducible (repeat (first | exact .blk | exact .rng | apply Rng.tl)))); (repeat (· (with_reducible (first | assumption | exact z32 | exact u8s_len (by assumption))))))
   | (with_reducible refine head.c7 ?_)
   | ((with_reducible apply head.e7); (· first | exact hS | exact hid); (· (with_reducible (repeat (first | exact .blk | exact .rng | apply Rng.tl)))); (repeat (· (with_reducible (first | assumption | exact z32 | exact u8s_len (by assumption))))))
   | (with_reducible refine head.a8 ?_)
   | ((with_reducible apply head.r8 hs); (· (with_reducible (repeat (first | exact .blk | exact .rng | apply Rng.tl)))); (repeat (· (with_reducible (first | assumption | exact z32 | exact u8s_len (by assumption))))))
   | (with_reducible refine head.c8 ?_)
   | ((with_reducible apply head.e8); (· first | exact hS | exact hid); (· (with_reducible (repeat (first | exact .blk | exact .rng | apply Rng.tl)))); (repeat (· (with_reducible (first | assumption | exact z32 | exact u8s_len (by assumption))))))
   | (with_reducible (first | refine st_lens ?_ | refine st_eqls ?_ | refine st_nels ?_ | refine tk_eqls ?_ | refine tk_nels ?_ | refine mv.mk ?_ | refine nk_p ?_ | refine gdT_i ?_ | refine gdT_ft ?_ | refine gdT_tf ?_ | refine gdT_u ?_ | refine gd_u ?_ | refine gd_ft ?_ | refine gd_tf ?_ | refine gd_i ?_ | refine pk_t ?_ | refine pk_f ?_ | refine br_t ?_ | refine br_f ?_ | refine sp_boxa hs fun g w hs => ?_))
   | (with_reducible ((first | apply st_bin | apply st_ext | apply st_len | apply st_un | apply st_conv | apply st_mki | apply st_fld | apply st_cap | apply st_max | apply st_min | apply st_ixv | apply st_mkf); intro k' hk; simp [go_sem, thenR_ok, bin]; refine hk _ _ ?_; clear hk k'))
   | ((with_reducible (first | apply tk_bin | apply tk_ext | apply tk_len | apply tk_un)); (· intro w; simp [go_sem, bin]; rfl))
   | ((with_reducible apply sp_newr hs); (· kernel_rfl); intro g w hs))
  by_cases c2 : x.header.height ≤ 1099511627776
  rotate_left
  · rw [decide_eq_false c2]
    repeat (first
     | (with_reducible (first | refine st_lens ?_ | refine st_eqls ?_ | refine st_nels ?_ | refine tk_eqls ?_ | refine tk_nels ?_ | refine mv.mk ?_ | refine nk_p ?_ | refine gdT_i ?_ | refine gdT_ft ?_ | refine gdT_tf ?_ | refine gdT_u ?_ | refine gd_u ?_ | refine gd_ft ?_ | refine gd_tf ?_ | refine gd_i ?_ | refine pk_t ?_ | refine pk_f ?_ | refine br_t ?_ | refine br_f ?_ | refine sp_boxa hs fun g w hs => ?_))
     | (with_reducible ((first | apply st_bin | apply st_ext | apply st_len | apply st_un | apply st_conv | apply st_mki | apply st_fld | apply st_cap | apply st_max | apply st_min | apply st_ixv | apply st_mkf); intro k' hk; simp [go_sem, thenR_ok, bin]; refine hk _ _ ?_; clear hk k'))
     | ((with_reducible (first | apply tk_bin | apply tk_ext | apply tk_len | apply tk_un)); (· intro w; simp [go_sem, bin]; rfl))
     | ((with_reducible apply sp_newr hs); (· kernel_rfl); intro g w hs))
    exact hfin false _ (by simp [okA, c0, c1, c2]) hs
  rw [decide_eq_true c2]
  repeat (first
   | (with_reducible refine head.a0 ?_)
   | ((with_reducible apply head.r0 hs); (· (with_reducible (repeat (first | exact .blk | exact .rng | apply Rng.tl)))))
   | (with_reducible refine head.c0 ?_)
   | ((with_reducible apply head.e0); (· first | exact hS | exact hid); (· (with_reducible (repeat (first | exact .blk | exact .rng | apply Rng.tl)))))
   | (with_reducible refine head.a1 ?_)
   | ((with_reducible apply head.r1 hs); (· (with_reducible (repeat (first | exact .blk | exact .rng | apply Rng.tl)))))
   | (with_reducible refine head.c1 ?_)
   | ((with_reducible apply head.e1); (· first | exact hS | exact hid); (· (with_reducible (repeat (first | exact .blk | exact .rng | apply Rng.tl)))))
   | (with_reducible refine head.a2 ?_)
   | ((with_reducible apply head.r2 hs); (· (with_reducible (repeat (first | exact .blk | exact .rng | apply Rng.tl)))))
   | (with_reducible refine head.c2 ?_)
   | ((with_reducible apply head.e2); (· first | exact hS | exact hid); (· (with_reducible (repeat (first | exact .blk | exact .rng | apply Rng.tl)))))
   | (with_reducible refine head.a3 ?_)
   | ((with_reducible apply head.r3 hs); (· (with_reducible (repeat (first | exact .blk | exact .rng | apply Rng.tl)))); (· (with_reducible (first | assumption | exact z32 | exact u8s_len (by assumption)))))
   | (with_reducible refine head.c3 ?_)
   | ((with_reducible apply head.e3); (· first | exact hS | exact hid); (· (with_reducible (repeat (first | exact .blk | exact .rng | apply Rng.tl)))); (· (with_reducible (first | assumption | exact z32 | exact u8s_len (by assumption)))))
   | (with_reducible refine head.a4 ?_)
   | ((with_reducible apply head.r4 hs); (· (with_reducible (repeat (first | exact .blk | exact .rng | apply Rng.tl)))); (repeat (· (with_reducible (first | assumption | exact z32 | exact u8s_len (by assumption))))))
   | (with_reducible refine head.c4 ?_)
   | ((with_reducible apply head.e4); (· first | exact hS | exact hid); (· (with_reducible (repeat (first | exact .blk | exact .rng | apply Rng.tl)))); (repeat (· (with_reducible (first | assumption | exact z32 | exact u8s_len (by assumption))))))
   | (with_reducible refine head.a5 ?_)
   | ((with_reducible apply head.r5 hs); (· (with_reducible (repeat (first | exact .blk | exact .rng | apply Rng.tl)))); (repeat (· (with_reducible (first | assumption | exact z32 | exact u8s_len (by assumption))))))
   | (with_reducible refine head.c5 ?_)
   | ((with_reducible apply head.e5); (· first | exact hS | exact hid); (· (with_reducible (repeat (first | exact .blk | exact .rng | apply Rng.tl)))); (repeat (· (with_reducible (first | assumption | exact z32 | exact u8s_len (by assumption))))))
   | (with_reducible refine head.a6 ?_)
   | ((with_reducible apply head.r6 hs); (· (with_reducible (repeat (first | exact .blk | exact .rng | apply Rng.tl)))); (repeat (· (with_reducible (first | assumption | exact z32 | exact u8s_len (by assumption))))))
   | (with_reducible refine head.c6 ?_)
   | ((with_reducible apply head.e6); (· first | exact hS | exact hid); (· (with_reducible (repeat (first | exact .blk | exact .rng | apply Rng.tl)))); (repeat (· (with_reducible (first | assumption | exact z32 | exact u8s_len (by assumption))))))
   | (with_reducible refine head.a7 ?_)
   | ((with_reducible apply head.r7 hs); (· (with_reducible (repeat (first | exact .blk | exact .rng | apply Rng.tl)))); (repeat (· (with_reducible (first | assumption | exact z32 | exact u8s_len (by assumption))))))
   | (with_reducible refine head.c7 ?_)
   | ((with_reducible apply head.e7); (· first | exact hS | exact hid); (· (with_reducible (repeat (first | exact .blk | exact .rng | apply Rng.tl)))); (repeat (· (with_reducible (first | assumption | exact z32 | exact u8s_len (by assumption))))))
   | (with_reducible refine head.a8 ?_)
   | ((with_reducible apply head.r8 hs); (· (with_reducible (repeat (first | exact .blk | exact .rng | apply Rng.tl)))); (repeat (· (with_reducible (first | assumption | exact z32 | exact u8s_len (by assumption))))))
   | (with_reducible refine head.c8 ?_)
   | ((with_reducible apply head.e8); (· first | exact hS | exact hid); (· (with_reducible (repeat (first | exact .blk | exact .rng | apply Rng.tl)))); (repeat (· (with_reducible (first | assumption | exact z32 | exact u8s_len (by assumption))))))
   | (with_reducible (first | refine st_lens ?_ | refine st_eqls ?_ | refine st_nels ?_ | refine tk_eqls ?_ | refine tk_nels ?_ | refine mv.mk ?_ | refine nk_p ?_ | refine gdT_i ?_ | refine gdT_ft ?_ | refine gdT_tf ?_ | refine gdT_u ?_ | refine gd_u ?_ | refine gd_ft ?_ | refine gd_tf ?_ | refine gd_i ?_ | refine pk_t ?_ | refine pk_f ?_ | refine br_t ?_ | refine br_f ?_ | refine sp_boxa hs fun g w hs => ?_))
   | (with_reducible ((first | apply st_bin | apply st_ext | apply st_len | apply st_un | apply st_conv | apply st_mki | apply st_fld | apply st_cap | apply st_max | apply st_min | apply st_ixv | apply st_mkf); intro k' hk; simp [go_sem, thenR_ok, bin]; refine hk _ _ ?_; clear hk k'))
   | ((with_reducible (first | apply tk_bin | apply tk_ext | apply tk_len | apply tk_un)); (· intro w; simp [go_sem, bin]; rfl))
   | ((with_reducible apply sp_newr hs); (· kernel_rfl); intro g w hs))
  by_cases c3 : 0 ≤ x.header.time
  rotate_left
  · rw [decide_eq_false c3]
    repeat (first
     | (with_reducible (first | refine st_lens ?_ | refine st_eqls ?_ | refine st_nels ?_ | refine tk_eqls ?_ | refine tk_nels ?_ | refine mv.mk ?_ | refine nk_p ?_ | refine gdT_i ?_ | refine gdT_ft ?_ | refine gdT_tf ?_ | refine gdT_u ?_ | refine gd_u ?_ | refine gd_ft ?_ | refine gd_tf ?_ | refine gd_i ?_ | refine pk_t ?_ | refine pk_f ?_ | refine br_t ?_ | refine br_f ?_ | refine sp_boxa hs fun g w hs => ?_))
     | (with_reducible ((first | apply st_bin | apply st_ext | apply st_len | apply st_un | apply st_conv | apply st_mki | apply st_fld | apply st_cap | apply st_max | apply st_min | apply st_ixv | apply st_mkf); intro k' hk; simp [go_sem, thenR_ok, bin]; refine hk _ _ ?_; clear hk k'))
     | ((with_reducible (first | apply tk_bin | apply tk_ext | apply tk_len | apply tk_un)); (· intro w; simp [go_sem, bin]; rfl))
     | ((with_reducible apply sp_newr hs); (· kernel_rfl); intro g w hs))
    exact hfin false _ (by simp [okA, c0, c1, c2, c3]) hs
  rw [decide_eq_true c3]
  repeat (first
   | (with_reducible refine head.a0 ?_)
   | ((with_reducible apply head.r0 hs); (· (with_reducible (repeat (first | exact .blk | exact .rng | apply Rng.tl)))))
   | (with_reducible refine head.c0 ?_)
   | ((with_reducible apply head.e0); (· first | exact hS | exact hid); (· (with_reducible (repeat (first | exact .blk | exact .rng | apply Rng.tl)))))
   | (with_reducible refine head.a1 ?_)
   | ((with_reducible apply head.r1 hs); (· (with_reducible (repeat (first | exact .blk | exact .rng | apply Rng.tl)))))
   | (with_reducible refine head.c1 ?_)
   | ((with_reducible apply head.e1); (· first | exact hS | exact hid); (· (with_reducible (repeat (first | exact .blk | exact .rng | apply Rng.tl)))))
   | (with_reducible refine head.a2 ?_)
   | ((with_reducible apply head.r2 hs); (· (with_reducible (repeat (first | exact .blk | exact .rng | apply Rng.tl)))))
   | (with_reducible refine head.c2 ?_)
   | ((with_reducible apply head.e2); (· first | exact hS | exact hid); (· (with_reducible (repeat (first | exact .blk | exact .rng | apply Rng.tl)))))
   | (with_reducible refine head.a3 ?_)
   | ((with_reducible apply head.r3 hs); (· (with_reducible (repeat (first | exact .blk | exact .rng | apply Rng.tl)))); (· (with_reducible (first | assumption | exact z32 | exact u8s_len (by assumption)))))
   | (with_reducible refine head.c3 ?_)
   | ((with_reducible apply head.e3); (· first | exact hS | exact hid); (· (with_reducible (repeat (first | exact .blk | exact .rng | apply Rng.tl)))); (· (with_reducible (first | assumption | exact z32 | exact u8s_len (by assumption)))))
   | (with_reducible refine head.a4 ?_)
   | ((with_reducible apply head.r4 hs); (· (with_reducible (repeat (first | exact .blk | exact .rng | apply Rng.tl)))); (repeat (· (with_reducible (first | assumption | exact z32 | exact u8s_len (by assumption))))))
   | (with_reducible refine head.c4 ?_)
   | ((with_reducible apply head.e4); (· first | exact hS | exact hid); (· (with_reducible (repeat (first | exact .blk | exact .rng | apply Rng.tl)))); (repeat (· (with_reducible (first | assumption | exact z32 | exact u8s_len (by assumption))))))
   | (with_reducible refine head.a5 ?_)
   | ((with_reducible apply head.r5 hs); (· (with_reducible (repeat (first | exact .blk | exact .rng | apply Rng.tl)))); (repeat (· (with_reducible (first | assumption | exact z32 | exact u8s_len (by assumption))))))
   | (with_reducible refine head.c5 ?_)
   | ((with_reducible apply head.e5); (· first | exact hS | exact hid); (· (with_reducible (repeat (first | exact .blk | exact .rng | apply Rng.tl)))); (repeat (· (with_reducible (first | assumption | exact z32 | exact u8s_len (by assumption))))))
   | (with_reducible refine head.a6 ?_)
   | ((with_reducible apply head.r6 hs); (· (with_reducible (repeat (first | exact .blk | exact .rng | apply Rng.tl)))); (repeat (· (with_reducible (first | assumption | exact z32 | exact u8s_len (by assumption))))))
   | (with_reducible refine head.c6 ?_)
   | ((with_reducible apply head.e6); (· first | exact hS | exact hid); (· (with_reducible (repeat (first | exact .blk | exact .rng | apply Rng.tl)))); (repeat (· (with_reducible (first | assumption | exact z32 | exact u8s_len (by assumption))))))
   | (with_reducible refine head.a7 ?_)
   | ((with_reducible apply head.r7 hs); (· (with_reducible (repeat (first | exact .blk | exact .rng | apply Rng.tl)))); (repeat (· (with_reducible (first | assumption | exact z32 | exact u8s_len (by assumption))))))
   | (with_reducible refine head.c7 ?_)
   | ((with_reducible apply head.e7); (· first | exact hS | exact hid); (· (with_reducible (repeat (first | exact .blk | exact .rng | apply Rng.tl)))); (repeat (· (with_reducible (first | assumption | exact z32 | exact u8s_len (by assumption))))))
   | (with_reducible refine head.a8 ?_)
   | ((with_reducible apply head.r8 hs); (· (with_reducible (repeat (first | exact .blk | exact .rng | apply Rng.tl)))); (repeat (· (with_reducible (first | assumption | exact z32 | exact u8s_len (by assumption))))))
   | (with_reducible refine head.c8 ?_)
   | ((with_reducible apply head.e8); (· first | exact hS | exact hid); (· (with_reducible (repeat (first | exact .blk | exact .rng | apply Rng.tl)))); (repeat (· (with_reducible (first | assumption | exact z32 | exact u8s_len (by assumption))))))
   | (with_reducible (first | refine st_lens ?_ | refine st_eqls ?_ | refine st_nels ?_ | refine tk_eqls ?_ | refine tk_nels ?_ | refine mv.mk ?_ | refine nk_p ?_ | refine gdT_i ?_ | refine gdT_ft ?_ | refine gdT_tf ?_ | refine gdT_u ?_ | refine gd_u ?_ | refine gd_ft ?_ | refine gd_tf ?_ | refine gd_i ?_ | refine pk_t ?_ | refine pk_f ?_ | refine br_t ?_ | refine br_f ?_ | refine sp_boxa hs fun g w hs => ?_))
   | (with_reducible ((first | apply st_bin | apply st_ext | apply st_len | apply st_un | apply st_conv | apply st_mki | apply st_fld | apply st_cap | apply st_max | apply st_min | apply st_ixv | apply st_mkf); intro k' hk; simp [go_sem, thenR_ok, bin]; refine hk _ _ ?_; clear hk k'))
   | ((with_reducible (first | apply tk_bin | apply tk_ext | apply tk_len | apply tk_un)); (· intro w; simp [go_sem, bin]; rfl))
   | ((with_reducible apply sp_newr hs); (· kernel_rfl); intro g w hs))
  by_cases c4 : x.header.time ≤ 1099511627776
  rotate_left
  · rw [decide_eq_false c4]
    repeat (first
     | (with_reducible (first | refine st_lens ?_ | refine st_eqls ?_ | refine st_nels ?_ | refine tk_eqls ?_ | refine tk_nels ?_ | refine mv.mk ?_ | refine nk_p ?_ | refine gdT_i ?_ | refine gdT_ft ?_ | refine gdT_tf ?_ | refine gdT_u ?_ | refine gd_u ?_ | refine gd_ft ?_ | refine gd_tf ?_ | refine gd_i ?_ | refine pk_t ?_ | refine pk_f ?_ | refine br_t ?_ | refine br_f ?_ | refine sp_boxa hs fun g w hs => ?_))
     | (with_reducible ((first | apply st_bin | apply st_ext | apply st_len | apply st_un | apply st_conv | apply st_mki | apply st_fld | apply st_cap | apply st_max | apply st_min | apply st_ixv | apply st_mkf); intro k' hk; simp [go_sem, thenR_ok, bin]; refine hk _ _ ?_; clear hk k'))
     | ((with_reducible (first | apply tk_bin | apply tk_ext | apply tk_len | apply tk_un)); (· intro w; simp [go_sem, bin]; rfl))
     | ((with_reducible apply sp_newr hs); (· kernel_rfl); intro g w hs))
    exact hfin false _ (by simp [okA, c0, c1, c2, c3, c4]) hs
  rw [decide_eq_true c4]
  repeat (first
   | (with_reducible refine head.a0 ?_)
   | ((with_reducible apply head.r0 hs); (· (with_reducible (repeat (first | exact .blk | exact .rng | apply Rng.tl)))))
   | (with_reducible refine head.c0 ?_)
   | ((with_reducible apply head.e0); (· first | exact hS | exact hid); (· (with_reducible (repeat (first | exact .blk | exact .rng | apply Rng.tl)))))
   | (with_reducible refine head.a1 ?_)
   | ((with_reducible apply head.r1 hs); (· (with_reducible (repeat (first | exact .blk | exact .rng | apply Rng.tl)))))
   | (with_reducible refine head.c1 ?_)
   | ((with_reducible apply head.e1); (· first | exact hS | exact hid); (· (with_reducible (repeat (first | exact .blk | exact .rng | apply Rng.tl)))))
   | (with_reducible refine head.a2 ?_)
   | ((with_reducible apply head.r2 hs); (· (with_reducible (repeat (first | exact .blk | exact .rng | apply Rng.tl)))))
   | (with_reducible refine head.c2 ?_)
   | ((with_reducible apply head.e2); (· first | exact hS | exact hid); (· (with_reducible (repeat (first | exact .blk | exact .rng | apply Rng.tl)))))
   | (with_reducible refine head.a3 ?_)
   | ((with_reducible apply head.r3 hs); (· (with_reducible (repeat (first | exact .blk | exact .rng | apply Rng.tl)))); (· (with_reducible (first | assumption | exact z32 | exact u8s_len (by assumption)))))
   | (with_reducible refine head.c3 ?_)
   | ((with_reducible apply head.e3); (· first | exact hS | exact hid); (· (with_reducible (repeat (first | exact .blk | exact .rng | apply Rng.tl)))); (· (with_reducible (first | assumption | exact z32 | exact u8s_len (by assumption)))))
   | (with_reducible refine head.a4 ?_)
   | ((with_reducible apply head.r4 hs); (· (with_reducible (repeat (first | exact .blk | exact .rng | apply Rng.tl)))); (repeat (· (with_reducible (first | assumption | exact z32 | exact u8s_len (by assumption))))))
   | (with_reducible refine head.c4 ?_)
   | ((with_reducible apply head.e4); (· first | exact hS | exact hid); (· (with_reducible (repeat (first | exact .blk | exact .rng | apply Rng.tl)))); (repeat (· (with_reducible (first | assumption | exact z32 | exact u8s_len (by assumption))))))
   | (with_reducible refine head.a5 ?_)
   | ((with_reducible apply head.r5 hs); (· (with_reducible (repeat (first | exact .blk | exact .rng | apply Rng.tl)))); (repeat (· (with_reducible (first | assumption | exact z32 | exact u8s_len (by assumption))))))
   | (with_reducible refine head.c5 ?_)
   | ((with_reducible apply head.e5); (· first | exact hS | exact hid); (· (with_reducible (repeat (first | exact .blk | exact .rng | apply Rng.tl)))); (repeat (· (with_reducible (first | assumption | exact z32 | exact u8s_len (by assumption))))))
   | (with_reducible refine head.a6 ?_)
   | ((with_reducible apply head.r6 hs); (· (with_reducible (repeat (first | exact .blk | exact .rng | apply Rng.tl)))); (repeat (· (with_reducible (first | assumption | exact z32 | exact u8s_len (by assumption))))))
   | (with_reducible refine head.c6 ?_)
   | ((with_reducible apply head.e6); (· first | exact hS | exact hid); (· (with_reducible (repeat (first | exact .blk | exact .rng | apply Rng.tl)))); (repeat (· (with_reducible (first | assumption | exact z32 | exact u8s_len (by assumption))))))
   | (with_reducible refine head.a7 ?_)
   | ((with_reducible apply head.r7 hs); (· (with_reducible (repeat (first | exact .blk | exact .rng | apply Rng.tl)))); (repeat (· (with_reducible (first | assumption | exact z32 | exact u8s_len (by assumption))))))
   | (with_reducible refine head.c7 ?_)
   | ((with_reducible apply head.e7); (· first | exact hS | exact hid); (· (with_reducible (repeat (first | exact .blk | exact .rng | apply Rng.tl)))); (repeat (· (with_reducible (first | assumption | exact z32 | exact u8s_len (by assumption))))))
   | (with_reducible refine head.a8 ?_)
   | ((with_reducible apply head.r8 hs); (· (with_reducible (repeat (first | exact .blk | exact .rng | apply Rng.tl)))); (repeat (· (with_reducible (first | assumption | exact z32 | exact u8s_len (by assumption))))))
   | (with_reducible refine head.c8 ?_)
   | ((with_reducible apply head.e8); (· first | exact hS | exact hid); (· (with_reducible (repeat (first | exact .blk | exact .rng | apply Rng.tl)))); (repeat (· (with_reducible (first | assumption | exact z32 | exact u8s_len (by assumption))))))
   | (with_reducible (first | refine st_lens ?_ | refine st_eqls ?_ | refine st_nels ?_ | refine tk_eqls ?_ | refine tk_nels ?_ | refine mv.mk ?_ | refine nk_p ?_ | refine gdT_i ?_ | refine gdT_ft ?_ | refine gdT_tf ?_ | refine gdT_u ?_ | refine gd_u ?_ | refine gd_ft ?_ | refine gd_tf ?_ | refine gd_i ?_ | refine pk_t ?_ | refine pk_f ?_ | refine br_t ?_ | refine br_f ?_ | refine sp_boxa hs fun g w hs => ?_))
   | (with_reducible ((first | apply st_bin | apply st_ext | apply st_len | apply st_un | apply st_conv | apply st_mki | apply st_fld | apply st_cap | apply st_max | apply st_min | apply st_ixv | apply st_mkf); intro k' hk; simp [go_sem, thenR_ok, bin]; refine hk _ _ ?_; clear hk k'))
   | ((with_reducible (first | apply tk_bin | apply tk_ext | apply tk_len | apply tk_un)); (· intro w; simp [go_sem, bin]; rfl))
   | ((with_reducible apply sp_newr hs); (· kernel_rfl); intro g w hs))
  exact hfin (decide (0 ≤ x.header.proposer)) _ (by simp [okA, c0, c1, c2, c3, c4]) hs
end
end Go.Proofs.YtlfelmikcdmkhaaGreatDoor
