/- Things that lie in blocks that stay. -/
import Derived.Test.YtlfelmikcdmkhaaGreatDoorSL
import Derived.Test.YtlfelmikcdmkhaaGreatDoorTF
import Derived.Test.YtlfelmikcdmkhaaGreatDoorM3
import Derived.Test.YtlfelmikcdmkhaaGreatDoorRR
set_option linter.unusedVariables false
set_option linter.unusedSimpArgs false
set_option linter.unusedSectionVars false
namespace Go.Proofs.YtlfelmikcdmkhaaGreatDoor
open Go Go.Isk Go.RowKit
section
variable {S S' D : Nat → Prop} {w w' : World} {v : Value} {n sz : Nat} {xs cs : List Value} {b : Base} {L R : List It} {g : Nat} {sv : Value}
def VoteS (S : Nat → Prop) (w : World) (cs : List Value) (v : Vote) : Prop :=
  ∃ sv, cs = voteC (.int .i64 v.kind) (.int .i64 v.height) (.int .i64 v.round) (u8s v.block) (.int .i64 v.validator) sv ∧ v.ok ∧ SlS S w sv v.sign.length 1 (u8s v.sign)
theorem VoteS.keep {x : Vote} (h : VoteS S w cs x) (hu : Upd D w w') (hd : ∀ k, S k → ¬ D k) : VoteS S w' cs x := by
  obtain ⟨sv, rfl, hok, h⟩ := h
  exact ⟨sv, rfl, hok, h.keep hu hd⟩
theorem VoteS.mono {x : Vote} (h : VoteS S w cs x) (hs : ∀ k, S k → k < w.heap.size → S' k) : VoteS S' w cs x := by
  obtain ⟨sv, rfl, hok, h⟩ := h
  exact ⟨sv, rfl, hok, h.mono hs⟩
theorem VoteS.is {x : Vote} (h : VoteS S w cs x) : VoteIs w.heap.size w cs x := by
  obtain ⟨sv, rfl, hok, h⟩ := h
  exact ⟨sv, rfl, hok, h.1.b⟩
def voteF : Fam Vote := fun cs v => ⟨fun S w => VoteS S w cs v, VoteS.keep, VoteS.mono⟩
def CommS (S : Nat → Prop) (w : World) (cs : List Value) (c : Commit) : Prop :=
  ∃ sv, cs = commC (.int .i64 c.height) (.int .i64 c.round) (u8s c.block) sv ∧ c.ok ∧ (listF voteF 37 sv c.votes).holds S w
theorem CommS.keep {x : Commit} (h : CommS S w cs x) (hu : Upd D w w') (hd : ∀ k, S k → ¬ D k) : CommS S w' cs x := by
  obtain ⟨sv, rfl, hok, h⟩ := h
  exact ⟨sv, rfl, hok, (listF voteF 37 sv _).keep h hu hd⟩
theorem CommS.mono {x : Commit} (h : CommS S w cs x) (hs : ∀ k, S k → k < w.heap.size → S' k) : CommS S' w cs x := by
  obtain ⟨sv, rfl, hok, h⟩ := h
  exact ⟨sv, rfl, hok, (listF voteF 37 sv _).mono h hs⟩
def commF : Fam Commit := fun cs c => ⟨fun S w => CommS S w cs c, CommS.keep, CommS.mono⟩
theorem listS_is {α : Type} {F : Fam α} {R : List Value → α → Prop} {ls : List α} (h : (listF F sz sv ls).holds S w) (hR : ∀ x a, (F x a).holds S w → R x a) : ListIs R w.heap.size w sv sz ls := by
  obtain ⟨xss, h1, h2, h3⟩ := h
  exact ⟨xss, h1.1, fun i hi x hx => hR _ _ (h1.2 i hi x hx), h2, h3.1.b⟩
theorem CommS.is {x : Commit} (h : CommS S w cs x) : CommIs w.heap.size w cs x := by
  obtain ⟨sv, rfl, hok, h⟩ := h
  exact ⟨sv, rfl, hok, listS_is h fun _ _ h => VoteS.is h⟩
def headF : Fam Header := fun cs h => pureF (HeadIs cs h)
def valiF : Fam Validator := fun cs v => pureF (ValiIs cs v)
def BlokS (S : Nat → Prop) (w : World) (cs : List Value) (b : Block) : Prop :=
  ∃ hc sv cc, cs = blokC hc sv cc ∧ HeadIs hc b.header ∧ (listF bytesF 1 sv b.txs).holds S w ∧ CommS S w cc b.last
theorem BlokS.keep {x : Block} (h : BlokS S w cs x) (hu : Upd D w w') (hd : ∀ k, S k → ¬ D k) : BlokS S w' cs x := by
  obtain ⟨hc, sv, cc, rfl, h1, h2, h3⟩ := h
  exact ⟨hc, sv, cc, rfl, h1, (listF bytesF 1 sv _).keep h2 hu hd, h3.keep hu hd⟩
theorem BlokS.mono {x : Block} (h : BlokS S w cs x) (hs : ∀ k, S k → k < w.heap.size → S' k) : BlokS S' w cs x := by
  obtain ⟨hc, sv, cc, rfl, h1, h2, h3⟩ := h
  exact ⟨hc, sv, cc, rfl, h1, (listF bytesF 1 sv _).mono h2 hs, h3.mono hs⟩
def blokF : Fam Block := fun cs c => ⟨fun S w => BlokS S w cs c, BlokS.keep, BlokS.mono⟩
theorem BlokS.is {x : Block} (h : BlokS S w cs x) : BlokIs w.heap.size w cs x := by
  obtain ⟨hc, sv, cc, rfl, h1, h2, h3⟩ := h
  refine ⟨hc, sv, cc, rfl, h1, listS_is h2 ?_, h3.is⟩
  rintro _ t ⟨x, rfl, h⟩
  exact ⟨x, rfl, h.1.b⟩
/-- the reader at block g -/
def rdI (g : Nat) (s : Rdr) : It := ⟨[g], fun S w => ∃ B, Rd B w g s ∧ ∀ k, B k → S k,
  fun ⟨B, h1, h2⟩ hu hd => ⟨B, h1.keep hu (hd g (.inl (by simp))) fun k hk => hd k (.inr (h2 k hk)), h2⟩,
  fun ⟨B, h1, h2⟩ hs => ⟨fun k => B k ∧ k < _, h1.mono (fun k hk hl => ⟨hk, hl⟩) fun q => h1.out q.1, fun k hk => hs k (h2 k hk.1) hk.2⟩⟩
variable {s : Rdr} {most : Nat}
/-- the cells of a reader of the document -/
def rdvF (cs : List Value) (s : Rdr) : Fact := ⟨fun S w => RdV S w cs s, RdV.keep, fun h hs => h.mono hs⟩
theorem rdvF.len {s : Rdr} {cs : List Value} (h : Sep b w L) (hm : Ins L (rdvF cs s).it) : cs.length = 2 ∧ ∀ u ∈ cs, u.oneCell' = true := by
  have : RdV _ _ _ _ := h.get hm
  exact ⟨this.len, this.one⟩
theorem valiF_ok : FamOk valiF 34 := ⟨fun (h : ValiIs _ _) => ⟨h.len, h.one⟩⟩
theorem blokF_ok : FamOk blokF 200 := ⟨fun {cs x S w} (h : BlokS _ _ _ _) => ⟨(BlokS.is h).len, by
  obtain ⟨hc, sv, cc, rfl, h1, h2, h3⟩ := h
  intro u hu
  simp only [blokC, List.mem_append, List.mem_cons, List.not_mem_nil, or_false] at hu
  rcases hu with hu | rfl | hu
  · exact h1.one u hu
  · obtain ⟨xss, _, _, q⟩ := h2; exact (sl_cells q.1).2
  · exact (CommS.is h3).one u hu⟩⟩
theorem st_lens {l : Bytes} {k : Value → World → Prop} (hk : k (.int .i64 l.length) w) : o1 Tryz.prog (Builtin.len_ #[T.string] T.int #[str l]) w k := by
  refine st1 fun k' hk' => ?_
  have e : (⟨l.toArray⟩ : ByteArray).size = l.length := by simp [ByteArray.size]
  simp [go_sem, thenR_ok, str, e]
  exact hk' _ _ hk
theorem st_eqls {x y : Operand} {a c : Bytes} {k : Value → World → Prop} (hk : k (.bool (decide (a = c))) w) : o1 Tryz.prog (bin .eql T.string x y (str a) (str c)) w k := by
  refine st1 fun k' hk' => ?_
  simp [go_sem, thenR_ok, str, bin]
  rw [show (a == c) = decide (a = c) by rw [Bool.eq_iff_iff]; simp]
  exact hk' _ _ hk
theorem eqls_run {x y : Operand} {a c : Bytes} (w : World) : (bin .eql T.string x y (str a) (str c)).run Tryz.prog w = .ok (.bool (decide (a = c))) w := by
  simp [go_sem, thenR_ok, str, bin]
  rw [Bool.eq_iff_iff]; simp
theorem nels_run {x y : Operand} {a c : Bytes} (w : World) : (bin .neq T.string x y (str a) (str c)).run Tryz.prog w = .ok (.bool (!decide (a = c))) w := by
  simp [go_sem, thenR_ok, str, bin]
  rw [Bool.eq_iff_iff]; simp
theorem st_nels {x y : Operand} {a c : Bytes} {k : Value → World → Prop} (hk : k (.bool (!decide (a = c))) w) : o1 Tryz.prog (bin .neq T.string x y (str a) (str c)) w k := st_of (nels_run w) hk
theorem tk_eqls {x y : Operand} {a c : Bytes} {k : Value → Prop} {S : World → Prop} (hk : k (.bool (decide (a = c)))) : tk Tryz.prog S (bin .eql T.string x y (str a) (str c)) k := tk_run eqls_run hk
theorem tk_nels {x y : Operand} {a c : Bytes} {k : Value → Prop} {S : World → Prop} (hk : k (.bool (!decide (a = c)))) : tk Tryz.prog S (bin .neq T.string x y (str a) (str c)) k := tk_run nels_run hk
theorem tk_text {l : Bytes} {k : Value → Prop} {S : World → Prop} (hS : ∀ w, S w → Mayr L w) (hr : Rds L v n 1 (u8s l)) (hk : k (str l)) : tk Tryz.prog S (convert T.sl_uint8 T.string v) k :=
  tk_of _ (fun w hw => text_run (E := T.uint8) (by kernel_rfl) (by kernel_rfl) (by kernel_rfl) ((hS w hw).reads hr)) hk
end
end Go.Proofs.YtlfelmikcdmkhaaGreatDoor
