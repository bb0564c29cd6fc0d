/- The document's SHA-256, walked. -/
import Derived.Test.YtbbmgkbinnomgaaGreatDoorSH
import Derived.Test.YtbbmgkbinnomgaaGreatDoorTF
set_option linter.unusedVariables false
set_option linter.unusedSimpArgs false
set_option linter.unusedSectionVars false
namespace Go.Proofs.YtbbmgkbinnomgaaGreatDoor
open Go Go.Isk Go.RowKit
set_option maxRecDepth 20000
section
variable {b : Base} {w : World} {L R : List It} {g : Nat} {v : Value} {cs : List Value}
theorem sx_ld {o p : Nat} {x : Value} {T : Nat} {k : Value → World → Prop} (hs : Sep b w L) (hr : Rng L g o cs) (ht : oneT Tryz.prog T = true) (hx : cs[p]? = some x) (hk : k x w) : o1 Tryz.prog (Instr.loadAt T (.pointer (some ⟨g, o + p, none⟩))) w k := sp_ld1 hs hr ht hx hk
end
end Go.Proofs.YtbbmgkbinnomgaaGreatDoor
set_option linter.unusedVariables false
set_option linter.unusedSimpArgs false
set_option linter.unusedSectionVars false
namespace Go.Isk
open Go Go.RowKit
/-- the greatest power of two below n (n above 1) -/
def halfN (n : Nat) : Nat := 2 ^ Nat.log2 (n - 1)
theorem halfN_pos (n : Nat) : 0 < halfN n := Nat.two_pow_pos _
theorem halfN_lt {n : Nat} (h : 2 ≤ n) : halfN n < n := by
  have := Nat.log2_self_le (n := n - 1) (by omega)
  unfold halfN; omega
def rootB (l : List Bytes) : Bytes :=
  if h0 : l.length = 0 then shaB [] else if h1 : l.length = 1 then l.getD 0 [] else nodeB (rootB (l.take (halfN l.length))) (rootB (l.drop (halfN l.length)))
termination_by l.length
decreasing_by
  · have := halfN_lt (n := l.length) (by omega); rw [List.length_take]; omega
  · have := halfN_pos l.length; rw [List.length_drop]; omega
def lenTab : Array UInt8 := #[0, 1, 2, 2, 3, 3, 3, 3, 4, 4, 4, 4, 4, 4, 4, 4, 5, 5, 5, 5, 5, 5, 5, 5, 5, 5, 5, 5, 5, 5, 5, 5, 6, 6, 6, 6, 6, 6, 6, 6, 6, 6, 6, 6, 6, 6, 6, 6, 6, 6, 6, 6, 6, 6, 6, 6, 6, 6, 6, 6, 6, 6, 6, 6, 7, 7, 7, 7, 7, 7, 7, 7, 7, 7, 7, 7, 7, 7, 7, 7, 7, 7, 7, 7, 7, 7, 7, 7, 7, 7, 7, 7, 7, 7, 7, 7, 7, 7, 7, 7, 7, 7, 7, 7, 7, 7, 7, 7, 7, 7, 7, 7, 7, 7, 7, 7, 7, 7, 7, 7, 7, 7, 7, 7, 7, 7, 7, 7, 8, 8, 8, 8, 8, 8, 8, 8, 8, 8, 8, 8, 8, 8, 8, 8, 8, 8, 8, 8, 8, 8, 8, 8, 8, 8, 8, 8, 8, 8, 8, 8, 8, 8, 8, 8, 8, 8, 8, 8, 8, 8, 8, 8, 8, 8, 8, 8, 8, 8, 8, 8, 8, 8, 8, 8, 8, 8, 8, 8, 8, 8, 8, 8, 8, 8, 8, 8, 8, 8, 8, 8, 8, 8, 8, 8, 8, 8, 8, 8, 8, 8, 8, 8, 8, 8, 8, 8, 8, 8, 8, 8, 8, 8, 8, 8, 8, 8, 8, 8, 8, 8, 8, 8, 8, 8, 8, 8, 8, 8, 8, 8, 8, 8, 8, 8, 8, 8, 8, 8, 8, 8, 8, 8, 8, 8, 8, 8]
def lenN (n : Nat) : Nat := if n = 0 then 0 else Nat.log2 n + 1
theorem lenTab_get : ∀ y : Fin 256, lenTab[y.val]? = some (UInt8.ofNat (lenN y.val)) := by decide +kernel
theorem lenN_div {x k : Nat} (h : 2 ^ k ≤ x) : lenN (x / 2 ^ k) + k = lenN x := by
  have hp := Nat.two_pow_pos k
  have hx : x ≠ 0 := by omega
  have hd : x / 2 ^ k ≠ 0 := by
    have := Nat.div_pos h hp
    omega
  unfold lenN
  rw [if_neg hx, if_neg hd]
  have h1 := Nat.log2_self_le hd
  have h2 := Nat.lt_log2_self (n := x / 2 ^ k)
  have : x.log2 = (x / 2 ^ k).log2 + k := by
    rw [Nat.log2_eq_iff hx]
    constructor
    · rw [Nat.pow_add]
      calc 2 ^ (x / 2 ^ k).log2 * 2 ^ k ≤ (x / 2 ^ k) * 2 ^ k := Nat.mul_le_mul_right _ h1
        _ ≤ x := Nat.div_mul_le_self x _
    · rw [show (x / 2 ^ k).log2 + k + 1 = ((x / 2 ^ k).log2 + 1) + k by omega, Nat.pow_add]
      exact (Nat.div_lt_iff_lt_mul hp).1 h2
  omega
end Go.Isk
namespace Go.Proofs.YtbbmgkbinnomgaaGreatDoor
open Go Go.Isk Go.RowKit
set_option maxRecDepth 20000
def hshF : Fam Bytes := fun cs l => pureF (cs = u8s l ∧ l.length = 32)
section
variable {b : Base} {w : World} {L R : List It} {g : Nat} {v sv : Value} {cs : List Value}
/-- a literal of one byte, one's own -/
theorem sp_row1 {c : UInt8} {k : Value → World → Prop} (hs : Isk.Sep b w L) (hk : ∀ v w', Isk.Sep b w' (rowI v T.uint8 1 ([c] : Bytes).length (u8s [c]) :: L) → k v w') : o1 Tryz.prog (Instr.buildSlice T.sl_uint8 1 #[(0, .int .u8 c.toNat)]) w k := by
  refine st_bslice tByt [.int .u8 c.toNat] rfl (by intro v hv; simp only [List.mem_cons, List.not_mem_nil, or_false] at hv; subst hv; rfl) rfl (by decide) (by decide) fun g w' hb hu hg => ?_
  have hown : w'.ownsRow 0 T.uint8 1 (.slice (some ⟨g, 0, none⟩) 1 1) 1 [.int .u8 c.toNat] := ⟨rfl, .inr ⟨g, 1, _, rfl, Nat.zero_le _, hb, Nat.le_refl _, by decide, rfl, rfl⟩⟩
  exact hk _ _ (hs.add (I := rowI (.slice (some ⟨g, 0, none⟩) 1 1) T.uint8 1 1 [.int .u8 c.toNat]) hu (fun k hk => by simp [rowI, Value.ownBlock] at hk; subst hk; exact ⟨hb.lt, hg⟩) hown)
theorem sp_appY {l m : Bytes} {x : Value} {T' : TypeId} {k : Value → World → Prop} (hs : Isk.Sep b w L) (hm : Has L (rowI v T.uint8 1 l.length (u8s l)) R) (hx : Rds R x m.length 1 (u8s m)) (hl : l.length + m.length < 140737488355328)
    (hk : ∀ v w', Isk.Sep b w' (rowI v T.uint8 1 (l ++ m).length (u8s (l ++ m)) :: R) → k v w') : ob Tryz.prog (fun _ => Builtin.append_ #[T.sl_uint8, T.sl_uint8] T' #[v, x]) w k :=
  sp_app hs hm tByt hx (u8s_one _) (by omega) (by omega) fun v' w h => hk v' w (by rw [u8s_append, List.length_append]; exact h)
/-- an array's bytes as a slice -/
theorem Sep.blkSl {l : Bytes} {t : TypeId} (hs : Isk.Sep b w L) (hm : Has L (blkI g t (u8s l)) R) (h : l.length = 32) : Isk.Sep b w ((byF (.slice (some ⟨g, 0, none⟩) 32 32) l).it :: R) :=
  hs.freeze hm fun S hB => by
    have hsl := Sl.of_blk (n := 32) (m := 32) (o := 0) (sz := 1) (show Blk w g t (u8s l) from hB) (by rw [u8s_length, h]; decide) (Nat.le_refl _)
    rw [List.drop_zero, List.take_of_length_le (by rw [u8s_length, h]; decide)] at hsl
    exact SlS.of (h.symm ▸ hsl) fun k hk => .inr (by simp [Value.ownBlock] at hk; simp [blkI, hk])
theorem Sep.hash {l : Bytes} (hs : Isk.Sep b w L) (h : l.length = 32) : Isk.Sep b w ((hshF (u8s l) l).it :: L) := hs.fact ⟨rfl, h⟩
theorem sha_Leaf {l : Bytes} (hs : Isk.Sep b w L) (hR : Ins L rndF.it) (hv : Ins L (byF v l).it) (hl : l.length < 140737488354000) : C Tryz.prog N.sha_Leaf #[v] w fun r w' => r = .agg (u8s (leafB l)).toArray ∧ Isk.Sep b w' L := by
  refine C.sha_Leaf ?_
  unfold F.sha_Leaf
  refine sp_newr hs (by kernel_rfl) fun g2 w hs => ?_
  replace hs := hs.fact (f := byF v l) (hs.get (.tl hv))
  refine sp_row1 (c := 0) hs fun u w hs => ?_
  repeat with_reducible refine mv.mk ?_
  refine sp_appY (m := l) hs .hd .byt (by simp only [List.length_cons, List.length_nil]; omega) fun u w hs => ?_
  replace hs := hs.rowB .hd
  refine cl (sha_Sum hs (.tl (.tl (.tl hR))) .hd (by simp only [List.length_append, List.length_cons, List.length_nil]; omega)) ?_
  rintro _ w ⟨rfl, hs⟩
  refine sp_ret hs (.tl (.tl .hd)) (by kernel_rfl) (by rw [u8s_length, shaB_len]) (u8s_one _) fun w hs => ?_
  exact ⟨rfl, (hs.drop .hd).drop .hd⟩
theorem sha_Node {l m : Bytes} (hs : Isk.Sep b w L) (hR : Ins L rndF.it) (hl : l.length = 32) (hm : m.length = 32) : C Tryz.prog N.sha_Node #[.agg (u8s l).toArray, .agg (u8s m).toArray] w fun r w' => r = .agg (u8s (nodeB l m)).toArray ∧ Isk.Sep b w' L := by
  refine C.sha_Node ?_
  unfold F.sha_Node
  refine sp_boxa hs fun g2 w hs => ?_
  refine sp_boxa hs fun g3 w hs => ?_
  refine sp_newr hs (by kernel_rfl) fun g4 w hs => ?_
  replace hs := (Sep.blkSl (Sep.blkSl hs (.tl .hd) hm) (.tl (.tl .hd)) hl).drew
  refine dr_by (fun _ => True) trivial ?_
  refine tk_run (sla_all tHash (by decide)) ?_
  refine tk_run (sla_all tHash (by decide)) ?_
  refine sp_row1 (c := 1) hs fun u w hs => ?_
  refine ⟨trivial, ?_⟩
  refine sp_appY (m := l) hs .hd .byt (by simp only [List.length_cons, List.length_nil]; omega) fun u w hs => ?_
  refine ⟨trivial, ?_⟩
  refine sp_appY (m := m) hs .hd (.tl .byt) (by simp only [List.length_append, List.length_cons, List.length_nil]; omega) fun u w hs => ?_
  refine ⟨trivial, ?_⟩
  replace hs := hs.rowB .hd
  refine cl (sha_Sum hs (.tl (.tl (.tl (.tl hR)))) .hd (by simp only [List.length_append, List.length_cons, List.length_nil]; omega)) ?_
  rintro _ w ⟨rfl, hs⟩
  refine ⟨trivial, ?_⟩
  refine sp_ret hs (.tl (.tl (.tl .hd))) (by kernel_rfl) (by rw [u8s_length, shaB_len]) (u8s_one _) fun w hs => ?_
  refine ⟨by rw [nodeB]; rfl, ((hs.drop .hd).drop .hd).drop .hd⟩
theorem idx_str {s : Array UInt8} {c : UInt8} {y : Nat} {q : IntKind} (h : s[y]? = some c) (w : World) : (Instr.index T.string (.string ⟨s⟩) (.int q (y : Int))).run Tryz.prog w = .ok (.int .u8 (c.toNat : Int)) w := by
  have hu : Tryz.prog.underlying T.string = some .string := by kernel_rfl
  have hb : (⟨s⟩ : ByteArray)[y]? = some c := by
    rw [← h]
    have hlt := (Array.getElem?_eq_some_iff.1 h).1
    rw [getElem?_pos (⟨s⟩ : ByteArray) y (by simpa [ByteArray.size] using hlt), getElem?_pos s y hlt]
    rfl
  simp [Instr.index, asIntOf, run_underlying hu, hb]
/-- how many bits a number has -/
theorem math_bits_Len64 {x : Nat} (hx : x < 4294967296) : C Tryz.prog N.math_bits_Len64 #[.int .u64 (x : Int)] w fun r w' => r = .int .i64 (lenN x : Nat) ∧ w' = w := by
  refine C.math_bits_Len64 ?_
  unfold F.math_bits_Len64
  repeat (first
   | (with_reducible (first | refine mv.mk ?_ | refine br_t ?_ | refine br_f ?_))
   | (with_reducible ((first | apply st_bin | apply st_conv | apply st_ixv); intro k' hk; simp [go_sem, thenR_ok, bin]; refine hk _ _ ?_; clear hk k')))
  rw [show decide ((4294967296 : Int) ≤ (x : Int)) = false by simp; omega]
  refine jn_by (fun us w' => us = [.int .u64 (x : Int), .int .i64 0] ∧ w' = w) ?_ ?_
  · repeat (first
     | (with_reducible (first | refine mv.mk ?_ | refine br_t ?_ | refine br_f ?_))
     | (with_reducible ((first | apply st_bin | apply st_conv | apply st_ixv); intro k' hk; simp [go_sem, thenR_ok, bin]; refine hk _ _ ?_; clear hk k')))
    exact ⟨rfl, rfl⟩
  rintro x1 w ⟨h1, rfl⟩
  simp only [List.cons.injEq, and_true] at h1
  simp only [h1.1, h1.2]
  repeat (first
   | (with_reducible (first | refine mv.mk ?_ | refine br_t ?_ | refine br_f ?_))
   | (with_reducible ((first | apply st_bin | apply st_conv | apply st_ixv); intro k' hk; simp [go_sem, thenR_ok, bin]; refine hk _ _ ?_; clear hk k')))
  refine jn_by (fun us w' => ∃ y m : Nat, us = [.int .u64 (y : Int), .int .i64 (m : Int)] ∧ w' = w ∧ y < 65536 ∧ m ≤ 16 ∧ lenN y + m = lenN x) ?_ ?_
  · refine br_split (fun hq => ?_) (fun hq => ?_)
    · have hq := of_decide_eq_true hq
      repeat with_reducible refine mv.mk ?_
      refine st_of (w_shr64 w 16 rfl (by decide)) ?_
      repeat with_reducible refine mv.mk ?_
      refine sn_add (by decide) ?_
      repeat with_reducible refine mv.mk ?_
      exact ⟨x / 2 ^ 16, 16, rfl, rfl, by omega, by decide, lenN_div (by omega)⟩
    · have hq := of_decide_eq_false hq
      exact ⟨x, 0, rfl, rfl, by omega, by decide, rfl⟩
  rintro x2 w ⟨y, m, h2, rfl, hy, hm, he⟩
  simp only [List.cons.injEq, and_true] at h2
  simp only [h2.1, h2.2]
  repeat (first
   | (with_reducible (first | refine mv.mk ?_ | refine br_t ?_ | refine br_f ?_))
   | (with_reducible ((first | apply st_bin | apply st_conv | apply st_ixv); intro k' hk; simp [go_sem, thenR_ok, bin]; refine hk _ _ ?_; clear hk k')))
  refine jn_by (fun us w' => ∃ y m : Nat, us = [.int .u64 (y : Int), .int .i64 (m : Int)] ∧ w' = w ∧ y < 256 ∧ m ≤ 24 ∧ lenN y + m = lenN x) ?_ ?_
  · refine br_split (fun hq => ?_) (fun hq => ?_)
    · have hq := of_decide_eq_true hq
      repeat with_reducible refine mv.mk ?_
      refine st_of (w_shr64 w 8 rfl (by decide)) ?_
      repeat with_reducible refine mv.mk ?_
      refine sn_add (by omega) ?_
      repeat with_reducible refine mv.mk ?_
      refine ⟨y / 2 ^ 8, m + 8, rfl, rfl, by omega, by omega, ?_⟩
      have := lenN_div (x := y) (k := 8) (by omega)
      omega
    · have hq := of_decide_eq_false hq
      exact ⟨y, m, rfl, rfl, by omega, by omega, he⟩
  clear h2 he hy hm y m
  rintro x3 w ⟨y, m, h2, rfl, hy, hm, he⟩
  simp only [List.cons.injEq, and_true] at h2
  simp only [h2.1, h2.2]
  repeat with_reducible refine mv.mk ?_
  have hcv : (convert T.uint64 T.uint8 (.int .u64 (y : Int))).run Tryz.prog w = .ok (.int .u8 (y : Int)) w := by
    have h := w_byteI (P := Tryz.prog) (src := T.uint64) (dst := T.uint8) (n := y) 0 (by kernel_rfl) (by kernel_rfl) w
    simpa [byN, Nat.mod_eq_of_lt hy] using h
  refine st_of hcv ?_
  have htab := lenTab_get ⟨y, hy⟩
  simp only at htab
  refine st_of (idx_str (s := lenTab) htab w) ?_
  have hsm : lenN y ≤ 8 := by
    unfold lenN
    split
    · omega
    · rename_i h0
      have := Nat.lt_of_lt_of_le ((Nat.log2_lt h0).2 (show y < 2 ^ 8 by omega)) (Nat.le_refl _)
      omega
  have e8 : ((UInt8.ofNat (lenN y)).toNat : Int) = (lenN y : Int) := by
    rw [UInt8.toNat_ofNat', Nat.mod_eq_of_lt (by omega)]
  rw [e8]
  repeat (first
   | (with_reducible (first | refine mv.mk ?_ | refine br_t ?_ | refine br_f ?_))
   | (with_reducible ((first | apply st_bin | apply st_conv | apply st_ixv); intro k' hk; simp [go_sem, thenR_ok, bin]; refine hk _ _ ?_; clear hk k')))
  rw [i64_wrap (n := (lenN y : Int)) (by omega) (by omega), i64_wrap (by omega) (by omega)]
  refine ⟨?_, rfl⟩
  simp only [Value.int.injEq, true_and]
  omega
theorem math_bits_Len {x : Nat} (hx : x < 4294967296) : C Tryz.prog N.math_bits_Len #[.int .u64 (x : Int)] w fun r w' => r = .int .i64 (lenN x : Nat) ∧ w' = w := by
  refine C.math_bits_Len ?_
  unfold F.math_bits_Len
  repeat with_reducible refine mv.mk ?_
  refine br_f ?_
  repeat with_reducible refine mv.mk ?_
  refine cl (math_bits_Len64 hx) ?_
  rintro _ _ ⟨rfl, rfl⟩
  repeat with_reducible refine mv.mk ?_
  exact ⟨rfl, rfl⟩
theorem n_shl1 {t : TypeId} {x1 x2 : Operand} {m : Int} (j : Nat) (hj : m = j) (h : j < 62) (w : World) : (bin .shl t x1 x2 (.int .i64 1) (.int .i64 m)).run Tryz.prog w = .ok (.int .i64 ((2 ^ j : Nat) : Int)) w := by
  subst hj
  have e2 : ¬ ((j : Int) < 0) := by omega
  have e3 : min j 64 = j := by omega
  have hp : 2 ^ j ≤ 2 ^ 62 := Nat.pow_le_pow_right (by decide) (by omega)
  have e : IntKind.i64.wrap ((2 : Int) ^ j) = ((2 ^ j : Nat) : Int) := by
    rw [show (2 : Int) ^ j = ((2 ^ j : Nat) : Int) by simp]
    generalize 2 ^ j = p at hp ⊢
    exact i64_wrap (by omega) (by omega)
  simp [go_sem, bin, e2, IntKind.bits, e3, e]
theorem sha_half {n : Nat} (h2 : 2 ≤ n) (hn : n < 4294967296) : C Tryz.prog N.sha_half #[.int .i64 (n : Int)] w fun r w' => r = .int .i64 (halfN n : Nat) ∧ w' = w := by
  refine C.sha_half ?_
  unfold F.sha_half
  repeat with_reducible refine mv.mk ?_
  refine sn_sub (by omega) ?_
  refine st_of (n_u' w (n - 1) (by omega) (by kernel_rfl) (by kernel_rfl) (by omega)) ?_
  refine cl (math_bits_Len (x := n - 1) (by omega)) ?_
  rintro _ _ ⟨rfl, rfl⟩
  have hl : (n - 1).log2 < 32 := (Nat.log2_lt (by omega)).2 (by omega)
  have hln : lenN (n - 1) = (n - 1).log2 + 1 := by rw [lenN, if_neg (by omega)]
  refine sn_sub (by omega) ?_
  refine st_of (n_shl1 (n - 1).log2 (by omega) (by omega) _) ?_
  repeat with_reducible refine mv.mk ?_
  exact ⟨rfl, rfl⟩
theorem Sep.takeF {α : Type} {F : Fam α} {sz E T by_ : Nat} {ls : List α} {q : IntKind} (hs : Isk.Sep b w L) (hm : Ins L (listF F sz sv ls).it) (hT : slT Tryz.prog T E sz by_ = true) (i : Nat) (hi : i ≤ ls.length) :
    ∃ v, (∀ w', (Instr.sliceAt T sv none (some (.int q i)) none).run Tryz.prog w' = .ok v w') ∧ Isk.Sep b w ((listF F sz v (ls.take i)).it :: L) := by
  obtain ⟨xss, h1, h2, h3⟩ := hs.get hm
  obtain ⟨v', hr, hs', ho⟩ := sl_to hT h3.1 i hi q
  refine ⟨v', hr, hs.fact ⟨xss.take i, h1.take i, fun x hx => h2 x (List.mem_of_mem_take hx), ?_, fun hn k hk => ?_⟩⟩
  · rw [flatten_take i h2 (by rw [h1.1]; exact hi), show (ls.take i).length = i by simp; omega]; exact hs'
  · exact h3.2 (Nat.lt_of_lt_of_le hn (Nat.mul_le_mul_right _ (by simp; omega))) k (ho ▸ hk)
theorem Sep.dropF {α : Type} {F : Fam α} {sz E T by_ : Nat} {ls : List α} {q : IntKind} (hs : Isk.Sep b w L) (hm : Ins L (listF F sz sv ls).it) (hT : slT Tryz.prog T E sz by_ = true) (i : Nat) (hi : i ≤ ls.length) :
    ∃ v, (∀ w', (Instr.sliceAt T sv (some (.int q i)) none none).run Tryz.prog w' = .ok v w') ∧ Isk.Sep b w ((listF F sz v (ls.drop i)).it :: L) := by
  obtain ⟨xss, h1, h2, h3⟩ := hs.get hm
  obtain ⟨v', hr, hs', ho⟩ := sl_from hT h3.1 i hi q
  refine ⟨v', hr, hs.fact ⟨xss.drop i, h1.drop i, fun x hx => h2 x (List.mem_of_mem_drop hx), ?_, fun hn k hk => ?_⟩⟩
  · rw [flatten_drop i h2 (by rw [h1.1]; exact hi), show (ls.drop i).length = ls.length - i by simp]; exact hs'
  · exact h3.2 (Nat.lt_of_lt_of_le hn (Nat.mul_le_mul_right _ (by simp))) k (ho ▸ hk)
theorem hshs_len {l : List Bytes} (hs : Isk.Sep b w L) (hm : Ins L (listF hshF 32 sv l).it) : ∀ x ∈ l, x.length = 32 := by
  obtain ⟨xss, h1, _⟩ := hs.get hm
  intro x hx
  obtain ⟨i, hi, rfl⟩ := List.mem_iff_getElem.1 hx
  have h2 : hshF _ _ |>.holds _ _ := h1.2 i hi _ (List.getElem?_eq_getElem (by rw [h1.1]; exact hi))
  exact h2.2
theorem rootB_len : ∀ (n : Nat) {l : List Bytes}, l.length = n → (∀ x ∈ l, x.length = 32) → (rootB l).length = 32 := by
  intro n l hn h
  rw [rootB]
  split
  · exact shaB_len _
  · split
    · rename_i h0 h1
      obtain ⟨x, rfl⟩ := List.length_eq_one_iff.1 h1
      exact h x (by simp)
    · exact shaB_len _
theorem sha_Root : ∀ (n : Nat) {l : List Bytes} {w : World} {L : List It} {sv : Value}, l.length = n → Isk.Sep b w L → Ins L rndF.it → Ins L (listF hshF 32 sv l).it → n < 2147483648 →
    C Tryz.prog N.sha_Root #[sv] w fun r w' => r = .agg (u8s (rootB l)).toArray ∧ Isk.Sep b w' L := by
  intro n
  induction n using Nat.strongRecOn with
  | ind n ih =>
  intro l w L sv hn hs hR hm hb
  have h32 := hshs_len hs hm
  obtain ⟨A, c, rfl⟩ := hs.lst_len hm.lst
  refine C.sha_Root ?_
  unfold F.sha_Root
  refine sp_newr hs (by kernel_rfl) fun g2 w hs => ?_
  repeat (first
   | (with_reducible (first | refine st_lens ?_ | refine st_eqls ?_ | refine mv.mk ?_ | refine br_t ?_ | refine br_f ?_))
   | (with_reducible ((first | apply st_bin | apply st_len); intro k' hk; simp [go_sem, thenR_ok, bin]; refine hk _ _ ?_; clear hk k'))
   | ((with_reducible apply sp_newr hs); (· kernel_rfl); intro g w hs))
  by_cases h0 : l.length = 0
  · rw [show ((l.length : Int) == 0) = true by simpa using h0]
    repeat (first
     | (with_reducible (first | refine st_lens ?_ | refine st_eqls ?_ | refine mv.mk ?_ | refine br_t ?_ | refine br_f ?_))
     | (with_reducible ((first | apply st_bin | apply st_len); intro k' hk; simp [go_sem, thenR_ok, bin]; refine hk _ _ ?_; clear hk k'))
     | ((with_reducible apply sp_newr hs); (· kernel_rfl); intro g w hs))
    replace hs := hs.fact (f := byF (.slice none 0 0) []) (SlS.nil 1)
    refine cl (sha_Sum (l := []) hs (.tl (.tl (hR))) .hd (by simp)) ?_
    rintro _ w ⟨rfl, hs⟩
    refine sp_ret hs (.tl .hd) (by kernel_rfl) (by rw [u8s_length, shaB_len]) (u8s_one _) fun w hs => ?_
    refine ⟨by rw [rootB, dif_pos h0], hs.drop .hd⟩
  rw [show ((l.length : Int) == 0) = false by simpa using h0]
  repeat (first
   | (with_reducible (first | refine st_lens ?_ | refine st_eqls ?_ | refine mv.mk ?_ | refine br_t ?_ | refine br_f ?_))
   | (with_reducible ((first | apply st_bin | apply st_len); intro k' hk; simp [go_sem, thenR_ok, bin]; refine hk _ _ ?_; clear hk k'))
   | ((with_reducible apply sp_newr hs); (· kernel_rfl); intro g w hs))
  by_cases h1 : l.length = 1
  · rw [show ((l.length : Int) == 1) = true by simp; omega]
    repeat (first
     | (with_reducible (first | refine st_lens ?_ | refine st_eqls ?_ | refine mv.mk ?_ | refine br_t ?_ | refine br_f ?_))
     | (with_reducible ((first | apply st_bin | apply st_len); intro k' hk; simp [go_sem, thenR_ok, bin]; refine hk _ _ ?_; clear hk k'))
     | ((with_reducible apply sp_newr hs); (· kernel_rfl); intro g w hs))
    refine sp_eln hs (F := hshF) (ls := l) (.tl hm.lst) tHashes (by kernel_rfl) 0 rfl (by omega) fun x hxl hs => ?_
    obtain ⟨hx1, hx2⟩ : x = u8s l[0] ∧ (l[0]).length = 32 := hs.get (I := (hshF x l[0]).it) .hd
    rw [hx1] at hxl ⊢
    refine sp_ret hs (.tl .hd) (by kernel_rfl) hxl (u8s_one _) fun w hs => ?_
    refine ⟨by rw [rootB, dif_neg h0, dif_pos h1]; simp [List.getD, List.getElem?_eq_getElem (show 0 < l.length by omega)], hs.drop .hd⟩
  rw [show ((l.length : Int) == 1) = false by simp; omega]
  repeat (first
   | (with_reducible (first | refine st_lens ?_ | refine st_eqls ?_ | refine mv.mk ?_ | refine br_t ?_ | refine br_f ?_))
   | (with_reducible ((first | apply st_bin | apply st_len); intro k' hk; simp [go_sem, thenR_ok, bin]; refine hk _ _ ?_; clear hk k'))
   | ((with_reducible apply sp_newr hs); (· kernel_rfl); intro g w hs))
  refine cl (sha_half (n := l.length) (by omega) (by omega)) ?_
  rintro _ w ⟨rfl, rfl⟩
  repeat with_reducible refine mv.mk ?_
  have hlt := halfN_lt (n := l.length) (by omega)
  have hgt := halfN_pos l.length
  obtain ⟨v1, hr1, hs⟩ := Sep.takeF (q := .i64) hs (.tl hm) tHashes (halfN l.length) (by omega)
  obtain ⟨v2, hr2, hs⟩ := Sep.dropF (q := .i64) hs (.tl (.tl hm)) tHashes (halfN l.length) (by omega)
  refine dr_by (fun _ => True) trivial ?_
  repeat with_reducible refine mv.mk ?_
  refine tk_run hr1 ?_
  repeat with_reducible refine mv.mk ?_
  refine tk_run hr2 ?_
  have ht : (l.take (halfN l.length)).length = halfN l.length := by rw [List.length_take]; omega
  have hd : (l.drop (halfN l.length)).length = l.length - halfN l.length := List.length_drop ..
  refine cl (ih _ (by omega) rfl hs.drew (.tl (.tl (.tl (hR)))) (.tl .hd) (by omega)) ?_
  rintro _ w ⟨rfl, hs⟩
  refine ⟨trivial, ?_⟩
  refine cl (ih _ (by omega) rfl hs (.tl (.tl (.tl (hR)))) .hd (by omega)) ?_
  rintro _ w ⟨rfl, hs⟩
  refine ⟨trivial, ?_⟩
  refine cl (sha_Node hs (.tl (.tl (.tl (hR)))) (rootB_len _ rfl fun x hx => h32 x (List.mem_of_mem_take hx)) (rootB_len _ rfl fun x hx => h32 x (List.mem_of_mem_drop hx))) ?_
  rintro _ w ⟨rfl, hs⟩
  refine ⟨trivial, ?_⟩
  refine sp_ret hs (.tl (.tl .hd)) (by kernel_rfl) (by rw [u8s_length, nodeB, shaB_len]) (u8s_one _) fun w hs => ?_
  refine ⟨?_, (hs.drop .hd).drop .hd⟩
  conv => rhs; rw [rootB, dif_neg h0, dif_neg h1]
end
end Go.Proofs.YtbbmgkbinnomgaaGreatDoor
