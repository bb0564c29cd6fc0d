/- Trees of sums: leaves, nodes, roots, in the program and in the document. -/
import Derived.Test.YtgagekffmamldaaGreatDoorSR
import Derived.Test.YtgagekffmamldaaGreatDoorTF
set_option linter.unusedVariables false
set_option linter.unusedSimpArgs false
set_option linter.unusedSectionVars false
namespace Go.Isk
open Go Go.RowKit
/-- the greatest power of two below n (n above 1) -/
def halfN (n : Nat) : Nat := 2 ^ Nat.log2 (n - 1)
theorem halfN_pos (n : Nat) : 0 < halfN n := Nat.two_pow_pos _
theorem halfN_lt {n : Nat} (h : 2 ≤ n) : halfN n < n := by
  have := Nat.log2_self_le (n := n - 1) (by omega)
  unfold halfN; omega
def rootB (l : List Bytes) : Bytes :=
  if h0 : l.length = 0 then shaB [] else if h1 : l.length = 1 then l.getD 0 [] else nodeB (rootB (l.take (halfN l.length))) (rootB (l.drop (halfN l.length)))
termination_by l.length
decreasing_by
  · have := halfN_lt (n := l.length) (by omega); rw [List.length_take]; omega
  · have := halfN_pos l.length; rw [List.length_drop]; omega
def lenTab : Array UInt8 := #[0, 1, 2, 2, 3, 3, 3, 3, 4, 4, 4, 4, 4, 4, 4, 4, 5, 5, 5, 5, 5, 5, 5, 5, 5, 5, 5, 5, 5, 5, 5, 5, 6, 6, 6, 6, 6, 6, 6, 6, 6, 6, 6, 6, 6, 6, 6, 6, 6, 6, 6, 6, 6, 6, 6, 6, 6, 6, 6, 6, 6, 6, 6, 6, 7, 7, 7, 7, 7, 7, 7, 7, 7, 7, 7, 7, 7, 7, 7, 7, 7, 7, 7, 7, 7, 7, 7, 7, 7, 7, 7, 7, 7, 7, 7, 7, 7, 7, 7, 7, 7, 7, 7, 7, 7, 7, 7, 7, 7, 7, 7, 7, 7, 7, 7, 7, 7, 7, 7, 7, 7, 7, 7, 7, 7, 7, 7, 7, 8, 8, 8, 8, 8, 8, 8, 8, 8, 8, 8, 8, 8, 8, 8, 8, 8, 8, 8, 8, 8, 8, 8, 8, 8, 8, 8, 8, 8, 8, 8, 8, 8, 8, 8, 8, 8, 8, 8, 8, 8, 8, 8, 8, 8, 8, 8, 8, 8, 8, 8, 8, 8, 8, 8, 8, 8, 8, 8, 8, 8, 8, 8, 8, 8, 8, 8, 8, 8, 8, 8, 8, 8, 8, 8, 8, 8, 8, 8, 8, 8, 8, 8, 8, 8, 8, 8, 8, 8, 8, 8, 8, 8, 8, 8, 8, 8, 8, 8, 8, 8, 8, 8, 8, 8, 8, 8, 8, 8, 8, 8, 8, 8, 8, 8, 8, 8, 8, 8, 8, 8, 8, 8, 8, 8, 8, 8, 8]
def lenN (n : Nat) : Nat := if n = 0 then 0 else Nat.log2 n + 1
theorem lenTab_get : ∀ y : Fin 256, lenTab[y.val]? = some (UInt8.ofNat (lenN y.val)) := by decide +kernel
theorem lenN_div {x k : Nat} (h : 2 ^ k ≤ x) : lenN (x / 2 ^ k) + k = lenN x := by
  have hp := Nat.two_pow_pos k
  have hx : x ≠ 0 := by omega
  have hd : x / 2 ^ k ≠ 0 := by
    have := Nat.div_pos h hp
    omega
  unfold lenN
  rw [if_neg hx, if_neg hd]
  have h1 := Nat.log2_self_le hd
  have h2 := Nat.lt_log2_self (n := x / 2 ^ k)
  have : x.log2 = (x / 2 ^ k).log2 + k := by
    rw [Nat.log2_eq_iff hx]
    constructor
    · rw [Nat.pow_add]
      calc 2 ^ (x / 2 ^ k).log2 * 2 ^ k ≤ (x / 2 ^ k) * 2 ^ k := Nat.mul_le_mul_right _ h1
        _ ≤ x := Nat.div_mul_le_self x _
    · rw [show (x / 2 ^ k).log2 + k + 1 = ((x / 2 ^ k).log2 + 1) + k by omega, Nat.pow_add]
      exact (Nat.div_lt_iff_lt_mul hp).1 h2
  omega
end Go.Isk
namespace Go.Proofs.YtgagekffmamldaaGreatDoor
open Go Go.Isk Go.RowKit
set_option maxRecDepth 20000
def hshF : Fam Bytes := fun cs l => pureF (cs = u8s l ∧ l.length = 32)
section
variable {b : Base} {w : World} {L R : List It} {g : Nat} {v sv : Value} {cs : List Value}
/-- a literal of one byte, one's own -/
theorem sp_row1 {c : UInt8} {k : Value → World → Prop} (hs : Isk.Sep b w L) (hk : ∀ v w', Isk.Sep b w' (rowI v T.uint8 1 ([c] : Bytes).length (u8s [c]) :: L) → k v w') : o1 Tryz.prog (Instr.buildSlice T.sl_uint8 1 #[(0, .int .u8 c.toNat)]) w k := by
  refine st_bslice tByt [.int .u8 c.toNat] rfl (by intro v hv; simp only [List.mem_cons, List.not_mem_nil, or_false] at hv; subst hv; rfl) rfl (by decide) (by decide) fun g w' hb hu hg => ?_
  have hown : w'.ownsRow 0 T.uint8 1 (.slice (some ⟨g, 0, none⟩) 1 1) 1 [.int .u8 c.toNat] := ⟨rfl, .inr ⟨g, 1, _, rfl, Nat.zero_le _, hb, Nat.le_refl _, by decide, rfl, rfl⟩⟩
  exact hk _ _ (hs.add (I := rowI (.slice (some ⟨g, 0, none⟩) 1 1) T.uint8 1 1 [.int .u8 c.toNat]) hu (fun k hk => by simp [rowI, Value.ownBlock] at hk; subst hk; exact ⟨hb.lt, hg⟩) hown)
theorem sp_appY {l m : Bytes} {x : Value} {T' : TypeId} {k : Value → World → Prop} (hs : Isk.Sep b w L) (hm : Has L (rowI v T.uint8 1 l.length (u8s l)) R) (hx : Rds R x m.length 1 (u8s m)) (hl : l.length + m.length < 140737488355328)
    (hk : ∀ v w', Isk.Sep b w' (rowI v T.uint8 1 (l ++ m).length (u8s (l ++ m)) :: R) → k v w') : ob Tryz.prog (fun _ => Builtin.append_ #[T.sl_uint8, T.sl_uint8] T' #[v, x]) w k :=
  sp_app hs hm tByt hx (u8s_one _) (by omega) (by omega) fun v' w h => hk v' w (by rw [u8s_append, List.length_append]; exact h)
theorem idx_str {s : Array UInt8} {c : UInt8} {y : Nat} {q : IntKind} (h : s[y]? = some c) (w : World) : (Instr.index T.string (.string ⟨s⟩) (.int q (y : Int))).run Tryz.prog w = .ok (.int .u8 (c.toNat : Int)) w := by
  have hu : Tryz.prog.underlying T.string = some .string := by kernel_rfl
  have hb : (⟨s⟩ : ByteArray)[y]? = some c := by
    rw [← h]
    have hlt := (Array.getElem?_eq_some_iff.1 h).1
    rw [getElem?_pos (⟨s⟩ : ByteArray) y (by simpa [ByteArray.size] using hlt), getElem?_pos s y hlt]
    rfl
  simp [Instr.index, asIntOf, run_underlying hu, hb]
/-- how many bits a number has -/
theorem math_bits_Len64 {x : Nat} (hx : x < 4294967296) : C Tryz.prog N.math_bits_Len64 #[.int .u64 (x : Int)] w fun r w' => r = .int .i64 (lenN x : Nat) ∧ w' = w := by
  refine C.math_bits_Len64 ?_
  unfold F.math_bits_Len64
  repeat (first
   | (with_reducible (first | refine mv.mk ?_ | refine br_t ?_ | refine br_f ?_))
   | (with_reducible ((first | apply st_bin | apply st_conv | apply st_ixv); intro k' hk; simp [go_sem, thenR_ok, bin]; refine hk _ _ ?_; clear hk k')))
  rw [show decide ((4294967296 : Int) ≤ (x : Int)) = false by simp; omega]
  refine jn_by (fun us w' => us = [.int .u64 (x : Int), .int .i64 0] ∧ w' = w) ?_ ?_
  · repeat (first
     | (with_reducible (first | refine mv.mk ?_ | refine br_t ?_ | refine br_f ?_))
     | (with_reducible ((first | apply st_bin | apply st_conv | apply st_ixv); intro k' hk; simp [go_sem, thenR_ok, bin]; refine hk _ _ ?_; clear hk k')))
    exact ⟨rfl, rfl⟩
  rintro x1 w ⟨h1, rfl⟩
  simp only [List.cons.injEq, and_true] at h1
  simp only [h1.1, h1.2]
  repeat (first
   | (with_reducible (first | refine mv.mk ?_ | refine br_t ?_ | refine br_f ?_))
   | (with_reducible ((first | apply st_bin | apply st_conv | apply st_ixv); intro k' hk; simp [go_sem, thenR_ok, bin]; refine hk _ _ ?_; clear hk k')))
  refine jn_by (fun us w' => ∃ y m : Nat, us = [.int .u64 (y : Int), .int .i64 (m : Int)] ∧ w' = w ∧ y < 65536 ∧ m ≤ 16 ∧ lenN y + m = lenN x) ?_ ?_
  · refine br_split (fun hq => ?_) (fun hq => ?_)
    · have hq := of_decide_eq_true hq
      repeat with_reducible refine mv.mk ?_
      refine st_of (w_shr64 w 16 rfl (by decide)) ?_
      repeat with_reducible refine mv.mk ?_
      refine sn_add (by decide) ?_
      repeat with_reducible refine mv.mk ?_
      exact ⟨x / 2 ^ 16, 16, rfl, rfl, by omega, by decide, lenN_div (by omega)⟩
    · have hq := of_decide_eq_false hq
      exact ⟨x, 0, rfl, rfl, by omega, by decide, rfl⟩
  rintro x2 w ⟨y, m, h2, rfl, hy, hm, he⟩
  simp only [List.cons.injEq, and_true] at h2
  simp only [h2.1, h2.2]
  repeat (first
   | (with_reducible (first | refine mv.mk ?_ | refine br_t ?_ | refine br_f ?_))
   | (with_reducible ((first | apply st_bin | apply st_conv | apply st_ixv); intro k' hk; simp [go_sem, thenR_ok, bin]; refine hk _ _ ?_; clear hk k')))
  refine jn_by (fun us w' => ∃ y m : Nat, us = [.int .u64 (y : Int), .int .i64 (m : Int)] ∧ w' = w ∧ y < 256 ∧ m ≤ 24 ∧ lenN y + m = lenN x) ?_ ?_
  · refine br_split (fun hq => ?_) (fun hq => ?_)
    · have hq := of_decide_eq_true hq
      repeat with_reducible refine mv.mk ?_
      refine st_of (w_shr64 w 8 rfl (by decide)) ?_
      repeat with_reducible refine mv.mk ?_
      refine sn_add (by omega) ?_
      repeat with_reducible refine mv.mk ?_
      refine ⟨y / 2 ^ 8, m + 8, rfl, rfl, by omega, by omega, ?_⟩
      have := lenN_div (x := y) (k := 8) (by omega)
      omega
    · have hq := of_decide_eq_false hq
      exact ⟨y, m, rfl, rfl, by omega, by omega, he⟩
  clear h2 he hy hm y m
  rintro x3 w ⟨y, m, h2, rfl, hy, hm, he⟩
  simp only [List.cons.injEq, and_true] at h2
  simp only [h2.1, h2.2]
  repeat with_reducible refine mv.mk ?_
  have hcv : (convert T.uint64 T.uint8 (.int .u64 (y : Int))).run Tryz.prog w = .ok (.int .u8 (y : Int)) w := by
    have h := w_byteI (P := Tryz.prog) (src := T.uint64) (dst := T.uint8) (n := y) 0 (by kernel_rfl) (by kernel_rfl) w
    simpa [byN, Nat.mod_eq_of_lt hy] using h
  refine st_of hcv ?_
  have htab := lenTab_get ⟨y, hy⟩
  simp only at htab
  refine st_of (idx_str (s := lenTab) htab w) ?_
  have hsm : lenN y ≤ 8 := by
    unfold lenN
    split
    · omega
    · rename_i h0
      have := Nat.lt_of_lt_of_le ((Nat.log2_lt h0).2 (show y < 2 ^ 8 by omega)) (Nat.le_refl _)
      omega
  have e8 : ((UInt8.ofNat (lenN y)).toNat : Int) = (lenN y : Int) := by
    rw [UInt8.toNat_ofNat', Nat.mod_eq_of_lt (by omega)]
  rw [e8]
  repeat (first
   | (with_reducible (first | refine mv.mk ?_ | refine br_t ?_ | refine br_f ?_))
   | (with_reducible ((first | apply st_bin | apply st_conv | apply st_ixv); intro k' hk; simp [go_sem, thenR_ok, bin]; refine hk _ _ ?_; clear hk k')))
  rw [i64_wrap (n := (lenN y : Int)) (by omega) (by omega), i64_wrap (by omega) (by omega)]
  refine ⟨?_, rfl⟩
  simp only [Value.int.injEq, true_and]
  omega
theorem math_bits_Len {x : Nat} (hx : x < 4294967296) : C Tryz.prog N.math_bits_Len #[.int .u64 (x : Int)] w fun r w' => r = .int .i64 (lenN x : Nat) ∧ w' = w := by
  refine C.math_bits_Len ?_
  unfold F.math_bits_Len
  repeat with_reducible refine mv.mk ?_
  refine br_f ?_
  repeat with_reducible refine mv.mk ?_
  refine cl (math_bits_Len64 hx) ?_
  rintro _ _ ⟨rfl, rfl⟩
  repeat with_reducible refine mv.mk ?_
  exact ⟨rfl, rfl⟩
end
end Go.Proofs.YtgagekffmamldaaGreatDoor
