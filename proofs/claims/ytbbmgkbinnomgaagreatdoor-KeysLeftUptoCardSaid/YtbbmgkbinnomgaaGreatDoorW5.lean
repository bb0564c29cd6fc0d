/- One-time signatures: a chain's steps, in the program. -/
import Derived.Test.YtbbmgkbinnomgaaGreatDoorW2
import Derived.Laws.MakeOwn
import Derived.Test.YtbbmgkbinnomgaaGreatDoorRD
set_option linter.unusedVariables false
set_option linter.unusedSimpArgs false
set_option linter.unusedSectionVars false
namespace Go.Proofs.YtbbmgkbinnomgaaGreatDoor
open Go Go.Isk Go.RowKit
set_option maxRecDepth 20000
/-- a chain's next value -/
def next1 (leaf chain p : Nat) (v : Bytes) : Bytes := shaB (3 :: (encU leaf ++ (encU chain ++ (encU p ++ v))))
/-- k steps from p on -/
def stepsB (leaf chain : Nat) : Nat → Nat → Bytes → Bytes
  | _, 0, v => v
  | p, k + 1, v => stepsB leaf chain (p + 1) k (next1 leaf chain p v)
def stepB (v : Bytes) (leaf chain from_ to : Nat) : Bytes := stepsB leaf chain from_ (min to 15 - from_) v
section
variable {b : Base} {w : World} {L R : List It} {g : Nat} {v sv : Value} {cs : List Value} {l : Bytes}
theorem stepsB_last (leaf chain : Nat) : ∀ (k p : Nat) (v : Bytes), stepsB leaf chain p (k + 1) v = next1 leaf chain (p + k) (stepsB leaf chain p k v)
  | 0, p, v => rfl
  | k + 1, p, v => by
    rw [stepsB, stepsB_last leaf chain k (p + 1), show p + 1 + k = p + (k + 1) by omega]
    rfl
theorem stepsB_len (leaf chain : Nat) : ∀ (k p : Nat) (v : Bytes), v.length = 32 → (stepsB leaf chain p k v).length = 32
  | 0, _, _, h => h
  | k + 1, p, v, _ => stepsB_len leaf chain k (p + 1) _ (shaB_len _)
theorem sla_none {T n : Nat} (hT : arrT Tryz.prog T n = true) {g : Nat} (hn : 0 < n) (w : World) : (Instr.sliceAt T (.pointer (some ⟨g, 0, none⟩)) none (some (.int .i64 0)) none).run Tryz.prog w = .ok (.slice (some ⟨g, 0, none⟩) 0 n) w := sla_to hT 0 rfl (Nat.zero_le _) hn w
theorem tArr64u8 : arrT Tryz.prog T.arr64_uint8 64 = true := by kernel_rfl
theorem z64u8 : zeroT Tryz.prog T.arr64_uint8 (u8s (List.replicate 64 0)) := zeroT_of (by kernel_rfl)
theorem encU_two {n : Nat} (h : n < 16384) : (encU n).length ≤ 2 := encU_len 1 n (by simpa using h)
theorem Sep.ext0 {w' : World} (h : Isk.Sep b w L) (hu : Ext w w') : Isk.Sep b w' L :=
  Isk.Sep.step (A := []) (A' := []) h hu (fun _ _ hf => hf.elim) (fun k hk => (mine_nil hk).elim) (by simp) (by simp)
/-- a sum over a block of one's own, which stays one's own -/
theorem sum_blk {t : TypeId} {rest : List Value} {cap : Nat} (hs : Isk.Sep b w L) (hR : Ins L rndF.it) (hm : Ins L (blkI g t (u8s l ++ rest))) (hc : l.length ≤ cap) (hl : l.length < 1152921504606846976) :
    C Tryz.prog N.sha_Sum #[.slice (some ⟨g, 0, none⟩) l.length cap] w fun r w' => r = .agg (u8s (shaB l)).toArray ∧ Isk.Sep b w' L := by
  have hB : Blk w g t (u8s l ++ rest) := hs.get hm
  have h0 : Isk.Sep ⟨w, fun _ => False⟩ w [] := ⟨Upd.refl, fun k hk => (mine_nil hk).elim, by simp, by simp⟩
  have h1 := h0.fact (f := rndF) (rndF.mono (hs.get hR) fun k hk _ => ⟨hk.1, mine_nil⟩)
  have hsl := Sl.of_blk (n := l.length) (m := cap) (o := 0) (sz := 1) hB (by rw [List.length_append, u8s_length]; omega) hc
  rw [List.drop_zero, Nat.mul_one, ← u8s_length l, List.take_left, u8s_length] at hsl
  have h2 := h1.fact (f := byF (.slice (some ⟨g, 0, none⟩) l.length cap) l) (SlS.of hsl fun k hk => by
    simp [Value.ownBlock] at hk
    subst hk
    exact ⟨hB.lt, by rintro ⟨J, h1, h2⟩; simp at h1; subst h1; simp [Fact.it] at h2⟩)
  refine cl (sha_Sum h2 (.tl .hd) .hd hl) ?_
  rintro r w' ⟨rfl, h3⟩
  exact ⟨rfl, Sep.ext0 hs h3.upd⟩
theorem wots_Step {x : Bytes} {leaf chain f to : Nat} (hs : Isk.Sep b w L) (hR : Ins L rndF.it) (hx : x.length = 32) (hl : leaf < 1024) (hc : chain < 1024) (hf : f ≤ 15) (ht : to < 4294967296) :
    C Tryz.prog N.wots_Step #[.agg (u8s x).toArray, .int .i64 (leaf : Int), .int .i64 (chain : Int), .int .i64 (f : Int), .int .i64 (to : Int)] w fun r w' => r = .agg (u8s (stepB x leaf chain f to)).toArray ∧ Isk.Sep b w' L := by
  have l1 := encU_two (n := leaf) (by omega)
  have l2 := encU_two (n := chain) (by omega)
  refine C.wots_Step ?_
  unfold F.wots_Step
  refine sp_boxa hs fun g5 w hs => ?_
  refine sp_newr hs (by kernel_rfl) fun g10 w hs => ?_
  refine sp_alloc hs z64u8 fun g11 w hs => ?_
  repeat (first
   | (with_reducible (first | refine mv.mk ?_ | refine br_t ?_ | refine br_f ?_ | refine sp_boxa hs fun g w hs => ?_))
   | (with_reducible ((first | apply st_bin | apply st_max | apply st_min); intro k' hk; simp [go_sem, thenR_ok, bin]; refine hk _ _ ?_; clear hk k'))
   | ((with_reducible apply sp_newr hs); (· kernel_rfl); intro g w hs))
  rw [if_neg (show ¬ (f : Int) < 0 by omega)]
  refine lp_by (fun us w' => ∃ (i : Nat) (y : Value) (rest : List Value), us = [.int .i64 (i : Int), y] ∧ f ≤ i ∧ (i = f ∨ i ≤ min to 15) ∧ rest.length = 64 ∧ Isk.Sep b w' (blkI g5 T.api_Hash (u8s (stepsB leaf chain f (i - f) x)) :: blkI g11 T.arr64_uint8 (u8s [] ++ rest) :: resI Tryz.prog g10 T.api_Hash :: L)) (fun us _ => match us with | [.int _ i, _] => (15 - i).toNat | _ => 0) ⟨f, undef, u8s (List.replicate 64 0), rfl, Nat.le_refl _, .inl rfl, by rw [u8s_length, List.length_replicate], by
    rw [Nat.sub_self]
    exact hs.sbl (.cons (.tl (.tl .hd)) (.cons .hd (.cons .hd .all)))⟩ ?_
  clear hs w
  rintro x1 w ⟨i, y, rest, hx1, h1, h2, hr, hs⟩
  simp only [List.cons.injEq, and_true] at hx1
  simp only [hx1.1, hx1.2]
  repeat (first
   | (with_reducible (first | refine mv.mk ?_ | refine br_t ?_ | refine br_f ?_ | refine sp_boxa hs fun g w hs => ?_))
   | (with_reducible ((first | apply st_bin | apply st_max | apply st_min); intro k' hk; simp [go_sem, thenR_ok, bin]; refine hk _ _ ?_; clear hk k'))
   | ((with_reducible apply sp_newr hs); (· kernel_rfl); intro g w hs))
  rw [show (if (15 : Int) < (to : Int) then (15 : Int) else (to : Int)) = ((min to 15 : Nat) : Int) by split <;> omega]
  have hlenS : (stepsB leaf chain f (i - f) x).length = 32 := stepsB_len _ _ _ _ _ hx
  refine br_split (fun hq => ?_) (fun hq => ?_)
  · have hq := of_decide_eq_true hq
    have l3 := encU_two (n := i) (by omega)
    refine st_of (sla_none tArr64u8 (by decide) w) ?_
    refine sp_roomB (l := []) (cap := 64) (c := 3) hs (.tl .hd) (by decide) (by simpa using hr) fun w rest hr hs => ?_
    repeat with_reducible refine mv.mk ?_
    have hll : (([] : Bytes) ++ [3]).length = 1 := rfl
    refine cl (wots_number leaf hs (by omega) (by rw [List.length_append, hll]; omega) hr) ?_
    rintro _ w ⟨rfl, rest, hr, hs⟩
    repeat with_reducible refine mv.mk ?_
    have hl2 : (([] : Bytes) ++ [3] ++ encU leaf).length = 1 + (encU leaf).length := by rw [List.length_append, hll]
    refine cl (wots_number chain hs (by omega) (by rw [List.length_append, hl2]; omega) hr) ?_
    rintro _ w ⟨rfl, rest, hr, hs⟩
    repeat with_reducible refine mv.mk ?_
    have hl3 : (([] : Bytes) ++ [3] ++ encU leaf ++ encU chain).length = 1 + (encU leaf).length + (encU chain).length := by rw [List.length_append, hl2]
    refine cl (wots_number i hs (by omega) (by rw [List.length_append, hl3]; omega) hr) ?_
    rintro _ w ⟨rfl, rest, hr, hs⟩
    repeat with_reducible refine mv.mk ?_
    have hl4 : (([] : Bytes) ++ [3] ++ encU leaf ++ encU chain ++ encU i).length = 1 + (encU leaf).length + (encU chain).length + (encU i).length := by rw [List.length_append, hl3]
    generalize hm : ([] : Bytes) ++ [3] ++ encU leaf ++ encU chain ++ encU i = m at hs hr hl4 ⊢
    have hmx : next1 leaf chain i (stepsB leaf chain f (i - f) x) = shaB (m ++ stepsB leaf chain f (i - f) x) := by rw [← hm, next1]; simp
    generalize hv : stepsB leaf chain f (i - f) x = v at hs hlenS hmx
    refine sp_sla tHash (by decide) ?_
    refine sp_room (m := 32) (ys := u8s v) hs .hd tByt (.of fun S w hB => ?_) (u8s_length m) (by decide) (u8s_one _) (by omega) (by rw [List.length_append, u8s_length]; omega) fun w hs => ?_
    · have hsl := Sl.of_blk (n := 32) (m := 32) (o := 0) (sz := 1) (show Blk w g5 _ (u8s v) from hB) (by rw [u8s_length, hlenS]; decide) (Nat.le_refl _)
      rwa [List.drop_zero, List.take_of_length_le (by rw [u8s_length, hlenS]; decide)] at hsl
    rw [show u8s m ++ u8s v = u8s (m ++ v) by simp [u8s]] at hs
    have hl5 : (m ++ v).length = m.length + 32 := by rw [List.length_append, hlenS]
    rw [← hl5]
    refine cl (sum_blk (l := m ++ v) hs (.tl (.tl (.tl hR))) .hd (by omega) (by omega)) ?_
    rintro _ w ⟨rfl, hs⟩
    refine sp_all (ds := u8s (shaB (m ++ v))) hs (.tl .hd) (by kernel_rfl) ((u8s_length _).trans hlenS) ((u8s_length _).trans (shaB_len _)) (u8s_one _) fun w hs => ?_
    repeat with_reducible refine mv.mk ?_
    refine sn_add (by omega) ?_
    repeat with_reducible refine mv.mk ?_
    refine ⟨⟨i + 1, _, u8s (m ++ v) ++ rest.drop 32, rfl, by omega, .inr (by omega), ?_, ?_⟩, ?_⟩
    · rw [List.length_append, u8s_length, List.length_drop, hr, hl5]; omega
    · rw [show i + 1 - f = (i - f) + 1 by omega, stepsB_last, hv, show f + (i - f) = i by omega, hmx]
      exact hs
    · show (15 - ((i + 1 : Nat) : Int)).toNat < (15 - (i : Int)).toNat
      omega
  · have hq := of_decide_eq_false hq
    repeat with_reducible refine mv.mk ?_
    refine sp_loadall hs .hd (by kernel_rfl) ((u8s_length _).trans hlenS) ?_
    refine sp_ret hs (.tl (.tl .hd)) (by kernel_rfl) ((u8s_length _).trans hlenS) (u8s_one _) fun w hs => ?_
    have e : i - f = min to 15 - f := by omega
    rw [stepB, ← e]
    exact ⟨rfl, (hs.drop .hd).drop .hd⟩
end
end Go.Proofs.YtbbmgkbinnomgaaGreatDoor
set_option linter.unusedVariables false
set_option linter.unusedSimpArgs false
set_option linter.unusedSectionVars false
namespace Go.Proofs.YtbbmgkbinnomgaaGreatDoor
open Go Go.Isk Go.RowKit
set_option maxRecDepth 20000
/-- two digits of each byte -/
def digsB (d : Bytes) : List Nat := d.flatMap fun c => [c.toNat / 16, c.toNat % 16]
def restS (l : List Nat) : Nat := (l.map fun x => 15 - x).sum
def digitsB (d : Bytes) : List Nat := digsB d ++ [restS (digsB d) / 256 % 16, restS (digsB d) / 16 % 16, restS (digsB d) % 16]
def ints (l : List Nat) : List Value := l.map fun (n : Nat) => .int .i64 (n : Int)
theorem restS_push (l : List Nat) (x : Nat) : restS (l ++ [x]) = restS l + (15 - x) := by simp [restS]
theorem restS_le (l : List Nat) : restS l ≤ 15 * l.length := by
  induction l with
  | nil => exact Nat.le_refl _
  | cons x l ih => simp only [restS, List.map_cons, List.sum_cons, List.length_cons] at ih ⊢; omega
theorem digsB_len (d : Bytes) : (digsB d).length = 2 * d.length := by
  induction d with
  | nil => rfl
  | cons c d ih => simp only [digsB, List.flatMap_cons, List.length_append, List.length_cons, List.length_nil] at ih ⊢; omega
theorem digsB_push (d : Bytes) (c : UInt8) : digsB (d ++ [c]) = digsB d ++ [c.toNat / 16, c.toNat % 16] := by simp [digsB]
theorem digitsB_len (d : Bytes) : (digitsB d).length = 2 * d.length + 3 := by rw [digitsB, List.length_append, digsB_len]; rfl
theorem digsB_lt (d : Bytes) : ∀ x ∈ digsB d, x ≤ 15 := by
  intro x hx
  obtain ⟨c, _, hx⟩ := List.mem_flatMap.1 hx
  have := c.toNat_lt
  simp only [List.mem_cons, List.not_mem_nil, or_false] at hx
  omega
theorem digitsB_lt (d : Bytes) : ∀ x ∈ digitsB d, x ≤ 15 := by
  intro x hx
  rcases List.mem_append.1 hx with h | h
  · exact digsB_lt d x h
  · simp only [List.mem_cons, List.not_mem_nil, or_false] at h
    omega
section
variable {P : Program} {b : Base} {w : World} {L R : List It} {g : Nat} {v sv : Value} {cs xs : List Value} {l : Bytes} {k : Value → World → Prop} {n sz : Nat}
theorem sp_mk {T E by_ : Nat} {c : Int} (h : Isk.Sep b w L) (hT : slT P T E sz by_ = true) (n : Nat) (hc : c = n) (hb : by_ * n ≤ 140737488355328) (hn : n ≤ 140737488355328)
    (hk : ∀ v w', Isk.Sep b w' (rowI v E sz 0 [] :: L) → k v w') : o1 P (Instr.makeSlice T (.int .i64 0) (.int .i64 c)) w k := by
  obtain ⟨ht, _, i, z, hi, hz, hs, hby, _⟩ := slT.spec hT
  obtain ⟨w', hrun, ho, hg⟩ := run_make_own (P := P) w w.heap.size T E i z sz ht hi hz hs .i64 .i64 n (by rw [hby]; omega) (by simp only [maxLen]; omega) (Nat.le_refl _)
  subst hc
  refine st_of hrun (hk _ _ ?_)
  have hu : Ext w w' := ⟨hg.os, hg.tape, hg.output, hg.size, fun k hk _ => hg.block k hk (by simp)⟩
  exact h.add (I := rowI _ E sz 0 []) hu (fun k hk => ⟨own_ids ho k (by simpa [rowI] using hk), by simp [rowI, Value.ownBlock] at hk; omega⟩) (own0 ho)
theorem w_shr8 (w : World) {t : TypeId} {x1 x2 : Operand} {c : UInt8} : (bin .shr t x1 x2 (.int .u8 c.toNat) (.int .u64 4)).run P w = .ok (.int .u8 ((c.toNat / 16 : Nat) : Int)) w := by
  simp [go_sem, bin, IntKind.bits]
theorem w_and8 (w : World) {t : TypeId} {x1 x2 : Operand} {c : UInt8} : (bin .and t x1 x2 (.int .u8 c.toNat) (.int .u8 15)).run P w = .ok (.int .u8 ((c.toNat % 16 : Nat) : Int)) w := by
  have key : ∀ x : Fin 256, bits .and .u8 ((x.val : Nat) : Int) 15 = ((x.val % 16 : Nat) : Int) := by decide +kernel
  have h := key ⟨c.toNat, c.toNat_lt⟩
  simp only at h
  simp [go_sem, bin, h]
theorem w_andI (w : World) {t : TypeId} {x1 x2 : Operand} {x : Nat} (hx : x < 1024) : (bin .and t x1 x2 (.int .i64 (x : Int)) (.int .i64 15)).run P w = .ok (.int .i64 ((x % 16 : Nat) : Int)) w := by
  have key : ∀ x : Fin 1024, bits .and .i64 ((x.val : Nat) : Int) 15 = ((x.val % 16 : Nat) : Int) := by decide +kernel
  have h := key ⟨x, hx⟩
  simp only at h
  simp [go_sem, bin, h]
end
end Go.Proofs.YtbbmgkbinnomgaaGreatDoor
set_option linter.unusedVariables false
set_option linter.unusedSimpArgs false
set_option linter.unusedSectionVars false
namespace Go.Proofs.YtbbmgkbinnomgaaGreatDoor
open Go Go.Isk Go.RowKit
set_option maxRecDepth 20000
section
variable {b : Base} {w : World} {L R : List It} {g : Nat} {v sv : Value} {cs : List Value} {l : Bytes}
theorem tInts : slT Tryz.prog T.sl_int T.int 1 8 = true := by kernel_rfl
theorem tArr2 : arrT Tryz.prog T.arr2_int 2 = true := by kernel_rfl
theorem tOneI : oneT Tryz.prog T.int = true := by kernel_rfl
theorem w_shrI (w : World) {t : TypeId} {x1 x2 : Operand} {n j : Nat} (h : j < 64) (hn : n < 1024) : (bin .shr t x1 x2 (.int .i64 (n : Int)) (.int .u64 (j : Int))).run Tryz.prog w = .ok (.int .i64 ((n / 2 ^ j : Nat) : Int)) w := by
  have e2 : ¬ ((j : Int) < 0) := by omega
  have e3 : min j 64 = j := by omega
  have e4 : IntKind.i64.wrap ((n : Int) / (2 : Int) ^ j) = (n : Int) / (2 : Int) ^ j := by
    have := Nat.div_le_self n (2 ^ j)
    have e5 : (n : Int) / (2 : Int) ^ j = ((n / 2 ^ j : Nat) : Int) := by simp
    rw [e5]
    generalize n / 2 ^ j = q at this ⊢
    exact i64_wrap (by omega) (by omega)
  simp [go_sem, bin, e2, IntKind.bits, e3, e4]
theorem w_toI (w : World) {x : Nat} (hx : x < 256) : (convert T.uint8 T.int (.int .u8 (x : Int))).run Tryz.prog w = .ok (.int .i64 (x : Int)) w := by
  have hu1 : Tryz.prog.underlying T.uint8 = some (.int .u8) := by kernel_rfl
  have hu2 : Tryz.prog.underlying T.int = some (.int .i64) := by kernel_rfl
  simp only [convert, Sem.run_bind, run_underlying hu1, run_underlying hu2, Result.andThen_ok]
  show (Conv.intToInt .i64 (x : Int)).run Tryz.prog w = _
  simp only [Conv.intToInt, i64_wrap (show (-9223372036854775808 : Int) ≤ (x : Int) by omega) (by omega)]
  rfl
theorem sp_appI {T' : TypeId} {ls : List Nat} {n x : Nat} {k : Value → World → Prop} (hs : Isk.Sep b w L) (hm : Has L (rowI v T.int 1 n (ints ls)) R) (hn : n < 1000000)
    (hk : ∀ v' w', Isk.Sep b w' (rowI v' T.int 1 (n + 1) (ints (ls ++ [x])) :: R) → k v' w') :
    o1 Tryz.prog (Instr.buildSlice T.sl_int 1 #[(0, .int .i64 (x : Int))]) w fun u w => ob Tryz.prog (fun _ => Builtin.append_ #[T.sl_int, T.sl_int] T' #[v, u]) w k := by
  replace hs := hs.perm hm.perm
  refine sp_litv hs tInts rfl fun u w hs => ?_
  refine sp_app hs (.tl .hd) tInts (m := 1) .sl (by intro u hu; simp only [List.mem_cons, List.not_mem_nil, or_false] at hu; subst hu; rfl) (by omega) (by omega) fun v' w hs => hk v' w ?_
  have e : ints ls ++ [.int .i64 (x : Int)] = ints (ls ++ [x]) := by simp [ints]
  rw [e] at hs
  exact (hs.perm (.swap _ _ _)).drop .hd
theorem wots_Digits (hs : Isk.Sep b w L) (hm : Ins L (byF v l).it) (hl1 : 1 ≤ l.length) (hl2 : l.length ≤ 32) :
    C Tryz.prog N.wots_Digits #[v] w fun r w' => Isk.Sep b w' (rowI r T.int 1 (2 * l.length + 3) (ints (digitsB l)) :: L) := by
  have hok : digOk (l.length : Int) = true := by simp [digOk]; omega
  obtain ⟨A, c, hv0⟩ := bytesF_slice hs hm
  have hlen : ∀ w', (Builtin.len_ #[T.sl_uint8] T.int #[v]).run Tryz.prog w' = .ok (.int .i64 l.length) w' := fun w' => by rw [hv0]; simp [go_sem]
  clear hv0
  refine C.wots_Digits ?_
  unfold F.wots_Digits
  repeat with_reducible refine mv.mk ?_
  refine st_of (hlen w) ?_
  refine cl (wots_digest (n := (l.length : Int))) ?_
  rintro _ w ⟨rfl, rfl⟩
  rw [hok]
  refine st_un fun k' hk => ?_; simp [go_sem, thenR_ok]; refine hk _ _ ?_; clear hk k'
  refine br_f ?_
  repeat with_reducible refine mv.mk ?_
  refine st_of (hlen _) ?_
  refine cl (wots_Len hok) ?_
  rintro _ w ⟨rfl, rfl⟩
  refine sp_mk hs tInts (2 * l.length + 3) (by omega) (by omega) (by omega) fun v0 w hs => ?_
  repeat with_reducible refine mv.mk ?_
  refine st_of (hlen w) ?_
  repeat with_reducible refine mv.mk ?_
  refine lp_by (fun us w' => ∃ (i : Nat) (v1 y6 y8 y31 : Value), us = [v1, .int .i64 ((restS (digsB (l.take i)) : Nat) : Int), y6, y8, .int .i64 (i : Int), y31] ∧ i ≤ l.length ∧ Isk.Sep b w' (rowI v1 T.int 1 (2 * i) (ints (digsB (l.take i))) :: L)) (fun us _ => match us with | [_, _, _, _, .int _ i, _] => (l.length - i).toNat | _ => 0) ⟨0, v0, undef, undef, undef, rfl, Nat.zero_le _, hs⟩ ?_
  clear hs w
  rintro x1 w ⟨i, v1, y6, y8, y31, hx1, hi, hs⟩
  simp only [List.cons.injEq, and_true] at hx1
  simp only [hx1.1, hx1.2.1, hx1.2.2.1, hx1.2.2.2.1, hx1.2.2.2.2.1, hx1.2.2.2.2.2]
  have hrl := restS_le (digsB (l.take i))
  rw [digsB_len, List.length_take] at hrl
  repeat (first
   | (with_reducible (first | refine st_lens ?_ | refine mv.mk ?_ | refine br_t ?_ | refine br_f ?_))
   | (with_reducible ((first | apply st_bin | apply st_len | apply st_un | apply st_conv | apply st_ixv); intro k' hk; simp [go_sem, thenR_ok, bin]; refine hk _ _ ?_; clear hk k')))
  refine br_split (fun hq => ?_) (fun hq => ?_)
  · have hq := of_decide_eq_true hq
    have hil : i < l.length := by omega
    refine byte_at (hs.get (.tl hm)).1 hil ?_
    have hcl := l[i].toNat_lt
    repeat with_reducible refine mv.mk ?_
    refine st_of (w_shr8 w) ?_
    refine st_of (w_toI w (by omega)) ?_
    repeat with_reducible refine mv.mk ?_
    refine st_of (w_and8 w) ?_
    refine st_of (w_toI w (by omega)) ?_
    refine st_build (cells := #[.int .i64 ((l[i].toNat / 16 : Nat) : Int), .int .i64 ((l[i].toNat % 16 : Nat) : Int)]) (by kernel_rfl) ?_
    repeat with_reducible refine mv.mk ?_
    refine lp_by (fun us w' => ∃ (j : Nat) (v2 y : Value), us = [v2, .int .i64 ((restS (digsB (l.take i) ++ [l[i].toNat / 16, l[i].toNat % 16].take j) : Nat) : Int), y, .int .i64 (j : Int)] ∧ j ≤ 2 ∧ Isk.Sep b w' (rowI v2 T.int 1 (2 * i + j) (ints (digsB (l.take i) ++ [l[i].toNat / 16, l[i].toNat % 16].take j)) :: L)) (fun us _ => match us with | [_, _, _, .int _ i] => (2 - i).toNat | _ => 0) ⟨0, v1, y8, by rw [List.take_zero, List.append_nil]; rfl, by omega, by rw [List.take_zero, List.append_nil]; exact hs⟩ ?_
    clear hs w
    rintro x2 w ⟨j, v2, y, hx2, hj, hs⟩
    simp only [List.cons.injEq, and_true] at hx2
    simp only [hx2.1, hx2.2.1, hx2.2.2.1, hx2.2.2.2]
    repeat (first
     | (with_reducible (first | refine st_lens ?_ | refine mv.mk ?_ | refine br_t ?_ | refine br_f ?_))
     | (with_reducible ((first | apply st_bin | apply st_len | apply st_un | apply st_conv | apply st_ixv); intro k' hk; simp [go_sem, thenR_ok, bin]; refine hk _ _ ?_; clear hk k')))
    refine br_split (fun hq2 => ?_) (fun hq2 => ?_)
    · have hq2 := of_decide_eq_true hq2
      have hj2 : j < 2 := by omega
      have hrl2 := restS_le (digsB (l.take i) ++ [l[i].toNat / 16, l[i].toNat % 16].take j)
      rw [List.length_append, digsB_len, List.length_take, List.length_take] at hrl2
      have hrl2 : restS (digsB (l.take i) ++ [l[i].toNat / 16, l[i].toNat % 16].take j) ≤ 15 * 66 := by
        refine Nat.le_trans hrl2 (Nat.mul_le_mul_left 15 ?_)
        simp only [List.length_cons, List.length_nil]
        omega
      obtain ⟨d, hd, hd15, hdt⟩ : ∃ d : Nat, [l[i].toNat / 16, l[i].toNat % 16][j]? = some d ∧ d ≤ 15 ∧ [l[i].toNat / 16, l[i].toNat % 16].take (j + 1) = [l[i].toNat / 16, l[i].toNat % 16].take j ++ [d] := by
        have : j = 0 ∨ j = 1 := by omega
        rcases this with rfl | rfl
        · exact ⟨_, rfl, by omega, rfl⟩
        · exact ⟨_, rfl, by omega, rfl⟩
      have hix : (Instr.index T.arr2_int (.agg (ints [l[i].toNat / 16, l[i].toNat % 16]).toArray) (.int .i64 (j : Int))).run Tryz.prog w = .ok (.int .i64 (d : Int)) w :=
        ixv_run tArr2 j rfl hj2 (by rw [ints, List.getElem?_map, hd]; rfl) rfl w (fun e he => by
          have h2 : Tryz.prog.underlying T.arr2_int = some (.array 2 T.int) := by kernel_rfl
          rw [h2] at he
          injection he with he
          injection he with _ he
          subst he
          exact tOneI)
      refine st_of hix ?_
      repeat with_reducible refine mv.mk ?_
      refine sp_appI (x := d) hs .hd (by omega) fun v3 w hs => ?_
      repeat with_reducible refine mv.mk ?_
      have hsub : (bin .sub T.int (.const (.int .i64 15)) (.tmp 39) (.int .i64 15) (.int .i64 (d : Int))).run Tryz.prog w = .ok (.int .i64 ((15 - d : Nat) : Int)) w := by
        simp [go_sem, bin, i64_wrap (show (-9223372036854775808 : Int) ≤ 15 - (d : Int) by omega) (by omega)]
        omega
      refine st_of hsub ?_
      refine sn_add (by omega) ?_
      repeat with_reducible refine mv.mk ?_
      refine sn_add (by omega) ?_
      repeat with_reducible refine mv.mk ?_
      refine ⟨⟨j + 1, v3, .int .i64 (d : Int), ?_, by omega, ?_⟩, ?_⟩
      · rw [hdt, ← List.append_assoc, restS_push]
        simp
      · rw [hdt, ← List.append_assoc]
        exact hs
      · show (2 - ((j + 1 : Nat) : Int)).toNat < (2 - (j : Int)).toNat
        omega
    · have hq2 := of_decide_eq_false hq2
      have hj2 : j = 2 := by omega
      subst hj2
      refine sn_add (by omega) ?_
      repeat with_reducible refine mv.mk ?_
      have e : digsB (l.take i) ++ [l[i].toNat / 16, l[i].toNat % 16].take 2 = digsB (l.take (i + 1)) := by
        rw [List.take_succ_eq_append_getElem hil, digsB_push]
        rfl
      rw [e] at hs
      refine ⟨⟨i + 1, v2, _, _, _, by rw [e]; rfl, by omega, hs⟩, ?_⟩
      show ((l.length : Int) - ((i + 1 : Nat) : Int)).toNat < ((l.length : Int) - (i : Int)).toNat
      omega
  · have hq := of_decide_eq_false hq
    have hie : i = l.length := by omega
    subst hie
    rw [List.take_length] at hs hrl ⊢
    have hr1 : restS (digsB l) < 1024 := by omega
    repeat with_reducible refine mv.mk ?_
    refine lp_by (fun us w' => ∃ (j : Nat) (v2 : Value), us = [v2, .int .i64 (8 - 4 * (j : Int))] ∧ j ≤ 3 ∧ Isk.Sep b w' (rowI v2 T.int 1 (2 * l.length + j) (ints (digsB l ++ [restS (digsB l) / 256 % 16, restS (digsB l) / 16 % 16, restS (digsB l) % 16].take j)) :: L)) (fun us _ => match us with | [_, .int _ i] => (i + 4).toNat | _ => 0) ⟨0, v1, rfl, by omega, by rw [List.take_zero, List.append_nil]; exact hs⟩ ?_
    clear hs w
    rintro x3 w ⟨j, v2, hx3, hj, hs⟩
    simp only [List.cons.injEq, and_true] at hx3
    simp only [hx3.1, hx3.2]
    by_cases hj3 : j = 3
    · subst hj3
      repeat (first
       | (with_reducible (first | refine st_lens ?_ | refine mv.mk ?_ | refine br_t ?_ | refine br_f ?_))
       | (with_reducible ((first | apply st_bin | apply st_len | apply st_un | apply st_conv | apply st_ixv); intro k' hk; simp [go_sem, thenR_ok, bin]; refine hk _ _ ?_; clear hk k')))
      exact hs
    · have hx : (8 - 4 * (j : Int)) = ((8 - 4 * j : Nat) : Int) := by omega
      rw [hx]
      have hge : ∀ (o1 o2 : Operand), (bin .geq T.int o1 o2 (.int .i64 ((8 - 4 * j : Nat) : Int)) (.int .i64 0)).run Tryz.prog w = .ok (.bool true) w := fun o1 o2 => by
        simp [go_sem, bin]
      repeat with_reducible refine mv.mk ?_
      refine st_of (hge _ _) ?_
      refine br_t ?_
      repeat with_reducible refine mv.mk ?_
      refine st_of (n_u w (by kernel_rfl) (by kernel_rfl) (by omega)) ?_
      refine st_of (w_shrI w (by omega) hr1) ?_
      refine st_of (w_andI w (Nat.lt_of_le_of_lt (Nat.div_le_self _ _) hr1)) ?_
      refine sp_appI (x := restS (digsB l) / 2 ^ (8 - 4 * j) % 16) hs .hd (by omega) fun v3 w hs => ?_
      repeat with_reducible refine mv.mk ?_
      have hsub : (bin .sub T.int (.tmp 46) (.const (.int .i64 4)) (.int .i64 ((8 - 4 * j : Nat) : Int)) (.int .i64 4)).run Tryz.prog w = .ok (.int .i64 (8 - 4 * ((j + 1 : Nat) : Int))) w := by
        simp [go_sem, bin, i64_wrap (show (-9223372036854775808 : Int) ≤ ((8 - 4 * j : Nat) : Int) - 4 by omega) (by omega)]
        omega
      refine st_of hsub ?_
      repeat with_reducible refine mv.mk ?_
      refine ⟨⟨j + 1, v3, rfl, by omega, ?_⟩, ?_⟩
      · have e : [restS (digsB l) / 256 % 16, restS (digsB l) / 16 % 16, restS (digsB l) % 16].take (j + 1) = [restS (digsB l) / 256 % 16, restS (digsB l) / 16 % 16, restS (digsB l) % 16].take j ++ [restS (digsB l) / 2 ^ (8 - 4 * j) % 16] := by
          have : j = 0 ∨ j = 1 ∨ j = 2 := by omega
          rcases this with rfl | rfl | rfl
          · rfl
          · rfl
          · simp
        rw [e, ← List.append_assoc]
        exact hs
      · show (8 - 4 * ((j + 1 : Nat) : Int) + 4).toNat < (((8 - 4 * j : Nat) : Int) + 4).toNat
        omega
end
end Go.Proofs.YtbbmgkbinnomgaaGreatDoor
