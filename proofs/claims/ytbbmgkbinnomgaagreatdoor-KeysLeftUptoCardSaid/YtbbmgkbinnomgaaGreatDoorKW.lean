/- Words of 32 bits, and arrays in a block of one's own. -/
import Derived.Test.YtbbmgkbinnomgaaGreatDoorKT
import Derived.Test.YtbbmgkbinnomgaaGreatDoorM5
set_option linter.unusedVariables false
set_option linter.unusedSimpArgs false
set_option linter.unusedSectionVars false
namespace Go.Isk
open Go Go.RowKit
def u32v (x : UInt32) : Value := .int .u32 x.toNat
section
variable {P : Program} {b : Base} {w : World} {L R : List It} {g o : Nat} {k : Value → World → Prop} {kt : Value → Prop} {S : World → Prop} {t : TypeId} {cs ds : List Value} {v x : Value} {x1 x2 : Operand} {a c : UInt32}
theorem u32_wrap (n : Int) : IntKind.u32.wrap n = n % 4294967296 := by simp [IntKind.wrap, IntKind.signed, IntKind.bits]
theorem u32v_eq {n : Int} (h : IntKind.u32.wrap n = (a.toNat : Int)) : Value.int .u32 (IntKind.u32.wrap n) = u32v a := by rw [h]; rfl
theorem w_add (w : World) : (bin .add t x1 x2 (u32v a) (u32v c)).run P w = .ok (u32v (a + c)) w := by
  have e : IntKind.u32.wrap ((a.toNat : Int) + c.toNat) = ((a + c).toNat : Int) := by rw [u32_wrap, UInt32.toNat_add]; omega
  simp [go_sem, bin, u32v, e]
theorem w_bits (op : BinOp) (f : BitVec 32 → BitVec 32 → BitVec 32) (r : UInt32) (hr : r.toBitVec = f a.toBitVec c.toBitVec) : IntKind.u32.wrap ((f (BitVec.ofInt 32 a.toNat) (BitVec.ofInt 32 c.toNat)).toNat : Int) = (r.toNat : Int) := by
  have h : ∀ x : UInt32, BitVec.ofInt 32 (x.toNat : Int) = x.toBitVec := fun x => by
    rw [BitVec.ofInt_natCast]
    exact BitVec.eq_of_toNat_eq (by simp)
  rw [h, h, ← hr, u32_wrap]
  have := r.toNat_lt
  show ((r.toNat : Int)) % 4294967296 = _
  omega
theorem w_xor (w : World) : (bin .xor t x1 x2 (u32v a) (u32v c)).run P w = .ok (u32v (a ^^^ c)) w := by
  have e := w_bits (a := a) (c := c) .xor (· ^^^ ·) (a ^^^ c) rfl
  simp only [bin, go_sem, u32v]
  simp [go_sem, Op.intBits, IntKind.bits]
  exact e
theorem w_and (w : World) : (bin .and t x1 x2 (u32v a) (u32v c)).run P w = .ok (u32v (a &&& c)) w := by
  have e := w_bits (a := a) (c := c) .and (· &&& ·) (a &&& c) rfl
  simp [go_sem, bin, u32v]
  exact e
theorem w_or (w : World) : (bin .or t x1 x2 (u32v a) (u32v c)).run P w = .ok (u32v (a ||| c)) w := by
  have e := w_bits (a := a) (c := c) .or (· ||| ·) (a ||| c) rfl
  simp [go_sem, bin, u32v]
  exact e
theorem w_not (w : World) : (Op.unary .xor (u32v a)).run P w = .ok (u32v (4294967295 ^^^ a)) w := by
  have e := w_bits (a := 4294967295) (c := a) .xor (· ^^^ ·) (4294967295 ^^^ a) rfl
  simp [go_sem, u32v]
  exact e
theorem w_shl (w : World) {q : IntKind} {i : Int} (h : 0 ≤ i ∧ i < 32) : (bin .shl t x1 x2 (u32v a) (.int q i)).run P w = .ok (u32v (shlN a i.toNat)) w := by
  obtain ⟨n, rfl⟩ := Int.eq_ofNat_of_zero_le h.1
  have e : IntKind.u32.wrap ((a.toNat : Int) * 2 ^ n) = ((shlN a n).toNat : Int) := by
    rw [u32_wrap, shlN, UInt32.toNat_ofNat']
    rw [show (a.toNat : Int) * 2 ^ n = ((a.toNat * 2 ^ n : Nat) : Int) by simp]
    omega
  have e2 : ¬ ((n : Int) < 0) := by omega
  have e3 : min n 32 = n := by omega
  simp [go_sem, bin, u32v, e2, IntKind.bits, e3, e]
theorem w_shr (w : World) {q : IntKind} {i : Int} (h : 0 ≤ i ∧ i < 32) : (bin .shr t x1 x2 (u32v a) (.int q i)).run P w = .ok (u32v (shrN a i.toNat)) w := by
  obtain ⟨n, rfl⟩ := Int.eq_ofNat_of_zero_le h.1
  have e : (a.toNat : Int).fdiv (2 ^ n) = ((shrN a n).toNat : Int) := by
    rw [shrN, UInt32.toNat_ofNat']
    rw [show (2 ^ n : Int) = ((2 ^ n : Nat) : Int) by simp]
    have := a.toNat_lt
    have h2 : a.toNat / 2 ^ n ≤ a.toNat := Nat.div_le_self _ _
    rw [Int.fdiv_eq_ediv_of_nonneg _ (Int.natCast_nonneg _), ← Int.natCast_ediv]
    rw [Nat.mod_eq_of_lt (by omega)]
  have e2 : ¬ ((n : Int) < 0) := by omega
  have e3 : min n 32 = n := by omega
  have e4 : (a.toNat : Int) / 2 ^ n = ((shrN a n).toNat : Int) := by
    rw [← e, Int.fdiv_eq_ediv_of_nonneg _ (Int.pow_nonneg (by decide))]
  simp [go_sem, bin, u32v, e2, IntKind.bits, e3, e4]
theorem w_ofu8 {src dst : TypeId} {c : UInt8} (h1 : P.underlying src = some (.int .u8)) (h2 : P.underlying dst = some (.int .u32)) (w : World) : (convert src dst (.int .u8 c.toNat)).run P w = .ok (u32v (b2w c)) w := by
  have e : IntKind.u32.wrap (c.toNat : Int) = ((b2w c).toNat : Int) := by rw [u32_wrap, b2w, UInt32.toNat_ofNat']; omega
  simp only [convert, Sem.run_bind, run_underlying h1, run_underlying h2, Result.andThen_ok]
  simp [Conv.intToInt, u32v, e]
theorem w_tou8 {src dst : TypeId} (h1 : P.underlying src = some (.int .u32)) (h2 : P.underlying dst = some (.int .u8)) (w : World) : (convert src dst (u32v a)).run P w = .ok (.int .u8 ((UInt8.ofNat a.toNat).toNat)) w := by
  have e : IntKind.u8.wrap (a.toNat : Int) = ((UInt8.ofNat a.toNat).toNat : Int) := u8_nat _
  simp only [convert, u32v, Sem.run_bind, run_underlying h1, run_underlying h2, Result.andThen_ok]
  show (Conv.intToInt .u8 (a.toNat : Int)).run P w = _
  simp only [Conv.intToInt, e]
  rfl
theorem sw_add (hk : k (u32v (a + c)) w) : o1 P (bin .add t x1 x2 (u32v a) (u32v c)) w k := st_of (w_add w) hk
theorem tw_add (hk : kt (u32v (a + c))) : tk P S (bin .add t x1 x2 (u32v a) (u32v c)) kt := tk_run w_add hk
theorem sw_xor (hk : k (u32v (a ^^^ c)) w) : o1 P (bin .xor t x1 x2 (u32v a) (u32v c)) w k := st_of (w_xor w) hk
theorem tw_xor (hk : kt (u32v (a ^^^ c))) : tk P S (bin .xor t x1 x2 (u32v a) (u32v c)) kt := tk_run w_xor hk
theorem sw_and (hk : k (u32v (a &&& c)) w) : o1 P (bin .and t x1 x2 (u32v a) (u32v c)) w k := st_of (w_and w) hk
theorem tw_and (hk : kt (u32v (a &&& c))) : tk P S (bin .and t x1 x2 (u32v a) (u32v c)) kt := tk_run w_and hk
theorem sw_or (hk : k (u32v (a ||| c)) w) : o1 P (bin .or t x1 x2 (u32v a) (u32v c)) w k := st_of (w_or w) hk
theorem tw_or (hk : kt (u32v (a ||| c))) : tk P S (bin .or t x1 x2 (u32v a) (u32v c)) kt := tk_run w_or hk
theorem sw_not (hk : k (u32v (4294967295 ^^^ a)) w) : o1 P (Op.unary .xor (u32v a)) w k := st_of (w_not w) hk
theorem tw_not (hk : kt (u32v (4294967295 ^^^ a))) : tk P S (Op.unary .xor (u32v a)) kt := tk_run w_not hk
theorem tw_ones (hk : kt (u32v (4294967295 ^^^ a))) : tk P S (bin .xor t x1 x2 (.int .u32 4294967295) (u32v a)) kt := tk_run (fun w => w_xor (a := 4294967295) (c := a) (t := t) (x1 := x1) (x2 := x2) w) hk
theorem sw_shl {q : IntKind} {i : Int} (h : 0 ≤ i ∧ i < 32) (hk : k (u32v (shlN a i.toNat)) w) : o1 P (bin .shl t x1 x2 (u32v a) (.int q i)) w k := st_of (w_shl w h) hk
theorem tw_shl {q : IntKind} {i : Int} (h : 0 ≤ i ∧ i < 32) (hk : kt (u32v (shlN a i.toNat))) : tk P S (bin .shl t x1 x2 (u32v a) (.int q i)) kt := tk_run (fun w => w_shl w h) hk
theorem sw_shr {q : IntKind} {i : Int} (h : 0 ≤ i ∧ i < 32) (hk : k (u32v (shrN a i.toNat)) w) : o1 P (bin .shr t x1 x2 (u32v a) (.int q i)) w k := st_of (w_shr w h) hk
theorem tw_shr {q : IntKind} {i : Int} (h : 0 ≤ i ∧ i < 32) (hk : kt (u32v (shrN a i.toNat))) : tk P S (bin .shr t x1 x2 (u32v a) (.int q i)) kt := tk_run (fun w => w_shr w h) hk
theorem tw_of {src dst : TypeId} {c : UInt8} (h1 : P.underlying src = some (.int .u8)) (h2 : P.underlying dst = some (.int .u32)) (hk : kt (u32v (b2w c))) : tk P S (convert src dst (.int .u8 c.toNat)) kt := tk_run (w_ofu8 h1 h2) hk
/-! whole numbers as places -/
variable {m n : Int} {q : IntKind}
theorem n_add (w : World) (h1 : -9223372036854775808 ≤ m + n ∧ m + n ≤ 9223372036854775807) : (bin .add t x1 x2 (.int .i64 m) (.int .i64 n)).run P w = .ok (.int .i64 (m + n)) w := by
  have e := i64_wrap h1.1 h1.2
  simp [go_sem, bin, e]
theorem n_sub (w : World) (h1 : -9223372036854775808 ≤ m - n ∧ m - n ≤ 9223372036854775807) : (bin .sub t x1 x2 (.int .i64 m) (.int .i64 n)).run P w = .ok (.int .i64 (m - n)) w := by
  have e := i64_wrap h1.1 h1.2
  simp [go_sem, bin, e]
theorem n_mul (w : World) (h1 : -9223372036854775808 ≤ m * n ∧ m * n ≤ 9223372036854775807) : (bin .mul t x1 x2 (.int .i64 m) (.int .i64 n)).run P w = .ok (.int .i64 (m * n)) w := by
  have e := i64_wrap h1.1 h1.2
  simp [go_sem, bin, e]
theorem sn_add (h1 : -9223372036854775808 ≤ m + n ∧ m + n ≤ 9223372036854775807) (hk : k (.int .i64 (m + n)) w) : o1 P (bin .add t x1 x2 (.int .i64 m) (.int .i64 n)) w k := st_of (n_add w h1) hk
theorem tn_add (h1 : -9223372036854775808 ≤ m + n ∧ m + n ≤ 9223372036854775807) (hk : kt (.int .i64 (m + n))) : tk P S (bin .add t x1 x2 (.int .i64 m) (.int .i64 n)) kt := tk_run (fun w => n_add w h1) hk
theorem sn_sub (h1 : -9223372036854775808 ≤ m - n ∧ m - n ≤ 9223372036854775807) (hk : k (.int .i64 (m - n)) w) : o1 P (bin .sub t x1 x2 (.int .i64 m) (.int .i64 n)) w k := st_of (n_sub w h1) hk
theorem tn_sub (h1 : -9223372036854775808 ≤ m - n ∧ m - n ≤ 9223372036854775807) (hk : kt (.int .i64 (m - n))) : tk P S (bin .sub t x1 x2 (.int .i64 m) (.int .i64 n)) kt := tk_run (fun w => n_sub w h1) hk
theorem sn_mul (h1 : -9223372036854775808 ≤ m * n ∧ m * n ≤ 9223372036854775807) (hk : k (.int .i64 (m * n)) w) : o1 P (bin .mul t x1 x2 (.int .i64 m) (.int .i64 n)) w k := st_of (n_mul w h1) hk
theorem tn_mul (h1 : -9223372036854775808 ≤ m * n ∧ m * n ≤ 9223372036854775807) (hk : kt (.int .i64 (m * n))) : tk P S (bin .mul t x1 x2 (.int .i64 m) (.int .i64 n)) kt := tk_run (fun w => n_mul w h1) hk
def arrT (P : Program) (T n : Nat) : Bool := match P.underlying T with
  | some (.array len e) => Nat.beq len n && (match P.info? e with | some i => Nat.beq i.size 1 | none => false)
  | _ => false
theorem ixa_run {T len : Nat} (hT : arrT P T len = true) {g o : Nat} (j : Nat) (hj : m = j) (hl : j < len) (w : World) : (Instr.indexAt T (.pointer (some ⟨g, o, none⟩)) (.int q m)).run P w = .ok (.pointer (some ⟨g, o + j, none⟩)) w := by
  subst hj
  unfold arrT at hT
  split at hT
  · rename_i len' e he
    split at hT
    · rename_i i hi
      simp only [Bool.and_eq_true] at hT
      obtain rfl := Nat.eq_of_beq_eq_true hT.1
      have hs := Nat.eq_of_beq_eq_true hT.2
      have hc : (j : Int) < (len' : Int) := by omega
      cases j with
      | zero => simp [Instr.indexAt, asIntOf, run_underlying he, sizeOf, typeInfo, hi, hs, go_sem, Addr.add]; omega
      | succ j => simp [Instr.indexAt, asIntOf, run_underlying he, sizeOf, typeInfo, hi, hs, hc, go_sem, Addr.add]; omega
    · simp at hT
  · cases hT
theorem sx_arr {T len : Nat} (hT : arrT P T len = true) {g o : Nat} (j : Nat) (hj : m = j) (hl : j < len) (hk : k (.pointer (some ⟨g, o + j, none⟩)) w) : o1 P (Instr.indexAt T (.pointer (some ⟨g, o, none⟩)) (.int q m)) w k := st_of (ixa_run hT j hj hl w) hk
theorem tx_arr {T len : Nat} (hT : arrT P T len = true) {g o : Nat} (j : Nat) (hj : m = j) (hl : j < len) (hk : kt (.pointer (some ⟨g, o + j, none⟩))) : tk P S (Instr.indexAt T (.pointer (some ⟨g, o, none⟩)) (.int q m)) kt := tk_run (fun w => ixa_run hT j hj hl w) hk
theorem ixs_run {T E by_ len cap : Nat} (hT : slT P T E 1 by_ = true) {g o : Nat} (j : Nat) (hj : m = j) (hl : j < len) (w : World) : (Instr.indexAt T (.slice (some ⟨g, o, none⟩) len cap) (.int q m)).run P w = .ok (.pointer (some ⟨g, o + j, none⟩)) w := by
  subst hj
  obtain ⟨h1, _, i, z, h2, h3, h4, h5, h6⟩ := slT.spec hT
  have hc : (j : Int) < (len : Int) := by omega
  simp [Instr.indexAt, asIntOf, run_underlying h1, sizeOf, typeInfo, h2, h4, hc, Addr.add_mid, hl]
theorem tx_sl {T E by_ len cap : Nat} (hT : slT P T E 1 by_ = true) {g o : Nat} (j : Nat) (hj : m = j) (hl : j < len) (hk : kt (.pointer (some ⟨g, o + j, none⟩))) : tk P S (Instr.indexAt T (.slice (some ⟨g, o, none⟩) len cap) (.int q m)) kt := tk_run (fun w => ixs_run hT j hj hl w) hk
theorem tx_ld {T p : Nat} (hS : ∀ w, S w → Mayr L w) (hr : Rng L g o cs) (ht : oneT P T = true) (hx : cs[p]? = some x) (hk : kt x) : tk P S (Instr.loadAt T (.pointer (some ⟨g, o + p, none⟩))) kt :=
  tk_of _ (fun w hw => load_one ht (range_cell ((hS w hw).rng hr) hx)) hk
theorem sx_st {T p : Nat} (h : Sep b w L) (hm : Has L (blkI g t cs) R) (hi : (P.info? T).map (·.size) = some 1) (hv : v.cells = #[v] ∧ v.oneCell' = true) (hl : p < cs.length)
    (hk : ∀ w', Sep b w' (blkI g t (cs.set p v) :: R) → k undef w') : o0 P (Instr.storeAt T (.pointer (some ⟨g, 0 + p, none⟩)) v) w k := by
  rw [Nat.zero_add]; exact sp_store1 h hm hi hv hl hk
theorem u32v_one : (u32v a).cells = #[u32v a] ∧ (u32v a).oneCell' = true := ⟨rfl, rfl⟩
/-- a value's place in an array that is a value -/
theorem ixv_run {T len : Nat} (hT : arrT P T len = true) (j : Nat) (hj : m = j) (hl : j < len) (hx : cs[j]? = some x) (h1 : x.cells = #[x]) (w : World) (hp : ∀ e, P.underlying T = some (.array len e) → oneT P e = true) : (Instr.index T (.agg cs.toArray) (.int q m)).run P w = .ok x w := by
  subst hj
  unfold arrT at hT
  split at hT
  · rename_i len' e he
    split at hT
    · rename_i i hi
      simp only [Bool.and_eq_true] at hT
      obtain rfl := Nat.eq_of_beq_eq_true hT.1
      have hs := Nat.eq_of_beq_eq_true hT.2
      have hc : (j : Int) < (len' : Int) := by omega
      obtain ⟨d, hd, hrow, _⟩ := oneT.spec (hp e he)
      have ha : (isAgg e).run P w = .ok false w := by
        simp only [isAgg, Sem.run_bind, run_underlying hd, Result.andThen_ok]
        cases d <;> simp_all [TypeDesc.isRow]
      simp [Instr.index, asIntOf, run_underlying he, sizeOf, typeInfo, hi, hs, hc, part, ha, hx, hl]
    · simp at hT
  · cases hT
theorem arrT.spec {T n : Nat} (hT : arrT P T n = true) : ∃ e i, P.underlying T = some (.array n e) ∧ P.info? e = some i ∧ i.size = 1 := by
  unfold arrT at hT
  split at hT
  · rename_i len' e he
    split at hT
    · rename_i i hi
      simp only [Bool.and_eq_true] at hT
      obtain rfl := Nat.eq_of_beq_eq_true hT.1
      exact ⟨e, i, he, hi, Nat.eq_of_beq_eq_true hT.2⟩
    · simp at hT
  · cases hT
/-- an array's whole, as a slice -/
theorem sla_all {T n : Nat} (hT : arrT P T n = true) (hn : 0 < n) {g : Nat} (w : World) : (Instr.sliceAt T (.pointer (some ⟨g, 0, none⟩)) none none none).run P w = .ok (.slice (some ⟨g, 0, none⟩) n n) w := by
  obtain ⟨e, i, he, hi, hs⟩ := arrT.spec hT
  simp [Instr.sliceAt, run_underlying he, go_sem, sizeOf, typeInfo, hi, hs]
/-- .. and a piece of it -/
theorem sla_mid {T n : Nat} (hT : arrT P T n = true) {g : Nat} {x y : Int} (lo hi : Nat) (hx : x = lo) (hy : y = hi) (h1 : lo < hi) (h2 : hi ≤ n) (w : World) : (Instr.sliceAt T (.pointer (some ⟨g, 0, none⟩)) (some (.int .i64 x)) (some (.int .i64 y)) none).run P w = .ok (.slice (some ⟨g, 0 + lo, none⟩) (hi - lo) (n - lo)) w := by
  subst hx hy
  obtain ⟨e, i, he, hi', hs⟩ := arrT.spec hT
  have e1 : ¬ ((hi : Int) < (lo : Int)) := by omega
  simp [Instr.sliceAt, run_underlying he, go_sem, sizeOf, typeInfo, hi', hs, h2, Nat.le_of_lt h1, show ¬ n = lo by omega]
theorem sp_sla {T n : Nat} (hT : arrT P T n = true) (hn : 0 < n) (hk : k (.slice (some ⟨g, 0, none⟩) n n) w) : o1 P (Instr.sliceAt T (.pointer (some ⟨g, 0, none⟩)) none none none) w k := st_of (sla_all hT hn w) hk
theorem sp_copy {T E by_ dn dc m : Nat} {U T' : TypeId} {ys : List Value} (h : Sep b w L) (hm : Has L (blkI g t cs) R) (hT : slT P T E 1 by_ = true) (hx : Rds R x m 1 ys) (h1 : ∀ u ∈ ys, u.oneCell' = true) (hd : dn ≤ cs.length)
    (hk : ∀ w', Sep b w' (blkI g t (ys.take dn ++ cs.drop (min m dn)) :: R) → k (.int .i64 (min m dn : Nat)) w') : ob P (fun _ => Builtin.copy_ #[T, U] T' #[.slice (some ⟨g, 0, none⟩) dn dc, x]) w k :=
  st_copy (o := 0) hT (h.blk hm) ((h.drop hm).reads hx) h1 (by simpa using hd) fun w' hb hu => hk w' (h.reblk hm hu (by simpa using hb))
/-- a number's byte -/
theorem w_byte {src dst : TypeId} {n i : Nat} (h1 : P.underlying src = some (.int .u64)) (h2 : P.underlying dst = some (.int .u8)) (w : World) : (convert src dst (.int .u64 ((n / 2 ^ (8 * i) : Nat) : Int))).run P w = .ok (.int .u8 ((byN n i).toNat)) w := by
  simp only [convert, Sem.run_bind, run_underlying h1, run_underlying h2, Result.andThen_ok]
  show (Conv.intToInt .u8 ((n / 2 ^ (8 * i) : Nat) : Int)).run P w = _
  simp only [Conv.intToInt, u8_nat]
  rfl
theorem w_shr64 (w : World) {n : Nat} {i : Int} (j : Nat) (hj : i = j) (h : j < 64) : (bin .shr t x1 x2 (.int .u64 (n : Int)) (.int q i)).run P w = .ok (.int .u64 ((n / 2 ^ j : Nat) : Int)) w := by
  subst hj
  have e2 : ¬ ((j : Int) < 0) := by omega
  have e3 : min j 64 = j := by omega
  simp [go_sem, bin, e2, IntKind.bits, e3]
theorem w_byte32 {src dst : TypeId} {i : Nat} (h1 : P.underlying src = some (.int .u32)) (h2 : P.underlying dst = some (.int .u8)) (w : World) : (convert src dst (u32v (shrN a (8 * i)))).run P w = .ok (.int .u8 ((byN a.toNat i).toNat)) w := by
  rw [w_tou8 h1 h2]
  have : UInt8.ofNat (shrN a (8 * i)).toNat = byN a.toNat i := by
    unfold shrN byN
    have h3 := a.toNat_lt
    have h4 : a.toNat / 2 ^ (8 * i) ≤ a.toNat := Nat.div_le_self _ _
    rw [UInt32.toNat_ofNat', Nat.mod_eq_of_lt (by omega)]
  rw [this]
theorem n_u (w : World) {src dst : TypeId} {n : Nat} (h1 : P.underlying src = some (.int .i64)) (h2 : P.underlying dst = some (.int .u64)) (hn : n < 18446744073709551616) : (convert src dst (.int .i64 (n : Int))).run P w = .ok (.int .u64 (n : Int)) w := by
  have e : IntKind.u64.wrap (n : Int) = (n : Int) := by rw [u64_wrap]; omega
  simp only [convert, Sem.run_bind, run_underlying h1, run_underlying h2, Result.andThen_ok]
  show (Conv.intToInt .u64 (n : Int)).run P w = _
  simp only [Conv.intToInt, e]
  rfl
theorem n_u' (w : World) {src dst : TypeId} (n : Nat) (hm : m = n) (h1 : P.underlying src = some (.int .i64)) (h2 : P.underlying dst = some (.int .u64)) (hn : n < 18446744073709551616) : (convert src dst (.int .i64 m)).run P w = .ok (.int .u64 (n : Int)) w := by
  subst hm; exact n_u w h1 h2 hn
theorem w_mul64 (w : World) {n m : Nat} (h : n * m < 18446744073709551616) : (bin .mul t x1 x2 (.int .u64 (n : Int)) (.int .u64 (m : Int))).run P w = .ok (.int .u64 ((n * m : Nat) : Int)) w := by
  have e : IntKind.u64.wrap ((n : Int) * (m : Int)) = ((n * m : Nat) : Int) := by rw [u64_wrap]; rw [← Int.natCast_mul]; omega
  simp [go_sem, bin, e]
theorem w_shrN (w : World) (j : Nat) (hj : m = j) (h : j < 32) : (bin .shr t x1 x2 (u32v a) (.int q m)).run P w = .ok (u32v (shrN a j)) w := by
  subst hj; exact w_shr w (by omega)
theorem u8s_set (l : List UInt8) (i : Nat) (c : UInt8) : (u8s l).set i (.int .u8 c.toNat) = u8s (l.set i c) := by simp [u8s, List.map_set]
theorem u8_cell (c : UInt8) : (Value.int .u8 c.toNat).cells = #[.int .u8 c.toNat] ∧ (Value.int .u8 c.toNat).oneCell' = true := ⟨rfl, rfl⟩
theorem n_neq (w : World) : (bin .neq t x1 x2 (.int .i64 m) (.int .i64 n)).run P w = .ok (.bool (!decide (m = n))) w := by
  rw [show decide (m = n) = (m == n) by rw [Bool.eq_iff_iff]; simp]
  simp [go_sem, bin]
  try rfl
theorem w_byteI {src dst : TypeId} {n : Nat} (i : Nat) (h1 : P.underlying src = some (.int .u64)) (h2 : P.underlying dst = some (.int .u8)) (w : World) : (convert src dst (.int .u64 ((n / 2 ^ (8 * i) : Nat) : Int))).run P w = .ok (.int .u8 ((byN n i).toNat)) w := w_byte h1 h2 w
/-! ### lists of words -/
def w32s (l : List UInt32) : List Value := l.map u32v
theorem w32s_len (l : List UInt32) : (w32s l).length = l.length := by simp [w32s]
theorem w32s_one (l : List UInt32) : ∀ u ∈ w32s l, u.oneCell' = true := by
  intro u hu
  obtain ⟨a, _, rfl⟩ := List.mem_map.1 hu
  rfl
theorem w32s_get {l : List UInt32} {i : Nat} (h : i < l.length) : (w32s l)[i]? = some (u32v l[i]) := by simp [w32s, h]
end
end Go.Isk
