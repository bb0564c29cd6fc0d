/- One-time signatures: what a digest may be, a text's digest, in the program. -/
import Derived.Test.YtbbmgkbinnomgaaGreatDoorSX
import Derived.Test.YtbbmgkbinnomgaaGreatDoorL1
set_option linter.unusedVariables false
set_option linter.unusedSimpArgs false
set_option linter.unusedSectionVars false
namespace Go.Proofs.YtbbmgkbinnomgaaGreatDoor
open Go Go.Isk Go.RowKit
set_option maxRecDepth 20000
def digOk (n : Int) : Bool := decide (1 ≤ n) && decide (n ≤ 32)
section
variable {b : Base} {w : World} {L R : List It} {g : Nat} {v sv : Value} {cs : List Value} {l : Bytes}
theorem wots_digest {n : Int} : C Tryz.prog N.wots_digest #[.int .i64 n] w fun r w' => r = .bool (digOk n) ∧ w' = w := by
  refine C.wots_digest ?_
  unfold F.wots_digest digOk
  repeat (first
   | (with_reducible (first | refine mv.mk ?_ | refine gd_u ?_ | refine gd_ft ?_ | refine gd_tf ?_ | refine gd_i ?_ | refine pk_t ?_ | refine pk_f ?_))
   | (with_reducible ((first | apply st_bin); intro k' hk; simp [go_sem, thenR_ok, bin]; refine hk _ _ ?_; clear hk k')))
  by_cases h1 : 1 ≤ n
  · rw [decide_eq_true h1]
    repeat (first
     | (with_reducible (first | refine mv.mk ?_ | refine gd_u ?_ | refine gd_ft ?_ | refine gd_tf ?_ | refine gd_i ?_ | refine pk_t ?_ | refine pk_f ?_))
     | (with_reducible ((first | apply st_bin); intro k' hk; simp [go_sem, thenR_ok, bin]; refine hk _ _ ?_; clear hk k')))
    exact ⟨rfl, rfl⟩
  · rw [decide_eq_false h1]
    repeat (first
     | (with_reducible (first | refine mv.mk ?_ | refine gd_u ?_ | refine gd_ft ?_ | refine gd_tf ?_ | refine gd_i ?_ | refine pk_t ?_ | refine pk_f ?_))
     | (with_reducible ((first | apply st_bin); intro k' hk; simp [go_sem, thenR_ok, bin]; refine hk _ _ ?_; clear hk k')))
    exact ⟨rfl, rfl⟩
theorem wots_fault {x : ByteArray} {e : Int} (he : e ≠ 0) (h1 : -9223372036854775808 ≤ e) (h2 : e ≤ 9223372036854775807) (hs : Isk.Sep b w L) : C Tryz.prog N.wots_fault #[.string x, .int .i64 e] w fun r w' => Isk.Sep b w' ((errF r e).it :: L) := by
  refine C.wots_fault ?_
  unfold F.wots_fault
  repeat (first
   | (with_reducible (first | refine mv.mk ?_ | refine sp_boxa hs fun g w hs => ?_))
   | (with_reducible ((first | apply st_mki); intro k' hk; simp [go_sem, thenR_ok, bin]; refine hk _ _ ?_; clear hk k')))
  refine st_build (cells := #[.string x, .iface EN (.int .i64 e)]) (by kernel_rfl) ?_
  refine sp_box (cs := [.string x, .iface EN (.int .i64 e)]) hs rfl fun g w hs => ?_
  repeat (first
   | (with_reducible (first | refine mv.mk ?_ | refine sp_boxa hs fun g w hs => ?_))
   | (with_reducible ((first | apply st_mki); intro k' hk; simp [go_sem, thenR_ok, bin]; refine hk _ _ ?_; clear hk k')))
  exact mkFault he h1 h2 hs (by first | ((repeat (first | with_reducible exact Has.hd | with_reducible apply Has.tl)); done) | (repeat (first | exact Has.hd | with_reducible apply Has.tl)))
/-- may a leaf and a digest's length be: 0 or the error -/
def wCheck (leaf n : Int) : Int := if 0 ≤ leaf ∧ leaf < 1024 ∧ digOk n = true then 0 else 1
theorem wots_check {leaf n : Int} (hs : Isk.Sep b w L) : C Tryz.prog N.wots_check #[.int .i64 leaf, .int .i64 n] w fun r w' => Isk.Sep b w' ((errF r (wCheck leaf n)).it :: L) := by
  refine C.wots_check ?_
  unfold F.wots_check
  repeat (first
   | (with_reducible (first | refine mv.mk ?_ | refine gd_u ?_ | refine gd_ft ?_ | refine gd_tf ?_ | refine gd_i ?_ | refine pk_t ?_ | refine pk_f ?_ | refine br_t ?_ | refine br_f ?_))
   | (with_reducible ((first | apply st_bin | apply st_un); intro k' hk; simp [go_sem, thenR_ok, bin]; refine hk _ _ ?_; clear hk k')))
  by_cases h1 : leaf < 0
  · rw [decide_eq_true h1]
    repeat (first
     | (with_reducible (first | refine mv.mk ?_ | refine gd_u ?_ | refine gd_ft ?_ | refine gd_tf ?_ | refine gd_i ?_ | refine pk_t ?_ | refine pk_f ?_ | refine br_t ?_ | refine br_f ?_))
     | (with_reducible ((first | apply st_bin | apply st_un); intro k' hk; simp [go_sem, thenR_ok, bin]; refine hk _ _ ?_; clear hk k')))
    refine cl (wots_fault (by decide) (by decide) (by decide) hs) ?_
    rintro r w hs
    repeat with_reducible refine mv.mk ?_
    rw [wCheck, if_neg (by omega)]
    exact hs
  rw [decide_eq_false h1]
  repeat (first
   | (with_reducible (first | refine mv.mk ?_ | refine gd_u ?_ | refine gd_ft ?_ | refine gd_tf ?_ | refine gd_i ?_ | refine pk_t ?_ | refine pk_f ?_ | refine br_t ?_ | refine br_f ?_))
   | (with_reducible ((first | apply st_bin | apply st_un); intro k' hk; simp [go_sem, thenR_ok, bin]; refine hk _ _ ?_; clear hk k')))
  by_cases h2 : 1024 ≤ leaf
  · rw [decide_eq_true h2]
    repeat (first
     | (with_reducible (first | refine mv.mk ?_ | refine gd_u ?_ | refine gd_ft ?_ | refine gd_tf ?_ | refine gd_i ?_ | refine pk_t ?_ | refine pk_f ?_ | refine br_t ?_ | refine br_f ?_))
     | (with_reducible ((first | apply st_bin | apply st_un); intro k' hk; simp [go_sem, thenR_ok, bin]; refine hk _ _ ?_; clear hk k')))
    refine cl (wots_fault (by decide) (by decide) (by decide) hs) ?_
    rintro r w hs
    repeat with_reducible refine mv.mk ?_
    rw [wCheck, if_neg (by omega)]
    exact hs
  rw [decide_eq_false h2]
  repeat (first
   | (with_reducible (first | refine mv.mk ?_ | refine gd_u ?_ | refine gd_ft ?_ | refine gd_tf ?_ | refine gd_i ?_ | refine pk_t ?_ | refine pk_f ?_ | refine br_t ?_ | refine br_f ?_))
   | (with_reducible ((first | apply st_bin | apply st_un); intro k' hk; simp [go_sem, thenR_ok, bin]; refine hk _ _ ?_; clear hk k')))
  refine cl (wots_digest (n := n)) ?_
  rintro _ w ⟨rfl, rfl⟩
  cases h3 : digOk n with
  | false =>
    repeat (first
     | (with_reducible (first | refine mv.mk ?_ | refine gd_u ?_ | refine gd_ft ?_ | refine gd_tf ?_ | refine gd_i ?_ | refine pk_t ?_ | refine pk_f ?_ | refine br_t ?_ | refine br_f ?_))
     | (with_reducible ((first | apply st_bin | apply st_un); intro k' hk; simp [go_sem, thenR_ok, bin]; refine hk _ _ ?_; clear hk k')))
    refine cl (wots_fault (by decide) (by decide) (by decide) hs) ?_
    rintro r w hs
    repeat with_reducible refine mv.mk ?_
    rw [wCheck, if_neg (by simp [h3])]
    exact hs
  | true =>
    repeat (first
     | (with_reducible (first | refine mv.mk ?_ | refine gd_u ?_ | refine gd_ft ?_ | refine gd_tf ?_ | refine gd_i ?_ | refine pk_t ?_ | refine pk_f ?_ | refine br_t ?_ | refine br_f ?_))
     | (with_reducible ((first | apply st_bin | apply st_un); intro k' hk; simp [go_sem, thenR_ok, bin]; refine hk _ _ ?_; clear hk k')))
    rw [wCheck, if_pos ⟨by omega, by omega, h3⟩]
    exact errF_nil hs
theorem wots_Len {n : Int} (h : digOk n = true) : C Tryz.prog N.wots_Len #[.int .i64 n] w fun r w' => r = .int .i64 (2 * n + 3) ∧ w' = w := by
  have hb : 1 ≤ n ∧ n ≤ 32 := by simpa [digOk] using h
  refine C.wots_Len ?_
  unfold F.wots_Len
  repeat with_reducible refine mv.mk ?_
  refine cl (wots_digest (n := n)) ?_
  rintro _ w ⟨rfl, rfl⟩
  rw [h]
  refine st_un fun k' hk => ?_; simp [go_sem, thenR_ok]; refine hk _ _ ?_; clear hk k'
  refine br_f ?_
  repeat with_reducible refine mv.mk ?_
  refine sn_mul (by omega) ?_
  refine sn_add (by omega) ?_
  repeat with_reducible refine mv.mk ?_
  exact ⟨rfl, rfl⟩
/-- a text's digest: the first n bytes of its sum -/
def digestB (text : Bytes) (n : Nat) : Bytes := (shaB (4 :: text)).take n
theorem sla_to {T n : Nat} (hT : arrT Tryz.prog T n = true) {g : Nat} {y : Int} (hi : Nat) (hy : y = hi) (h2 : hi ≤ n) (hn : 0 < n) (w : World) : (Instr.sliceAt T (.pointer (some ⟨g, 0, none⟩)) none (some (.int .i64 y)) none).run Tryz.prog w = .ok (.slice (some ⟨g, 0, none⟩) hi n) w := by
  subst hy
  obtain ⟨e, i, he, hi', hs⟩ := arrT.spec hT
  simp [Instr.sliceAt, run_underlying he, go_sem, sizeOf, typeInfo, hi', hs, h2]
theorem wots_Digest {n : Int} (hs : Isk.Sep b w L) (hR : Ins L rndF.it) (hm : Ins L (byF v l).it) (hl : l.length < 140737488354000) :
    C Tryz.prog N.wots_Digest #[v, .int .i64 n] w fun r w' => ∃ u e, r = .tuple #[u, e] ∧ Isk.Sep b w' ((byF u (if digOk n = true then digestB l n.toNat else [])).it :: (errF e (if digOk n = true then 0 else 1)).it :: L) := by
  refine C.wots_Digest ?_
  unfold F.wots_Digest
  repeat with_reducible refine mv.mk ?_
  refine cl (wots_digest (n := n)) ?_
  rintro _ w ⟨rfl, rfl⟩
  cases h : digOk n with
  | false =>
    repeat (first
     | (with_reducible (first | refine mv.mk ?_ | refine br_t ?_ | refine br_f ?_))
     | (with_reducible ((first | apply st_un); intro k' hk; simp [go_sem, thenR_ok, bin]; refine hk _ _ ?_; clear hk k'))
     | ((with_reducible apply sp_newr hs); (· kernel_rfl); intro g w hs))
    refine cl (wots_fault (by decide) (by decide) (by decide) hs) ?_
    rintro r w hs
    repeat with_reducible refine mv.mk ?_
    exact ⟨_, _, rfl, hs.fact (f := byF (.slice none 0 0) []) (SlS.nil 1)⟩
  | true =>
    have hb : 1 ≤ n ∧ n ≤ 32 := by simpa [digOk] using h
    obtain ⟨m, rfl⟩ := Int.eq_ofNat_of_zero_le (show 0 ≤ n by omega)
    refine st_un fun k' hk => ?_; simp [go_sem, thenR_ok]; refine hk _ _ ?_; clear hk k'
    refine br_f ?_
    refine sp_row1 (c := 4) hs fun u w hs => ?_
    repeat with_reducible refine mv.mk ?_
    replace hs := hs.fact (f := byF v l) (hs.get (.tl hm))
    refine sp_appY (m := l) hs (.tl .hd) .byt (by simp only [List.length_cons, List.length_nil]; omega) fun u w hs => ?_
    replace hs := hs.rowB .hd
    refine cl (sha_Sum hs (.tl (.tl hR)) .hd (by simp only [List.length_append, List.length_cons, List.length_nil]; omega)) ?_
    rintro _ w ⟨rfl, hs⟩
    refine sp_newr hs (by kernel_rfl) fun g6 w hs => ?_
    refine sp_setr hs .hd (by kernel_rfl) ((u8s_length _).trans (shaB_len _)) (u8s_one _) fun w hs => ?_
    repeat with_reducible refine mv.mk ?_
    refine st_of (sla_to tHash m rfl (by omega) (by decide) w) ?_
    have hsl := Sl.of_blk (n := m) (m := 32) (o := 0) (sz := 1) (hs.blk .hd) (by rw [u8s_length, shaB_len]; omega) (by omega)
    rw [List.drop_zero, Nat.mul_one, u8s_take] at hsl
    replace hs := hs.freeze (f := slF (.slice (some ⟨g6, 0, none⟩) m 32) m 1 (u8s (digestB l m))) .hd fun S hB => SlS.of (by
      have hsl := Sl.of_blk (n := m) (m := 32) (o := 0) (sz := 1) (show Blk w g6 _ _ from hB) (by rw [u8s_length, shaB_len]; omega) (by omega)
      rw [List.drop_zero, Nat.mul_one, u8s_take] at hsl
      exact hsl) fun k hk => .inr (by simp [Value.ownBlock] at hk; simp [blkI, hk])
    have hdl : (digestB l m).length = m := by rw [digestB, List.length_take, shaB_len]; omega
    replace hs := hs.row0 T.uint8 1
    refine sp_app hs .hd tByt (m := m) (ys := u8s (digestB l m)) .sl (u8s_one _) (by omega) (by omega) fun u2 w hs => ?_
    rw [Nat.zero_add, List.nil_append] at hs
    replace hs := hs.rowF .hd
    rw [show slF u2 m 1 (u8s (digestB l m)) = byF u2 (digestB l m) by rw [byF, hdl]] at hs
    repeat with_reducible refine mv.mk ?_
    refine ⟨_, _, rfl, ?_⟩
    exact (errF_nil (hs.sbl (.cons .hd (.drop (.drop (.drop .all)))))).perm (.swap _ _ _)
end
end Go.Proofs.YtbbmgkbinnomgaaGreatDoor
set_option linter.unusedVariables false
set_option linter.unusedSimpArgs false
set_option linter.unusedSectionVars false
namespace Go.Proofs.YtbbmgkbinnomgaaGreatDoor
open Go Go.Isk Go.RowKit
set_option maxRecDepth 20000
section
variable {b : Base} {w : World} {L R : List It} {g : Nat} {v sv : Value} {cs : List Value} {l : Bytes}
theorem app_room {T E by_ g n cap m c : Nat} {T' t : TypeId} {a : Addr} {cur news : List Value} (hT : slT Tryz.prog T E 1 by_ = true) (hg : Blk w g t cur) (hl : news.length = m) (hnews : ∀ j u, news[j]? = some u → w.cell? (a.add j) = some u)
    (h1 : ∀ u ∈ news, u.oneCell' = true) (hroom : n + m ≤ cap) (hfit : n + m ≤ cur.length) :
    (Builtin.append_ #[T, T] T' #[.slice (some ⟨g, 0, none⟩) n cap, .slice (some a) m c]).run Tryz.prog w = .ok (.slice (some ⟨g, 0, none⟩) (n + m) cap) (w.setRow g (cur.take n ++ news ++ cur.drop (n + m)).toArray) := by
  obtain ⟨ht, _, i, z, hi, hz, hs1, _, _⟩ := slT.spec hT
  have hf := run_firstCells_some (P := Tryz.prog) w i.size m a m c news (by rw [hs1]; omega) hnews
  have hst := run_storeCells_at Tryz.prog g n t news 0 cur.toArray w hg (by simp; omega) h1
  simp only [Nat.add_zero] at hst
  rw [hs1] at hf
  simp [Builtin.append_, run_underlying ht, sizeOf, typeInfo, hi, Builtin.lenOf, hroom, hf, Addr.add_lit, hs1, hst, hl]
theorem sp_room {T E by_ n cap m : Nat} {T' t : TypeId} {x : Value} {xs rest ys : List Value} {k : Value → World → Prop} (hs : Isk.Sep b w L) (hm : Has L (blkI g t (xs ++ rest)) R) (hT : slT Tryz.prog T E 1 by_ = true) (hx : Rds R x m 1 ys) (hn : xs.length = n) (h0 : 0 < m)
    (h1 : ∀ u ∈ ys, u.oneCell' = true) (hroom : n + m ≤ cap) (hfit : n + m ≤ (xs ++ rest).length)
    (hk : ∀ w', Isk.Sep b w' (blkI g t ((xs ++ ys) ++ rest.drop m) :: R) → k (.slice (some ⟨g, 0, none⟩) (n + m) cap) w') : ob Tryz.prog (fun _ => Builtin.append_ #[T, T] T' #[.slice (some ⟨g, 0, none⟩) n cap, x]) w k := by
  obtain ⟨A, c, rfl, _, hl, hr⟩ := (hs.drop hm).reads hx
  obtain ⟨g', o', rfl, hr'⟩ := hr (by omega)
  have hrun := app_room (T' := T') (c := c) (a := ⟨g', o', none⟩) hT (hs.blk hm) (by simpa using hl) (fun j u hu => by rw [Addr.add_mid]; exact hr' j u hu) h1 hroom hfit
  have e : ((xs ++ rest).take n ++ ys ++ (xs ++ rest).drop (n + m)) = (xs ++ ys) ++ rest.drop m := by
    rw [← hn, List.take_left, List.drop_append, List.drop_of_length_le (by omega), List.nil_append, show xs.length + m - xs.length = m by omega]
  rw [e] at hrun
  exact stb hrun (hk _ (hs.reblk hm (setRow_upd _ _ _) ((hs.blk hm).setRow _)))
/-- a byte into the room -/
theorem sp_roomB {cap : Nat} {T' t : TypeId} {rest : List Value} {c : UInt8} {k : Value → World → Prop} (hs : Isk.Sep b w L) (hm : Has L (blkI g t (u8s l ++ rest)) R) (hroom : l.length < cap) (hr : rest.length = cap - l.length)
    (hk : ∀ w' rest', rest'.length = cap - (l ++ [c]).length → Isk.Sep b w' (blkI g t (u8s (l ++ [c]) ++ rest') :: R) → k (.slice (some ⟨g, 0, none⟩) (l ++ [c]).length cap) w') :
    o1 Tryz.prog (Instr.buildSlice T.sl_uint8 1 #[(0, .int .u8 c.toNat)]) w fun u w => ob Tryz.prog (fun _ => Builtin.append_ #[T.sl_uint8, T.sl_uint8] T' #[.slice (some ⟨g, 0, none⟩) l.length cap, u]) w k := by
  replace hs := hs.perm hm.perm
  refine sp_litv hs tByt rfl fun u w hs => ?_
  refine sp_room (m := 1) (ys := [.int .u8 c.toNat]) hs (.tl .hd) tByt .sl (u8s_length l) (by decide) (by simp [(u8_cell c).2]) (by omega) (by rw [List.length_append, u8s_length]; omega) fun w' hs => ?_
  have e : u8s l ++ [.int .u8 c.toNat] = u8s (l ++ [c]) := by simp [u8s]
  rw [e] at hs
  have h := hk w' (rest.drop 1) (by simp only [List.length_drop, List.length_append, List.length_cons, List.length_nil]; omega) ((hs.perm (.swap _ _ _)).drop .hd)
  simpa using h
theorem wots_number {cap : Nat} {t : TypeId} : ∀ (m : Nat) {l : Bytes} {w : World} {rest : List Value}, Isk.Sep b w (blkI g t (u8s l ++ rest) :: R) → m < 4294967296 → (l ++ encU m).length ≤ cap → rest.length = cap - l.length →
    C Tryz.prog N.wots_number #[.slice (some ⟨g, 0, none⟩) l.length cap, .int .i64 (m : Int)] w fun r w' => r = .slice (some ⟨g, 0, none⟩) (l ++ encU m).length cap ∧ ∃ rest', rest'.length = cap - (l ++ encU m).length ∧ Isk.Sep b w' (blkI g t (u8s (l ++ encU m) ++ rest') :: R) := by
  intro m l w rest hs hm hfit hr
  refine C.wots_number ?_
  unfold F.wots_number
  repeat with_reducible refine mv.mk ?_
  refine st_of (n_u w (by kernel_rfl) (by kernel_rfl) (by omega)) ?_
  repeat with_reducible refine mv.mk ?_
  refine lp_by (fun us w' => ∃ (l' : Bytes) (x : Nat) (rest' : List Value), us = [.slice (some ⟨g, 0, none⟩) l'.length cap, .int .u64 (x : Int)] ∧ l' ++ encU x = l ++ encU m ∧ x < 4294967296 ∧ rest'.length = cap - l'.length ∧ Isk.Sep b w' (blkI g t (u8s l' ++ rest') :: R)) (fun us _ => match us with | [_, .int _ m] => m.toNat | _ => 0) ⟨l, m, rest, rfl, rfl, hm, hr, hs⟩ ?_
  clear hs hr rest
  rintro x1 w ⟨l', x, rest, hx, he, hxm, hr, hs⟩
  simp only [List.cons.injEq, and_true] at hx
  simp only [hx.1, hx.2]
  clear hx
  rw [← he] at hfit ⊢
  repeat (first
   | (with_reducible (first | refine mv.mk ?_ | refine br_t ?_ | refine br_f ?_))
   | (with_reducible ((first | apply st_bin | apply st_conv); intro k' hk; simp [go_sem, thenR_ok, bin]; refine hk _ _ ?_; clear hk k')))
  refine br_split (fun hq => ?_) (fun hq => ?_)
  · have hq := of_decide_eq_true hq
    have hbig : ¬ x < 128 := by omega
    have hpos := encU_pos (x / 128)
    have hll : (l' ++ encU x).length = l'.length + (encU (x / 128)).length + 1 := by rw [encU_big hbig]; simp; omega
    have hc : (convert T.uint64 T.uint8 (.int .u64 (x : Int))).run Tryz.prog w = .ok (.int .u8 (IntKind.u8.wrap (x : Int))) w := by
      have hu1 : Tryz.prog.underlying T.uint64 = some (.int .u64) := by kernel_rfl
      have hu2 : Tryz.prog.underlying T.uint8 = some (.int .u8) := by kernel_rfl
      simp only [convert, Sem.run_bind, run_underlying hu1, run_underlying hu2, Result.andThen_ok]
      rfl
    repeat with_reducible refine mv.mk ?_
    refine st_of hc ?_
    have ho : ∀ (o1 o2 : Operand), (bin .or T.uint8 o1 o2 (.int .u8 (IntKind.u8.wrap (x : Int))) (.int .u8 128)).run Tryz.prog w = .ok (.int .u8 (((UInt8.ofNat (x % 128 + 128)).toNat : Nat) : Int)) w := fun o1 o2 => by
      rw [← or128]
      simp [go_sem, bin]
    refine st_of (ho _ _) ?_
    refine sp_roomB hs .hd (by omega) hr fun w rest' hr' hs => ?_
    repeat with_reducible refine mv.mk ?_
    refine st_of (w_shr64 w 7 rfl (by decide)) ?_
    repeat with_reducible refine mv.mk ?_
    refine ⟨⟨l' ++ [UInt8.ofNat (x % 128 + 128)], x / 128, rest', rfl, ?_, by omega, hr', hs⟩, ?_⟩
    · rw [encU_big hbig, List.append_assoc]; rfl
    · simp only [Int.toNat_natCast]
      omega
  · have hq := of_decide_eq_false hq
    have hsm : x < 128 := by omega
    have hll : (l' ++ encU x).length = l'.length + 1 := by rw [encU_small hsm]; simp
    have hc : (convert T.uint64 T.uint8 (.int .u64 (x : Int))).run Tryz.prog w = .ok (.int .u8 (((UInt8.ofNat x).toNat : Nat) : Int)) w := by
      have hu1 : Tryz.prog.underlying T.uint64 = some (.int .u64) := by kernel_rfl
      have hu2 : Tryz.prog.underlying T.uint8 = some (.int .u8) := by kernel_rfl
      simp only [convert, Sem.run_bind, run_underlying hu1, run_underlying hu2, Result.andThen_ok]
      show (Conv.intToInt .u8 (x : Int)).run Tryz.prog w = _
      simp only [Conv.intToInt, u8_nat]
      rfl
    repeat with_reducible refine mv.mk ?_
    refine st_of hc ?_
    refine sp_roomB hs .hd (by omega) hr fun w rest' hr' hs => ?_
    repeat with_reducible refine mv.mk ?_
    rw [encU_small hsm]
    exact ⟨rfl, rest', hr', hs⟩
end
end Go.Proofs.YtbbmgkbinnomgaaGreatDoor
