/- One-time signatures: what a digest may be, a text's digest, in the program. -/
import Derived.Test.YtlfelmikcdmkhaaGreatDoorSX
import Derived.Test.YtlfelmikcdmkhaaGreatDoorTG
import Derived.Laws.MakeOwn
import Derived.Test.YtlfelmikcdmkhaaGreatDoorRD
set_option linter.unusedVariables false
set_option linter.unusedSimpArgs false
set_option linter.unusedSectionVars false
namespace Go.Proofs.YtlfelmikcdmkhaaGreatDoor
open Go Go.Isk Go.RowKit
set_option maxRecDepth 20000
def digOk (n : Int) : Bool := decide (1 ≤ n) && decide (n ≤ 32)
section
variable {b : Base} {w : World} {L R : List It} {g : Nat} {v sv : Value} {cs : List Value} {l : Bytes}
theorem wots_digest {n : Int} : C Tryz.prog N.wots_digest #[.int .i64 n] w fun r w' => r = .bool (digOk n) ∧ w' = w := by
  refine C.wots_digest ?_
  unfold F.wots_digest digOk
  repeat (first
   | (with_reducible (first | refine mv.mk ?_ | refine gd_u ?_ | refine gd_ft ?_ | refine gd_tf ?_ | refine gd_i ?_ | refine pk_t ?_ | refine pk_f ?_))
   | (with_reducible ((first | apply st_bin); intro k' hk; simp [go_sem, thenR_ok, bin]; refine hk _ _ ?_; clear hk k')))
  by_cases h1 : 1 ≤ n
  · rw [decide_eq_true h1]
    repeat (first
     | (with_reducible (first | refine mv.mk ?_ | refine gd_u ?_ | refine gd_ft ?_ | refine gd_tf ?_ | refine gd_i ?_ | refine pk_t ?_ | refine pk_f ?_))
     | (with_reducible ((first | apply st_bin); intro k' hk; simp [go_sem, thenR_ok, bin]; refine hk _ _ ?_; clear hk k')))
    exact ⟨rfl, rfl⟩
  · rw [decide_eq_false h1]
    repeat (first
     | (with_reducible (first | refine mv.mk ?_ | refine gd_u ?_ | refine gd_ft ?_ | refine gd_tf ?_ | refine gd_i ?_ | refine pk_t ?_ | refine pk_f ?_))
     | (with_reducible ((first | apply st_bin); intro k' hk; simp [go_sem, thenR_ok, bin]; refine hk _ _ ?_; clear hk k')))
    exact ⟨rfl, rfl⟩
theorem wots_fault {x : ByteArray} {e : Int} (he : e ≠ 0) (h1 : -9223372036854775808 ≤ e) (h2 : e ≤ 9223372036854775807) (hs : Isk.Sep b w L) : C Tryz.prog N.wots_fault #[.string x, .int .i64 e] w fun r w' => Isk.Sep b w' ((errF r e).it :: L) := by
  refine C.wots_fault ?_
  unfold F.wots_fault
  repeat (first
   | (with_reducible (first | refine mv.mk ?_ | refine sp_boxa hs fun g w hs => ?_))
   | (with_reducible ((first | apply st_mki); intro k' hk; simp [go_sem, thenR_ok, bin]; refine hk _ _ ?_; clear hk k')))
  refine st_build (cells := #[.string x, .iface EN (.int .i64 e)]) (by kernel_rfl) ?_
  refine sp_box (cs := [.string x, .iface EN (.int .i64 e)]) hs rfl fun g w hs => ?_
  repeat (first
   | (with_reducible (first | refine mv.mk ?_ | refine sp_boxa hs fun g w hs => ?_))
   | (with_reducible ((first | apply st_mki); intro k' hk; simp [go_sem, thenR_ok, bin]; refine hk _ _ ?_; clear hk k')))
  exact mkFault he h1 h2 hs (by first | ((repeat (first | with_reducible exact Has.hd | with_reducible apply Has.tl)); done) | (repeat (first | exact Has.hd | with_reducible apply Has.tl)))
/-- may a leaf and a digest's length be: 0 or the error -/
def wCheck (leaf n : Int) : Int := if 0 ≤ leaf ∧ leaf < 1024 ∧ digOk n = true then 0 else 1
theorem wots_check {leaf n : Int} (hs : Isk.Sep b w L) : C Tryz.prog N.wots_check #[.int .i64 leaf, .int .i64 n] w fun r w' => Isk.Sep b w' ((errF r (wCheck leaf n)).it :: L) := by
  refine C.wots_check ?_
  unfold F.wots_check
  repeat (first
   | (with_reducible (first | refine mv.mk ?_ | refine gd_u ?_ | refine gd_ft ?_ | refine gd_tf ?_ | refine gd_i ?_ | refine pk_t ?_ | refine pk_f ?_ | refine br_t ?_ | refine br_f ?_))
   | (with_reducible ((first | apply st_bin | apply st_un); intro k' hk; simp [go_sem, thenR_ok, bin]; refine hk _ _ ?_; clear hk k')))
  by_cases h1 : leaf < 0
  · rw [decide_eq_true h1]
    repeat (first
     | (with_reducible (first | refine mv.mk ?_ | refine gd_u ?_ | refine gd_ft ?_ | refine gd_tf ?_ | refine gd_i ?_ | refine pk_t ?_ | refine pk_f ?_ | refine br_t ?_ | refine br_f ?_))
     | (with_reducible ((first | apply st_bin | apply st_un); intro k' hk; simp [go_sem, thenR_ok, bin]; refine hk _ _ ?_; clear hk k')))
    refine cl (wots_fault (by decide) (by decide) (by decide) hs) ?_
    rintro r w hs
    repeat with_reducible refine mv.mk ?_
    rw [wCheck, if_neg (by omega)]
    exact hs
  rw [decide_eq_false h1]
  repeat (first
   | (with_reducible (first | refine mv.mk ?_ | refine gd_u ?_ | refine gd_ft ?_ | refine gd_tf ?_ | refine gd_i ?_ | refine pk_t ?_ | refine pk_f ?_ | refine br_t ?_ | refine br_f ?_))
   | (with_reducible ((first | apply st_bin | apply st_un); intro k' hk; simp [go_sem, thenR_ok, bin]; refine hk _ _ ?_; clear hk k')))
  by_cases h2 : 1024 ≤ leaf
  · rw [decide_eq_true h2]
    repeat (first
     | (with_reducible (first | refine mv.mk ?_ | refine gd_u ?_ | refine gd_ft ?_ | refine gd_tf ?_ | refine gd_i ?_ | refine pk_t ?_ | refine pk_f ?_ | refine br_t ?_ | refine br_f ?_))
     | (with_reducible ((first | apply st_bin | apply st_un); intro k' hk; simp [go_sem, thenR_ok, bin]; refine hk _ _ ?_; clear hk k')))
    refine cl (wots_fault (by decide) (by decide) (by decide) hs) ?_
    rintro r w hs
    repeat with_reducible refine mv.mk ?_
    rw [wCheck, if_neg (by omega)]
    exact hs
  rw [decide_eq_false h2]
  repeat (first
   | (with_reducible (first | refine mv.mk ?_ | refine gd_u ?_ | refine gd_ft ?_ | refine gd_tf ?_ | refine gd_i ?_ | refine pk_t ?_ | refine pk_f ?_ | refine br_t ?_ | refine br_f ?_))
   | (with_reducible ((first | apply st_bin | apply st_un); intro k' hk; simp [go_sem, thenR_ok, bin]; refine hk _ _ ?_; clear hk k')))
  refine cl (wots_digest (n := n)) ?_
  rintro _ w ⟨rfl, rfl⟩
  cases h3 : digOk n with
  | false =>
    repeat (first
     | (with_reducible (first | refine mv.mk ?_ | refine gd_u ?_ | refine gd_ft ?_ | refine gd_tf ?_ | refine gd_i ?_ | refine pk_t ?_ | refine pk_f ?_ | refine br_t ?_ | refine br_f ?_))
     | (with_reducible ((first | apply st_bin | apply st_un); intro k' hk; simp [go_sem, thenR_ok, bin]; refine hk _ _ ?_; clear hk k')))
    refine cl (wots_fault (by decide) (by decide) (by decide) hs) ?_
    rintro r w hs
    repeat with_reducible refine mv.mk ?_
    rw [wCheck, if_neg (by simp [h3])]
    exact hs
  | true =>
    repeat (first
     | (with_reducible (first | refine mv.mk ?_ | refine gd_u ?_ | refine gd_ft ?_ | refine gd_tf ?_ | refine gd_i ?_ | refine pk_t ?_ | refine pk_f ?_ | refine br_t ?_ | refine br_f ?_))
     | (with_reducible ((first | apply st_bin | apply st_un); intro k' hk; simp [go_sem, thenR_ok, bin]; refine hk _ _ ?_; clear hk k')))
    rw [wCheck, if_pos ⟨by omega, by omega, h3⟩]
    exact errF_nil hs
theorem wots_Len {n : Int} (h : digOk n = true) : C Tryz.prog N.wots_Len #[.int .i64 n] w fun r w' => r = .int .i64 (2 * n + 3) ∧ w' = w := by
  have hb : 1 ≤ n ∧ n ≤ 32 := by simpa [digOk] using h
  refine C.wots_Len ?_
  unfold F.wots_Len
  repeat with_reducible refine mv.mk ?_
  refine cl (wots_digest (n := n)) ?_
  rintro _ w ⟨rfl, rfl⟩
  rw [h]
  refine st_un fun k' hk => ?_; simp [go_sem, thenR_ok]; refine hk _ _ ?_; clear hk k'
  refine br_f ?_
  repeat with_reducible refine mv.mk ?_
  refine sn_mul (by omega) ?_
  refine sn_add (by omega) ?_
  repeat with_reducible refine mv.mk ?_
  exact ⟨rfl, rfl⟩
/-- a text's digest: the first n bytes of its sum -/
def digestB (text : Bytes) (n : Nat) : Bytes := (shaB (4 :: text)).take n
theorem sla_to {T n : Nat} (hT : arrT Tryz.prog T n = true) {g : Nat} {y : Int} (hi : Nat) (hy : y = hi) (h2 : hi ≤ n) (hn : 0 < n) (w : World) : (Instr.sliceAt T (.pointer (some ⟨g, 0, none⟩)) none (some (.int .i64 y)) none).run Tryz.prog w = .ok (.slice (some ⟨g, 0, none⟩) hi n) w := by
  subst hy
  obtain ⟨e, i, he, hi', hs⟩ := arrT.spec hT
  simp [Instr.sliceAt, run_underlying he, go_sem, sizeOf, typeInfo, hi', hs, h2]
theorem wots_Digest {n : Int} (hs : Isk.Sep b w L) (hR : Ins L rndF.it) (hm : Ins L (byF v l).it) (hl : l.length < 140737488354000) :
    C Tryz.prog N.wots_Digest #[v, .int .i64 n] w fun r w' => ∃ u e, r = .tuple #[u, e] ∧ Isk.Sep b w' ((byF u (if digOk n = true then digestB l n.toNat else [])).it :: (errF e (if digOk n = true then 0 else 1)).it :: L) := by
  refine C.wots_Digest ?_
  unfold F.wots_Digest
  repeat with_reducible refine mv.mk ?_
  refine cl (wots_digest (n := n)) ?_
  rintro _ w ⟨rfl, rfl⟩
  cases h : digOk n with
  | false =>
    repeat (first
     | (with_reducible (first | refine mv.mk ?_ | refine br_t ?_ | refine br_f ?_))
     | (with_reducible ((first | apply st_un); intro k' hk; simp [go_sem, thenR_ok, bin]; refine hk _ _ ?_; clear hk k'))
     | ((with_reducible apply sp_newr hs); (· kernel_rfl); intro g w hs))
    refine cl (wots_fault (by decide) (by decide) (by decide) hs) ?_
    rintro r w hs
    repeat with_reducible refine mv.mk ?_
    exact ⟨_, _, rfl, hs.fact (f := byF (.slice none 0 0) []) (SlS.nil 1)⟩
  | true =>
    have hb : 1 ≤ n ∧ n ≤ 32 := by simpa [digOk] using h
    obtain ⟨m, rfl⟩ := Int.eq_ofNat_of_zero_le (show 0 ≤ n by omega)
    refine st_un fun k' hk => ?_; simp [go_sem, thenR_ok]; refine hk _ _ ?_; clear hk k'
    refine br_f ?_
    refine sp_row1 (c := 4) hs fun u w hs => ?_
    repeat with_reducible refine mv.mk ?_
    replace hs := hs.fact (f := byF v l) (hs.get (.tl hm))
    refine sp_appY (m := l) hs (.tl .hd) .byt (by simp only [List.length_cons, List.length_nil]; omega) fun u w hs => ?_
    replace hs := hs.rowB .hd
    refine cl (sha_Sum hs (.tl (.tl hR)) .hd (by simp only [List.length_append, List.length_cons, List.length_nil]; omega)) ?_
    rintro _ w ⟨rfl, hs⟩
    refine sp_newr hs (by kernel_rfl) fun g6 w hs => ?_
    refine sp_setr hs .hd (by kernel_rfl) ((u8s_length _).trans (shaB_len _)) (u8s_one _) fun w hs => ?_
    repeat with_reducible refine mv.mk ?_
    refine st_of (sla_to tHash m rfl (by omega) (by decide) w) ?_
    have hsl := Sl.of_blk (n := m) (m := 32) (o := 0) (sz := 1) (hs.blk .hd) (by rw [u8s_length, shaB_len]; omega) (by omega)
    rw [List.drop_zero, Nat.mul_one, u8s_take] at hsl
    replace hs := hs.freeze (f := slF (.slice (some ⟨g6, 0, none⟩) m 32) m 1 (u8s (digestB l m))) .hd fun S hB => SlS.of (by
      have hsl := Sl.of_blk (n := m) (m := 32) (o := 0) (sz := 1) (show Blk w g6 _ _ from hB) (by rw [u8s_length, shaB_len]; omega) (by omega)
      rw [List.drop_zero, Nat.mul_one, u8s_take] at hsl
      exact hsl) fun k hk => .inr (by simp [Value.ownBlock] at hk; simp [blkI, hk])
    have hdl : (digestB l m).length = m := by rw [digestB, List.length_take, shaB_len]; omega
    replace hs := hs.row0 T.uint8 1
    refine sp_app hs .hd tByt (m := m) (ys := u8s (digestB l m)) .sl (u8s_one _) (by omega) (by omega) fun u2 w hs => ?_
    rw [Nat.zero_add, List.nil_append] at hs
    replace hs := hs.rowF .hd
    rw [show slF u2 m 1 (u8s (digestB l m)) = byF u2 (digestB l m) by rw [byF, hdl]] at hs
    repeat with_reducible refine mv.mk ?_
    refine ⟨_, _, rfl, ?_⟩
    exact (errF_nil (hs.sbl (.cons .hd (.drop (.drop (.drop .all)))))).perm (.swap _ _ _)
end
end Go.Proofs.YtlfelmikcdmkhaaGreatDoor
set_option linter.unusedVariables false
set_option linter.unusedSimpArgs false
set_option linter.unusedSectionVars false
namespace Go.Proofs.YtlfelmikcdmkhaaGreatDoor
open Go Go.Isk Go.RowKit
set_option maxRecDepth 20000
section
variable {b : Base} {w : World} {L R : List It} {g : Nat} {v sv : Value} {cs : List Value} {l : Bytes}
theorem app_room {T E by_ g n cap m c : Nat} {T' t : TypeId} {a : Addr} {cur news : List Value} (hT : slT Tryz.prog T E 1 by_ = true) (hg : Blk w g t cur) (hl : news.length = m) (hnews : ∀ j u, news[j]? = some u → w.cell? (a.add j) = some u)
    (h1 : ∀ u ∈ news, u.oneCell' = true) (hroom : n + m ≤ cap) (hfit : n + m ≤ cur.length) :
    (Builtin.append_ #[T, T] T' #[.slice (some ⟨g, 0, none⟩) n cap, .slice (some a) m c]).run Tryz.prog w = .ok (.slice (some ⟨g, 0, none⟩) (n + m) cap) (w.setRow g (cur.take n ++ news ++ cur.drop (n + m)).toArray) := by
  obtain ⟨ht, _, i, z, hi, hz, hs1, _, _⟩ := slT.spec hT
  have hf := run_firstCells_some (P := Tryz.prog) w i.size m a m c news (by rw [hs1]; omega) hnews
  have hst := run_storeCells_at Tryz.prog g n t news 0 cur.toArray w hg (by simp; omega) h1
  simp only [Nat.add_zero] at hst
  rw [hs1] at hf
  simp [Builtin.append_, run_underlying ht, sizeOf, typeInfo, hi, Builtin.lenOf, hroom, hf, Addr.add_lit, hs1, hst, hl]
theorem sp_room {T E by_ n cap m : Nat} {T' t : TypeId} {x : Value} {xs rest ys : List Value} {k : Value → World → Prop} (hs : Isk.Sep b w L) (hm : Has L (blkI g t (xs ++ rest)) R) (hT : slT Tryz.prog T E 1 by_ = true) (hx : Rds R x m 1 ys) (hn : xs.length = n) (h0 : 0 < m)
    (h1 : ∀ u ∈ ys, u.oneCell' = true) (hroom : n + m ≤ cap) (hfit : n + m ≤ (xs ++ rest).length)
    (hk : ∀ w', Isk.Sep b w' (blkI g t ((xs ++ ys) ++ rest.drop m) :: R) → k (.slice (some ⟨g, 0, none⟩) (n + m) cap) w') : ob Tryz.prog (fun _ => Builtin.append_ #[T, T] T' #[.slice (some ⟨g, 0, none⟩) n cap, x]) w k := by
  obtain ⟨A, c, rfl, _, hl, hr⟩ := (hs.drop hm).reads hx
  obtain ⟨g', o', rfl, hr'⟩ := hr (by omega)
  have hrun := app_room (T' := T') (c := c) (a := ⟨g', o', none⟩) hT (hs.blk hm) (by simpa using hl) (fun j u hu => by rw [Addr.add_mid]; exact hr' j u hu) h1 hroom hfit
  have e : ((xs ++ rest).take n ++ ys ++ (xs ++ rest).drop (n + m)) = (xs ++ ys) ++ rest.drop m := by
    rw [← hn, List.take_left, List.drop_append, List.drop_of_length_le (by omega), List.nil_append, show xs.length + m - xs.length = m by omega]
  rw [e] at hrun
  exact stb hrun (hk _ (hs.reblk hm (setRow_upd _ _ _) ((hs.blk hm).setRow _)))
/-- a byte into the room -/
theorem sp_roomB {cap : Nat} {T' t : TypeId} {rest : List Value} {c : UInt8} {k : Value → World → Prop} (hs : Isk.Sep b w L) (hm : Has L (blkI g t (u8s l ++ rest)) R) (hroom : l.length < cap) (hr : rest.length = cap - l.length)
    (hk : ∀ w' rest', rest'.length = cap - (l ++ [c]).length → Isk.Sep b w' (blkI g t (u8s (l ++ [c]) ++ rest') :: R) → k (.slice (some ⟨g, 0, none⟩) (l ++ [c]).length cap) w') :
    o1 Tryz.prog (Instr.buildSlice T.sl_uint8 1 #[(0, .int .u8 c.toNat)]) w fun u w => ob Tryz.prog (fun _ => Builtin.append_ #[T.sl_uint8, T.sl_uint8] T' #[.slice (some ⟨g, 0, none⟩) l.length cap, u]) w k := by
  replace hs := hs.perm hm.perm
  refine sp_litv hs tByt rfl fun u w hs => ?_
  refine sp_room (m := 1) (ys := [.int .u8 c.toNat]) hs (.tl .hd) tByt .sl (u8s_length l) (by decide) (by simp [(u8_cell c).2]) (by omega) (by rw [List.length_append, u8s_length]; omega) fun w' hs => ?_
  have e : u8s l ++ [.int .u8 c.toNat] = u8s (l ++ [c]) := by simp [u8s]
  rw [e] at hs
  have h := hk w' (rest.drop 1) (by simp only [List.length_drop, List.length_append, List.length_cons, List.length_nil]; omega) ((hs.perm (.swap _ _ _)).drop .hd)
  simpa using h
theorem wots_number {cap : Nat} {t : TypeId} : ∀ (m : Nat) {l : Bytes} {w : World} {rest : List Value}, Isk.Sep b w (blkI g t (u8s l ++ rest) :: R) → m < 4294967296 → (l ++ encU m).length ≤ cap → rest.length = cap - l.length →
    C Tryz.prog N.wots_number #[.slice (some ⟨g, 0, none⟩) l.length cap, .int .i64 (m : Int)] w fun r w' => r = .slice (some ⟨g, 0, none⟩) (l ++ encU m).length cap ∧ ∃ rest', rest'.length = cap - (l ++ encU m).length ∧ Isk.Sep b w' (blkI g t (u8s (l ++ encU m) ++ rest') :: R) := by
  intro m l w rest hs hm hfit hr
  refine C.wots_number ?_
  unfold F.wots_number
  repeat with_reducible refine mv.mk ?_
  refine st_of (n_u w (by kernel_rfl) (by kernel_rfl) (by omega)) ?_
  repeat with_reducible refine mv.mk ?_
  refine lp_by (fun us w' => ∃ (l' : Bytes) (x : Nat) (rest' : List Value), us = [.slice (some ⟨g, 0, none⟩) l'.length cap, .int .u64 (x : Int)] ∧ l' ++ encU x = l ++ encU m ∧ x < 4294967296 ∧ rest'.length = cap - l'.length ∧ Isk.Sep b w' (blkI g t (u8s l' ++ rest') :: R)) (fun us _ => match us with | [_, .int _ m] => m.toNat | _ => 0) ⟨l, m, rest, rfl, rfl, hm, hr, hs⟩ ?_
  clear hs hr rest
  rintro x1 w ⟨l', x, rest, hx, he, hxm, hr, hs⟩
  simp only [List.cons.injEq, and_true] at hx
  simp only [hx.1, hx.2]
  clear hx
  rw [← he] at hfit ⊢
  repeat (first
   | (with_reducible (first | refine mv.mk ?_ | refine br_t ?_ | refine br_f ?_))
   | (with_reducible ((first | apply st_bin | apply st_conv); intro k' hk; simp [go_sem, thenR_ok, bin]; refine hk _ _ ?_; clear hk k')))
  refine br_split (fun hq => ?_) (fun hq => ?_)
  · have hq := of_decide_eq_true hq
    have hbig : ¬ x < 128 := by omega
    have hpos := encU_pos (x / 128)
    have hll : (l' ++ encU x).length = l'.length + (encU (x / 128)).length + 1 := by rw [encU_big hbig]; simp; omega
    have hc : (convert T.uint64 T.uint8 (.int .u64 (x : Int))).run Tryz.prog w = .ok (.int .u8 (IntKind.u8.wrap (x : Int))) w := by
      have hu1 : Tryz.prog.underlying T.uint64 = some (.int .u64) := by kernel_rfl
      have hu2 : Tryz.prog.underlying T.uint8 = some (.int .u8) := by kernel_rfl
      simp only [convert, Sem.run_bind, run_underlying hu1, run_underlying hu2, Result.andThen_ok]
      rfl
    repeat with_reducible refine mv.mk ?_
    refine st_of hc ?_
    have ho : ∀ (o1 o2 : Operand), (bin .or T.uint8 o1 o2 (.int .u8 (IntKind.u8.wrap (x : Int))) (.int .u8 128)).run Tryz.prog w = .ok (.int .u8 (((UInt8.ofNat (x % 128 + 128)).toNat : Nat) : Int)) w := fun o1 o2 => by
      rw [← or128]
      simp [go_sem, bin]
    refine st_of (ho _ _) ?_
    refine sp_roomB hs .hd (by omega) hr fun w rest' hr' hs => ?_
    repeat with_reducible refine mv.mk ?_
    refine st_of (w_shr64 w 7 rfl (by decide)) ?_
    repeat with_reducible refine mv.mk ?_
    refine ⟨⟨l' ++ [UInt8.ofNat (x % 128 + 128)], x / 128, rest', rfl, ?_, by omega, hr', hs⟩, ?_⟩
    · rw [encU_big hbig, List.append_assoc]; rfl
    · simp only [Int.toNat_natCast]
      omega
  · have hq := of_decide_eq_false hq
    have hsm : x < 128 := by omega
    have hll : (l' ++ encU x).length = l'.length + 1 := by rw [encU_small hsm]; simp
    have hc : (convert T.uint64 T.uint8 (.int .u64 (x : Int))).run Tryz.prog w = .ok (.int .u8 (((UInt8.ofNat x).toNat : Nat) : Int)) w := by
      have hu1 : Tryz.prog.underlying T.uint64 = some (.int .u64) := by kernel_rfl
      have hu2 : Tryz.prog.underlying T.uint8 = some (.int .u8) := by kernel_rfl
      simp only [convert, Sem.run_bind, run_underlying hu1, run_underlying hu2, Result.andThen_ok]
      show (Conv.intToInt .u8 (x : Int)).run Tryz.prog w = _
      simp only [Conv.intToInt, u8_nat]
      rfl
    repeat with_reducible refine mv.mk ?_
    refine st_of hc ?_
    refine sp_roomB hs .hd (by omega) hr fun w rest' hr' hs => ?_
    repeat with_reducible refine mv.mk ?_
    rw [encU_small hsm]
    exact ⟨rfl, rest', hr', hs⟩
end
end Go.Proofs.YtlfelmikcdmkhaaGreatDoor
set_option linter.unusedVariables false
set_option linter.unusedSimpArgs false
set_option linter.unusedSectionVars false
namespace Go.Proofs.YtlfelmikcdmkhaaGreatDoor
open Go Go.Isk Go.RowKit
set_option maxRecDepth 20000
/-- a chain's next value -/
def next1 (leaf chain p : Nat) (v : Bytes) : Bytes := shaB (3 :: (encU leaf ++ (encU chain ++ (encU p ++ v))))
/-- k steps from p on -/
def stepsB (leaf chain : Nat) : Nat → Nat → Bytes → Bytes
  | _, 0, v => v
  | p, k + 1, v => stepsB leaf chain (p + 1) k (next1 leaf chain p v)
def stepB (v : Bytes) (leaf chain from_ to : Nat) : Bytes := stepsB leaf chain from_ (min to 15 - from_) v
section
variable {b : Base} {w : World} {L R : List It} {g : Nat} {v sv : Value} {cs : List Value} {l : Bytes}
theorem stepsB_last (leaf chain : Nat) : ∀ (k p : Nat) (v : Bytes), stepsB leaf chain p (k + 1) v = next1 leaf chain (p + k) (stepsB leaf chain p k v)
  | 0, p, v => rfl
  | k + 1, p, v => by
    rw [stepsB, stepsB_last leaf chain k (p + 1), show p + 1 + k = p + (k + 1) by omega]
    rfl
theorem stepsB_len (leaf chain : Nat) : ∀ (k p : Nat) (v : Bytes), v.length = 32 → (stepsB leaf chain p k v).length = 32
  | 0, _, _, h => h
  | k + 1, p, v, _ => stepsB_len leaf chain k (p + 1) _ (shaB_len _)
theorem sla_none {T n : Nat} (hT : arrT Tryz.prog T n = true) {g : Nat} (hn : 0 < n) (w : World) : (Instr.sliceAt T (.pointer (some ⟨g, 0, none⟩)) none (some (.int .i64 0)) none).run Tryz.prog w = .ok (.slice (some ⟨g, 0, none⟩) 0 n) w := sla_to hT 0 rfl (Nat.zero_le _) hn w
theorem tArr64u8 : arrT Tryz.prog T.arr64_uint8 64 = true := by kernel_rfl
theorem z64u8 : zeroT Tryz.prog T.arr64_uint8 (u8s (List.replicate 64 0)) := zeroT_of (by kernel_rfl)
theorem encU_two {n : Nat} (h : n < 16384) : (encU n).length ≤ 2 := encU_len 1 n (by simpa using h)
theorem Sep.ext0 {w' : World} (h : Isk.Sep b w L) (hu : Ext w w') : Isk.Sep b w' L :=
  Isk.Sep.step (A := []) (A' := []) h hu (fun _ _ hf => hf.elim) (fun k hk => (mine_nil hk).elim) (by simp) (by simp)
/-- a sum over a block of one's own, which stays one's own -/
theorem sum_blk {t : TypeId} {rest : List Value} {cap : Nat} (hs : Isk.Sep b w L) (hR : Ins L rndF.it) (hm : Ins L (blkI g t (u8s l ++ rest))) (hc : l.length ≤ cap) (hl : l.length < 1152921504606846976) :
    C Tryz.prog N.sha_Sum #[.slice (some ⟨g, 0, none⟩) l.length cap] w fun r w' => r = .agg (u8s (shaB l)).toArray ∧ Isk.Sep b w' L := by
  have hB : Blk w g t (u8s l ++ rest) := hs.get hm
  have h0 : Isk.Sep ⟨w, fun _ => False⟩ w [] := ⟨Upd.refl, fun k hk => (mine_nil hk).elim, by simp, by simp⟩
  have h1 := h0.fact (f := rndF) (rndF.mono (hs.get hR) fun k hk _ => ⟨hk.1, mine_nil⟩)
  have hsl := Sl.of_blk (n := l.length) (m := cap) (o := 0) (sz := 1) hB (by rw [List.length_append, u8s_length]; omega) hc
  rw [List.drop_zero, Nat.mul_one, ← u8s_length l, List.take_left, u8s_length] at hsl
  have h2 := h1.fact (f := byF (.slice (some ⟨g, 0, none⟩) l.length cap) l) (SlS.of hsl fun k hk => by
    simp [Value.ownBlock] at hk
    subst hk
    exact ⟨hB.lt, by rintro ⟨J, h1, h2⟩; simp at h1; subst h1; simp [Fact.it] at h2⟩)
  refine cl (sha_Sum h2 (.tl .hd) .hd hl) ?_
  rintro r w' ⟨rfl, h3⟩
  exact ⟨rfl, Sep.ext0 hs h3.upd⟩
theorem wots_Step {x : Bytes} {leaf chain f to : Nat} (hs : Isk.Sep b w L) (hR : Ins L rndF.it) (hx : x.length = 32) (hl : leaf < 1024) (hc : chain < 1024) (hf : f ≤ 15) (ht : to < 4294967296) :
    C Tryz.prog N.wots_Step #[.agg (u8s x).toArray, .int .i64 (leaf : Int), .int .i64 (chain : Int), .int .i64 (f : Int), .int .i64 (to : Int)] w fun r w' => r = .agg (u8s (stepB x leaf chain f to)).toArray ∧ Isk.Sep b w' L := by
  have l1 := encU_two (n := leaf) (by omega)
  have l2 := encU_two (n := chain) (by omega)
  refine C.wots_Step ?_
  unfold F.wots_Step
  refine sp_boxa hs fun g5 w hs => ?_
  refine sp_newr hs (by kernel_rfl) fun g10 w hs => ?_
  refine sp_alloc hs z64u8 fun g11 w hs => ?_
  repeat (first
   | (with_reducible (first | refine mv.mk ?_ | refine br_t ?_ | refine br_f ?_ | refine sp_boxa hs fun g w hs => ?_))
   | (with_reducible ((first | apply st_bin | apply st_max | apply st_min); intro k' hk; simp [go_sem, thenR_ok, bin]; refine hk _ _ ?_; clear hk k'))
   | ((with_reducible apply sp_newr hs); (· kernel_rfl); intro g w hs))
  rw [if_neg (show ¬ (f : Int) < 0 by omega)]
  refine lp_by (fun us w' => ∃ (i : Nat) (y : Value) (rest : List Value), us = [.int .i64 (i : Int), y] ∧ f ≤ i ∧ (i = f ∨ i ≤ min to 15) ∧ rest.length = 64 ∧ Isk.Sep b w' (blkI g5 T.api_Hash (u8s (stepsB leaf chain f (i - f) x)) :: blkI g11 T.arr64_uint8 (u8s [] ++ rest) :: resI Tryz.prog g10 T.api_Hash :: L)) (fun us _ => match us with | [.int _ i, _] => (15 - i).toNat | _ => 0) ⟨f, undef, u8s (List.replicate 64 0), rfl, Nat.le_refl _, .inl rfl, by rw [u8s_length, List.length_replicate], by
    rw [Nat.sub_self]
    exact hs.sbl (.cons (.tl (.tl .hd)) (.cons .hd (.cons .hd .all)))⟩ ?_
  clear hs w
  rintro x1 w ⟨i, y, rest, hx1, h1, h2, hr, hs⟩
  simp only [List.cons.injEq, and_true] at hx1
  simp only [hx1.1, hx1.2]
  repeat (first
   | (with_reducible (first | refine mv.mk ?_ | refine br_t ?_ | refine br_f ?_ | refine sp_boxa hs fun g w hs => ?_))
   | (with_reducible ((first | apply st_bin | apply st_max | apply st_min); intro k' hk; simp [go_sem, thenR_ok, bin]; refine hk _ _ ?_; clear hk k'))
   | ((with_reducible apply sp_newr hs); (· kernel_rfl); intro g w hs))
  rw [show (if (15 : Int) < (to : Int) then (15 : Int) else (to : Int)) = ((min to 15 : Nat) : Int) by split <;> omega]
  have hlenS : (stepsB leaf chain f (i - f) x).length = 32 := stepsB_len _ _ _ _ _ hx
  refine br_split (fun hq => ?_) (fun hq => ?_)
  · have hq := of_decide_eq_true hq
    have l3 := encU_two (n := i) (by omega)
    refine st_of (sla_none tArr64u8 (by decide) w) ?_
    refine sp_roomB (l := []) (cap := 64) (c := 3) hs (.tl .hd) (by decide) (by simpa using hr) fun w rest hr hs => ?_
    repeat with_reducible refine mv.mk ?_
    have hll : (([] : Bytes) ++ [3]).length = 1 := rfl
    refine cl (wots_number leaf hs (by omega) (by rw [List.length_append, hll]; omega) hr) ?_
    rintro _ w ⟨rfl, rest, hr, hs⟩
    repeat with_reducible refine mv.mk ?_
    have hl2 : (([] : Bytes) ++ [3] ++ encU leaf).length = 1 + (encU leaf).length := by rw [List.length_append, hll]
    refine cl (wots_number chain hs (by omega) (by rw [List.length_append, hl2]; omega) hr) ?_
    rintro _ w ⟨rfl, rest, hr, hs⟩
    repeat with_reducible refine mv.mk ?_
    have hl3 : (([] : Bytes) ++ [3] ++ encU leaf ++ encU chain).length = 1 + (encU leaf).length + (encU chain).length := by rw [List.length_append, hl2]
    refine cl (wots_number i hs (by omega) (by rw [List.length_append, hl3]; omega) hr) ?_
    rintro _ w ⟨rfl, rest, hr, hs⟩
    repeat with_reducible refine mv.mk ?_
    have hl4 : (([] : Bytes) ++ [3] ++ encU leaf ++ encU chain ++ encU i).length = 1 + (encU leaf).length + (encU chain).length + (encU i).length := by rw [List.length_append, hl3]
    generalize hm : ([] : Bytes) ++ [3] ++ encU leaf ++ encU chain ++ encU i = m at hs hr hl4 ⊢
    have hmx : next1 leaf chain i (stepsB leaf chain f (i - f) x) = shaB (m ++ stepsB leaf chain f (i - f) x) := by rw [← hm, next1]; simp
    generalize hv : stepsB leaf chain f (i - f) x = v at hs hlenS hmx
    refine sp_sla tHash (by decide) ?_
    refine sp_room (m := 32) (ys := u8s v) hs .hd tByt (.of fun S w hB => ?_) (u8s_length m) (by decide) (u8s_one _) (by omega) (by rw [List.length_append, u8s_length]; omega) fun w hs => ?_
    · have hsl := Sl.of_blk (n := 32) (m := 32) (o := 0) (sz := 1) (show Blk w g5 _ (u8s v) from hB) (by rw [u8s_length, hlenS]; decide) (Nat.le_refl _)
      rwa [List.drop_zero, List.take_of_length_le (by rw [u8s_length, hlenS]; decide)] at hsl
    rw [show u8s m ++ u8s v = u8s (m ++ v) by simp [u8s]] at hs
    have hl5 : (m ++ v).length = m.length + 32 := by rw [List.length_append, hlenS]
    rw [← hl5]
    refine cl (sum_blk (l := m ++ v) hs (.tl (.tl (.tl hR))) .hd (by omega) (by omega)) ?_
    rintro _ w ⟨rfl, hs⟩
    refine sp_all (ds := u8s (shaB (m ++ v))) hs (.tl .hd) (by kernel_rfl) ((u8s_length _).trans hlenS) ((u8s_length _).trans (shaB_len _)) (u8s_one _) fun w hs => ?_
    repeat with_reducible refine mv.mk ?_
    refine sn_add (by omega) ?_
    repeat with_reducible refine mv.mk ?_
    refine ⟨⟨i + 1, _, u8s (m ++ v) ++ rest.drop 32, rfl, by omega, .inr (by omega), ?_, ?_⟩, ?_⟩
    · rw [List.length_append, u8s_length, List.length_drop, hr, hl5]; omega
    · rw [show i + 1 - f = (i - f) + 1 by omega, stepsB_last, hv, show f + (i - f) = i by omega, hmx]
      exact hs
    · show (15 - ((i + 1 : Nat) : Int)).toNat < (15 - (i : Int)).toNat
      omega
  · have hq := of_decide_eq_false hq
    repeat with_reducible refine mv.mk ?_
    refine sp_loadall hs .hd (by kernel_rfl) ((u8s_length _).trans hlenS) ?_
    refine sp_ret hs (.tl (.tl .hd)) (by kernel_rfl) ((u8s_length _).trans hlenS) (u8s_one _) fun w hs => ?_
    have e : i - f = min to 15 - f := by omega
    rw [stepB, ← e]
    exact ⟨rfl, (hs.drop .hd).drop .hd⟩
end
end Go.Proofs.YtlfelmikcdmkhaaGreatDoor
set_option linter.unusedVariables false
set_option linter.unusedSimpArgs false
set_option linter.unusedSectionVars false
namespace Go.Proofs.YtlfelmikcdmkhaaGreatDoor
open Go Go.Isk Go.RowKit
set_option maxRecDepth 20000
/-- two digits of each byte -/
def digsB (d : Bytes) : List Nat := d.flatMap fun c => [c.toNat / 16, c.toNat % 16]
def restS (l : List Nat) : Nat := (l.map fun x => 15 - x).sum
def digitsB (d : Bytes) : List Nat := digsB d ++ [restS (digsB d) / 256 % 16, restS (digsB d) / 16 % 16, restS (digsB d) % 16]
def ints (l : List Nat) : List Value := l.map fun (n : Nat) => .int .i64 (n : Int)
theorem ints_len (l : List Nat) : (ints l).length = l.length := by simp [ints]
theorem ints_one (l : List Nat) : ∀ u ∈ ints l, u.oneCell' = true := by
  intro u hu
  obtain ⟨n, _, rfl⟩ := List.mem_map.1 hu
  rfl
theorem restS_push (l : List Nat) (x : Nat) : restS (l ++ [x]) = restS l + (15 - x) := by simp [restS]
theorem restS_le (l : List Nat) : restS l ≤ 15 * l.length := by
  induction l with
  | nil => exact Nat.le_refl _
  | cons x l ih => simp only [restS, List.map_cons, List.sum_cons, List.length_cons] at ih ⊢; omega
theorem digsB_len (d : Bytes) : (digsB d).length = 2 * d.length := by
  induction d with
  | nil => rfl
  | cons c d ih => simp only [digsB, List.flatMap_cons, List.length_append, List.length_cons, List.length_nil] at ih ⊢; omega
theorem digsB_push (d : Bytes) (c : UInt8) : digsB (d ++ [c]) = digsB d ++ [c.toNat / 16, c.toNat % 16] := by simp [digsB]
theorem digitsB_len (d : Bytes) : (digitsB d).length = 2 * d.length + 3 := by rw [digitsB, List.length_append, digsB_len]; rfl
theorem digsB_lt (d : Bytes) : ∀ x ∈ digsB d, x ≤ 15 := by
  intro x hx
  obtain ⟨c, _, hx⟩ := List.mem_flatMap.1 hx
  have := c.toNat_lt
  simp only [List.mem_cons, List.not_mem_nil, or_false] at hx
  omega
theorem digitsB_lt (d : Bytes) : ∀ x ∈ digitsB d, x ≤ 15 := by
  intro x hx
  rcases List.mem_append.1 hx with h | h
  · exact digsB_lt d x h
  · simp only [List.mem_cons, List.not_mem_nil, or_false] at h
    omega
section
variable {P : Program} {b : Base} {w : World} {L R : List It} {g : Nat} {v sv : Value} {cs xs : List Value} {l : Bytes} {k : Value → World → Prop} {n sz : Nat}
theorem sp_mk {T E by_ : Nat} {c : Int} (h : Isk.Sep b w L) (hT : slT P T E sz by_ = true) (n : Nat) (hc : c = n) (hb : by_ * n ≤ 140737488355328) (hn : n ≤ 140737488355328)
    (hk : ∀ v w', Isk.Sep b w' (rowI v E sz 0 [] :: L) → k v w') : o1 P (Instr.makeSlice T (.int .i64 0) (.int .i64 c)) w k := by
  obtain ⟨ht, _, i, z, hi, hz, hs, hby, _⟩ := slT.spec hT
  obtain ⟨w', hrun, ho, hg⟩ := run_make_own (P := P) w w.heap.size T E i z sz ht hi hz hs .i64 .i64 n (by rw [hby]; omega) (by simp only [maxLen]; omega) (Nat.le_refl _)
  subst hc
  refine st_of hrun (hk _ _ ?_)
  have hu : Ext w w' := ⟨hg.os, hg.tape, hg.output, hg.size, fun k hk _ => hg.block k hk (by simp)⟩
  exact h.add (I := rowI _ E sz 0 []) hu (fun k hk => ⟨own_ids ho k (by simpa [rowI] using hk), by simp [rowI, Value.ownBlock] at hk; omega⟩) (own0 ho)
theorem w_shr8 (w : World) {t : TypeId} {x1 x2 : Operand} {c : UInt8} : (bin .shr t x1 x2 (.int .u8 c.toNat) (.int .u64 4)).run P w = .ok (.int .u8 ((c.toNat / 16 : Nat) : Int)) w := by
  simp [go_sem, bin, IntKind.bits]
theorem w_and8 (w : World) {t : TypeId} {x1 x2 : Operand} {c : UInt8} : (bin .and t x1 x2 (.int .u8 c.toNat) (.int .u8 15)).run P w = .ok (.int .u8 ((c.toNat % 16 : Nat) : Int)) w := by
  have key : ∀ x : Fin 256, bits .and .u8 ((x.val : Nat) : Int) 15 = ((x.val % 16 : Nat) : Int) := by decide +kernel
  have h := key ⟨c.toNat, c.toNat_lt⟩
  simp only at h
  simp [go_sem, bin, h]
theorem w_andI (w : World) {t : TypeId} {x1 x2 : Operand} {x : Nat} (hx : x < 1024) : (bin .and t x1 x2 (.int .i64 (x : Int)) (.int .i64 15)).run P w = .ok (.int .i64 ((x % 16 : Nat) : Int)) w := by
  have key : ∀ x : Fin 1024, bits .and .i64 ((x.val : Nat) : Int) 15 = ((x.val % 16 : Nat) : Int) := by decide +kernel
  have h := key ⟨x, hx⟩
  simp only at h
  simp [go_sem, bin, h]
end
end Go.Proofs.YtlfelmikcdmkhaaGreatDoor
set_option linter.unusedVariables false
set_option linter.unusedSimpArgs false
set_option linter.unusedSectionVars false
namespace Go.Proofs.YtlfelmikcdmkhaaGreatDoor
open Go Go.Isk Go.RowKit
set_option maxRecDepth 20000
section
variable {b : Base} {w : World} {L R : List It} {g : Nat} {v sv : Value} {cs : List Value} {l : Bytes}
theorem tInts : slT Tryz.prog T.sl_int T.int 1 8 = true := by kernel_rfl
theorem tArr2 : arrT Tryz.prog T.arr2_int 2 = true := by kernel_rfl
theorem tOneI : oneT Tryz.prog T.int = true := by kernel_rfl
theorem w_shrI (w : World) {t : TypeId} {x1 x2 : Operand} {n j : Nat} (h : j < 64) (hn : n < 1024) : (bin .shr t x1 x2 (.int .i64 (n : Int)) (.int .u64 (j : Int))).run Tryz.prog w = .ok (.int .i64 ((n / 2 ^ j : Nat) : Int)) w := by
  have e2 : ¬ ((j : Int) < 0) := by omega
  have e3 : min j 64 = j := by omega
  have e4 : IntKind.i64.wrap ((n : Int) / (2 : Int) ^ j) = (n : Int) / (2 : Int) ^ j := by
    have := Nat.div_le_self n (2 ^ j)
    have e5 : (n : Int) / (2 : Int) ^ j = ((n / 2 ^ j : Nat) : Int) := by simp
    rw [e5]
    generalize n / 2 ^ j = q at this ⊢
    exact i64_wrap (by omega) (by omega)
  simp [go_sem, bin, e2, IntKind.bits, e3, e4]
theorem w_toI (w : World) {x : Nat} (hx : x < 256) : (convert T.uint8 T.int (.int .u8 (x : Int))).run Tryz.prog w = .ok (.int .i64 (x : Int)) w := by
  have hu1 : Tryz.prog.underlying T.uint8 = some (.int .u8) := by kernel_rfl
  have hu2 : Tryz.prog.underlying T.int = some (.int .i64) := by kernel_rfl
  simp only [convert, Sem.run_bind, run_underlying hu1, run_underlying hu2, Result.andThen_ok]
  show (Conv.intToInt .i64 (x : Int)).run Tryz.prog w = _
  simp only [Conv.intToInt, i64_wrap (show (-9223372036854775808 : Int) ≤ (x : Int) by omega) (by omega)]
  rfl
theorem sp_appI {T' : TypeId} {ls : List Nat} {n x : Nat} {k : Value → World → Prop} (hs : Isk.Sep b w L) (hm : Has L (rowI v T.int 1 n (ints ls)) R) (hn : n < 1000000)
    (hk : ∀ v' w', Isk.Sep b w' (rowI v' T.int 1 (n + 1) (ints (ls ++ [x])) :: R) → k v' w') :
    o1 Tryz.prog (Instr.buildSlice T.sl_int 1 #[(0, .int .i64 (x : Int))]) w fun u w => ob Tryz.prog (fun _ => Builtin.append_ #[T.sl_int, T.sl_int] T' #[v, u]) w k := by
  replace hs := hs.perm hm.perm
  refine sp_litv hs tInts rfl fun u w hs => ?_
  refine sp_app hs (.tl .hd) tInts (m := 1) .sl (by intro u hu; simp only [List.mem_cons, List.not_mem_nil, or_false] at hu; subst hu; rfl) (by omega) (by omega) fun v' w hs => hk v' w ?_
  have e : ints ls ++ [.int .i64 (x : Int)] = ints (ls ++ [x]) := by simp [ints]
  rw [e] at hs
  exact (hs.perm (.swap _ _ _)).drop .hd
theorem wots_Digits (hs : Isk.Sep b w L) (hm : Ins L (byF v l).it) (hl1 : 1 ≤ l.length) (hl2 : l.length ≤ 32) :
    C Tryz.prog N.wots_Digits #[v] w fun r w' => Isk.Sep b w' (rowI r T.int 1 (2 * l.length + 3) (ints (digitsB l)) :: L) := by
  have hok : digOk (l.length : Int) = true := by simp [digOk]; omega
  obtain ⟨A, c, hv0⟩ := bytesF_slice hs hm
  have hlen : ∀ w', (Builtin.len_ #[T.sl_uint8] T.int #[v]).run Tryz.prog w' = .ok (.int .i64 l.length) w' := fun w' => by rw [hv0]; simp [go_sem]
  clear hv0
  refine C.wots_Digits ?_
  unfold F.wots_Digits
  repeat with_reducible refine mv.mk ?_
  refine st_of (hlen w) ?_
  refine cl (wots_digest (n := (l.length : Int))) ?_
  rintro _ w ⟨rfl, rfl⟩
  rw [hok]
  refine st_un fun k' hk => ?_; simp [go_sem, thenR_ok]; refine hk _ _ ?_; clear hk k'
  refine br_f ?_
  repeat with_reducible refine mv.mk ?_
  refine st_of (hlen _) ?_
  refine cl (wots_Len hok) ?_
  rintro _ w ⟨rfl, rfl⟩
  refine sp_mk hs tInts (2 * l.length + 3) (by omega) (by omega) (by omega) fun v0 w hs => ?_
  repeat with_reducible refine mv.mk ?_
  refine st_of (hlen w) ?_
  repeat with_reducible refine mv.mk ?_
  refine lp_by (fun us w' => ∃ (i : Nat) (v1 y6 y8 y31 : Value), us = [v1, .int .i64 ((restS (digsB (l.take i)) : Nat) : Int), y6, y8, .int .i64 (i : Int), y31] ∧ i ≤ l.length ∧ Isk.Sep b w' (rowI v1 T.int 1 (2 * i) (ints (digsB (l.take i))) :: L)) (fun us _ => match us with | [_, _, _, _, .int _ i, _] => (l.length - i).toNat | _ => 0) ⟨0, v0, undef, undef, undef, rfl, Nat.zero_le _, hs⟩ ?_
  clear hs w
  rintro x1 w ⟨i, v1, y6, y8, y31, hx1, hi, hs⟩
  simp only [List.cons.injEq, and_true] at hx1
  simp only [hx1.1, hx1.2.1, hx1.2.2.1, hx1.2.2.2.1, hx1.2.2.2.2.1, hx1.2.2.2.2.2]
  have hrl := restS_le (digsB (l.take i))
  rw [digsB_len, List.length_take] at hrl
  repeat (first
   | (with_reducible (first | refine st_lens ?_ | refine mv.mk ?_ | refine br_t ?_ | refine br_f ?_))
   | (with_reducible ((first | apply st_bin | apply st_len | apply st_un | apply st_conv | apply st_ixv); intro k' hk; simp [go_sem, thenR_ok, bin]; refine hk _ _ ?_; clear hk k')))
  refine br_split (fun hq => ?_) (fun hq => ?_)
  · have hq := of_decide_eq_true hq
    have hil : i < l.length := by omega
    refine byte_at (hs.get (.tl hm)).1 hil ?_
    have hcl := l[i].toNat_lt
    repeat with_reducible refine mv.mk ?_
    refine st_of (w_shr8 w) ?_
    refine st_of (w_toI w (by omega)) ?_
    repeat with_reducible refine mv.mk ?_
    refine st_of (w_and8 w) ?_
    refine st_of (w_toI w (by omega)) ?_
    refine st_build (cells := #[.int .i64 ((l[i].toNat / 16 : Nat) : Int), .int .i64 ((l[i].toNat % 16 : Nat) : Int)]) (by kernel_rfl) ?_
    repeat with_reducible refine mv.mk ?_
    refine lp_by (fun us w' => ∃ (j : Nat) (v2 y : Value), us = [v2, .int .i64 ((restS (digsB (l.take i) ++ [l[i].toNat / 16, l[i].toNat % 16].take j) : Nat) : Int), y, .int .i64 (j : Int)] ∧ j ≤ 2 ∧ Isk.Sep b w' (rowI v2 T.int 1 (2 * i + j) (ints (digsB (l.take i) ++ [l[i].toNat / 16, l[i].toNat % 16].take j)) :: L)) (fun us _ => match us with | [_, _, _, .int _ i] => (2 - i).toNat | _ => 0) ⟨0, v1, y8, by rw [List.take_zero, List.append_nil]; rfl, by omega, by rw [List.take_zero, List.append_nil]; exact hs⟩ ?_
    clear hs w
    rintro x2 w ⟨j, v2, y, hx2, hj, hs⟩
    simp only [List.cons.injEq, and_true] at hx2
    simp only [hx2.1, hx2.2.1, hx2.2.2.1, hx2.2.2.2]
    repeat (first
     | (with_reducible (first | refine st_lens ?_ | refine mv.mk ?_ | refine br_t ?_ | refine br_f ?_))
     | (with_reducible ((first | apply st_bin | apply st_len | apply st_un | apply st_conv | apply st_ixv); intro k' hk; simp [go_sem, thenR_ok, bin]; refine hk _ _ ?_; clear hk k')))
    refine br_split (fun hq2 => ?_) (fun hq2 => ?_)
    · have hq2 := of_decide_eq_true hq2
      have hj2 : j < 2 := by omega
      have hrl2 := restS_le (digsB (l.take i) ++ [l[i].toNat / 16, l[i].toNat % 16].take j)
      rw [List.length_append, digsB_len, List.length_take, List.length_take] at hrl2
      have hrl2 : restS (digsB (l.take i) ++ [l[i].toNat / 16, l[i].toNat % 16].take j) ≤ 15 * 66 := by
        refine Nat.le_trans hrl2 (Nat.mul_le_mul_left 15 ?_)
        simp only [List.length_cons, List.length_nil]
        omega
      obtain ⟨d, hd, hd15, hdt⟩ : ∃ d : Nat, [l[i].toNat / 16, l[i].toNat % 16][j]? = some d ∧ d ≤ 15 ∧ [l[i].toNat / 16, l[i].toNat % 16].take (j + 1) = [l[i].toNat / 16, l[i].toNat % 16].take j ++ [d] := by
        have : j = 0 ∨ j = 1 := by omega
        rcases this with rfl | rfl
        · exact ⟨_, rfl, by omega, rfl⟩
        · exact ⟨_, rfl, by omega, rfl⟩
      have hix : (Instr.index T.arr2_int (.agg (ints [l[i].toNat / 16, l[i].toNat % 16]).toArray) (.int .i64 (j : Int))).run Tryz.prog w = .ok (.int .i64 (d : Int)) w :=
        ixv_run tArr2 j rfl hj2 (by rw [ints, List.getElem?_map, hd]; rfl) rfl w (fun e he => by
          have h2 : Tryz.prog.underlying T.arr2_int = some (.array 2 T.int) := by kernel_rfl
          rw [h2] at he
          injection he with he
          injection he with _ he
          subst he
          exact tOneI)
      refine st_of hix ?_
      repeat with_reducible refine mv.mk ?_
      refine sp_appI (x := d) hs .hd (by omega) fun v3 w hs => ?_
      repeat with_reducible refine mv.mk ?_
      have hsub : (bin .sub T.int (.const (.int .i64 15)) (.tmp 39) (.int .i64 15) (.int .i64 (d : Int))).run Tryz.prog w = .ok (.int .i64 ((15 - d : Nat) : Int)) w := by
        simp [go_sem, bin, i64_wrap (show (-9223372036854775808 : Int) ≤ 15 - (d : Int) by omega) (by omega)]
        omega
      refine st_of hsub ?_
      refine sn_add (by omega) ?_
      repeat with_reducible refine mv.mk ?_
      refine sn_add (by omega) ?_
      repeat with_reducible refine mv.mk ?_
      refine ⟨⟨j + 1, v3, .int .i64 (d : Int), ?_, by omega, ?_⟩, ?_⟩
      · rw [hdt, ← List.append_assoc, restS_push]
        simp
      · rw [hdt, ← List.append_assoc]
        exact hs
      · show (2 - ((j + 1 : Nat) : Int)).toNat < (2 - (j : Int)).toNat
        omega
    · have hq2 := of_decide_eq_false hq2
      have hj2 : j = 2 := by omega
      subst hj2
      refine sn_add (by omega) ?_
      repeat with_reducible refine mv.mk ?_
      have e : digsB (l.take i) ++ [l[i].toNat / 16, l[i].toNat % 16].take 2 = digsB (l.take (i + 1)) := by
        rw [List.take_succ_eq_append_getElem hil, digsB_push]
        rfl
      rw [e] at hs
      refine ⟨⟨i + 1, v2, _, _, _, by rw [e]; rfl, by omega, hs⟩, ?_⟩
      show ((l.length : Int) - ((i + 1 : Nat) : Int)).toNat < ((l.length : Int) - (i : Int)).toNat
      omega
  · have hq := of_decide_eq_false hq
    have hie : i = l.length := by omega
    subst hie
    rw [List.take_length] at hs hrl ⊢
    have hr1 : restS (digsB l) < 1024 := by omega
    repeat with_reducible refine mv.mk ?_
    refine lp_by (fun us w' => ∃ (j : Nat) (v2 : Value), us = [v2, .int .i64 (8 - 4 * (j : Int))] ∧ j ≤ 3 ∧ Isk.Sep b w' (rowI v2 T.int 1 (2 * l.length + j) (ints (digsB l ++ [restS (digsB l) / 256 % 16, restS (digsB l) / 16 % 16, restS (digsB l) % 16].take j)) :: L)) (fun us _ => match us with | [_, .int _ i] => (i + 4).toNat | _ => 0) ⟨0, v1, rfl, by omega, by rw [List.take_zero, List.append_nil]; exact hs⟩ ?_
    clear hs w
    rintro x3 w ⟨j, v2, hx3, hj, hs⟩
    simp only [List.cons.injEq, and_true] at hx3
    simp only [hx3.1, hx3.2]
    by_cases hj3 : j = 3
    · subst hj3
      repeat (first
       | (with_reducible (first | refine st_lens ?_ | refine mv.mk ?_ | refine br_t ?_ | refine br_f ?_))
       | (with_reducible ((first | apply st_bin | apply st_len | apply st_un | apply st_conv | apply st_ixv); intro k' hk; simp [go_sem, thenR_ok, bin]; refine hk _ _ ?_; clear hk k')))
      exact hs
    · have hx : (8 - 4 * (j : Int)) = ((8 - 4 * j : Nat) : Int) := by omega
      rw [hx]
      have hge : ∀ (o1 o2 : Operand), (bin .geq T.int o1 o2 (.int .i64 ((8 - 4 * j : Nat) : Int)) (.int .i64 0)).run Tryz.prog w = .ok (.bool true) w := fun o1 o2 => by
        simp [go_sem, bin]
      repeat with_reducible refine mv.mk ?_
      refine st_of (hge _ _) ?_
      refine br_t ?_
      repeat with_reducible refine mv.mk ?_
      refine st_of (n_u w (by kernel_rfl) (by kernel_rfl) (by omega)) ?_
      refine st_of (w_shrI w (by omega) hr1) ?_
      refine st_of (w_andI w (Nat.lt_of_le_of_lt (Nat.div_le_self _ _) hr1)) ?_
      refine sp_appI (x := restS (digsB l) / 2 ^ (8 - 4 * j) % 16) hs .hd (by omega) fun v3 w hs => ?_
      repeat with_reducible refine mv.mk ?_
      have hsub : (bin .sub T.int (.tmp 46) (.const (.int .i64 4)) (.int .i64 ((8 - 4 * j : Nat) : Int)) (.int .i64 4)).run Tryz.prog w = .ok (.int .i64 (8 - 4 * ((j + 1 : Nat) : Int))) w := by
        simp [go_sem, bin, i64_wrap (show (-9223372036854775808 : Int) ≤ ((8 - 4 * j : Nat) : Int) - 4 by omega) (by omega)]
        omega
      refine st_of hsub ?_
      repeat with_reducible refine mv.mk ?_
      refine ⟨⟨j + 1, v3, rfl, by omega, ?_⟩, ?_⟩
      · have e : [restS (digsB l) / 256 % 16, restS (digsB l) / 16 % 16, restS (digsB l) % 16].take (j + 1) = [restS (digsB l) / 256 % 16, restS (digsB l) / 16 % 16, restS (digsB l) % 16].take j ++ [restS (digsB l) / 2 ^ (8 - 4 * j) % 16] := by
          have : j = 0 ∨ j = 1 ∨ j = 2 := by omega
          rcases this with rfl | rfl | rfl
          · rfl
          · rfl
          · simp
        rw [e, ← List.append_assoc]
        exact hs
      · show (8 - 4 * ((j + 1 : Nat) : Int) + 4).toNat < (((8 - 4 * j : Nat) : Int) + 4).toNat
        omega
end
end Go.Proofs.YtlfelmikcdmkhaaGreatDoor
