/- pool: what waits, as mathematics, and as cells. -/
import Derived.Test.YtgagekffmamldaaGreatDoorP2
import Derived.Test.YtgagekffmamldaaGreatDoorSX
import Derived.Test.YtgagekffmamldaaGreatDoorKG
import Derived.Test.YtgagekffmamldaaGreatDoorKH
import Derived.Test.YtgagekffmamldaaGreatDoorKX
import Derived.Test.YtgagekffmamldaaGreatDoorGF
set_option linter.unusedVariables false
set_option linter.unusedSimpArgs false
set_option linter.unusedSectionVars false
namespace Go.Proofs.YtgagekffmamldaaGreatDoor
open Go Go.Isk Go.RowKit
set_option maxRecDepth 20000
def hB (b : Bytes) : Bytes := shaB (9 :: b)
theorem hB_len (b : Bytes) : (hB b).length = 32 := shaB_len _
structure ItemD where
  b : Bytes
  fee : Int
  came : Int
structure PoolD where
  txs : Int
  bytes : Int
  cache : Int
  l : List ItemD
  known : List Bytes
  came : Int
def sizeP (l : List ItemD) : Nat := (l.map fun x => x.b.length).sum
def hasP (p : PoolD) (h : Bytes) : Bool := p.l.any fun x => decide (hB x.b = h)
def knowsP (p : PoolD) (h : Bytes) : Bool := hasP p h || p.known.any fun k => decide (h = k)
def forgetK (h : Bytes) (l : List Bytes) : List Bytes := l.filter fun k => !decide (k = h)
def rememberK (cache : Int) (h : Bytes) (l : List Bytes) : List Bytes := let t := forgetK h l ++ [h]; t.drop (t.length - cache.toNat)
/-- where one is laid in: behind all that pay as much -/
def insP (x : ItemD) : List ItemD → List ItemD
  | [] => [x]
  | y :: l => if x.fee ≤ y.fee then y :: insP x l else x :: y :: l
/-- those that go for it: none: it is full -/
def roomP (p : PoolD) (n : Nat) (fee : Int) : Nat → List ItemD → List Bytes → Option (List ItemD × List Bytes)
  | 0, l, gone => some (l, gone)
  | k + 1, l, gone => if p.txs < (l.length : Int) + 1 ∨ p.bytes < (sizeP l : Int) + n then
      match l.getLast? with
      | none => none
      | some y => if fee ≤ y.fee then none else roomP p n fee k l.dropLast (gone ++ [hB y.b])
    else some (l, gone)
def addRes (p : PoolD) (b : Bytes) (fee : Int) : Option (List ItemD × List Bytes) → PoolD × List Bytes × Int
  | none => (p, [], 10)
  | some (l, gone) => ({ p with l := insP ⟨b, fee, p.came⟩ l, known := rememberK p.cache (hB b) p.known, came := p.came + 1 }, gone, 0)
def addP (p : PoolD) (b : Bytes) (fee : Int) : PoolD × List Bytes × Int :=
  if b = [] ∨ fee < 0 then (p, [], 1) else if knowsP p (hB b) = true then (p, [], 9) else if p.bytes < b.length then (p, [], 2)
  else addRes p b fee (roomP p b.length fee (p.l.length + 1) p.l [])
structure OkP (p : PoolD) (n : Nat) : Prop where
  came0 : 0 ≤ p.came
  came : p.came ≤ n
  t1 : 1 ≤ p.txs
  t2 : p.txs ≤ 1048576
  b1 : 1 ≤ p.bytes
  b2 : p.bytes ≤ 1048576
  c1 : 0 ≤ p.cache
  c2 : p.cache ≤ 1048576
  len : (p.l.length : Int) ≤ p.txs
  size : (sizeP p.l : Int) ≤ p.bytes
  kn : (p.known.length : Int) ≤ p.cache
  kl : ∀ k ∈ p.known, k.length = 32
  lt : ∀ x ∈ p.l, x.came < p.came ∧ 0 ≤ x.came
  srt : p.l.Pairwise fun x y => y.fee < x.fee ∨ (x.fee = y.fee ∧ x.came < y.came)
  nd : (p.l.map fun x => hB x.b).Nodup
/-! ### cells -/
abbrev itemV (x : ItemD) (bv : Value) : List Value := pitemC bv (u8s (hB x.b)) (.int .i64 x.fee) (.int .i64 x.came)
def ItemS (S : Nat → Prop) (w : World) (cs : List Value) (x : ItemD) : Prop := ∃ bv, cs = itemV x bv ∧ (byF bv x.b).holds S w
theorem ItemS.keep {S D : Nat → Prop} {w w' : World} {cs : List Value} {x : ItemD} (h : ItemS S w cs x) (hu : Upd D w w') (hd : ∀ k, S k → ¬ D k) : ItemS S w' cs x := by
  obtain ⟨bv, rfl, h⟩ := h
  exact ⟨bv, rfl, (byF _ _).keep h hu hd⟩
theorem ItemS.mono {S S' : Nat → Prop} {w : World} {cs : List Value} {x : ItemD} (h : ItemS S w cs x) (hs : ∀ k, S k → k < w.heap.size → S' k) : ItemS S' w cs x := by
  obtain ⟨bv, rfl, h⟩ := h
  exact ⟨bv, rfl, (byF _ _).mono h hs⟩
def itemF : Fam ItemD := fun cs x => ⟨fun S w => ItemS S w cs x, ItemS.keep, ItemS.mono⟩
abbrev poolV (p : PoolD) (lv kv : Value) : List Value := poolC (.int .i64 p.txs) (.int .i64 p.bytes) (.int .i64 p.cache) lv kv (.int .i64 p.came)
theorem itT : slT Tryz.prog T.sl_pool_item T.pool_item 35 72 = true := by kernel_rfl
theorem hsT : slT Tryz.prog T.sl_api_Hash T.api_Hash 32 32 = true := by kernel_rfl
theorem hashF_ok : FamOk hashF 32 := ⟨fun (h : _ ∧ _) => ⟨by rw [h.1, u8s_length, h.2], by rw [h.1]; exact u8s_one _⟩⟩
section
variable {b : Base} {w : World} {L R : List It} {g : Nat} {v sv lv kv : Value} {cs : List Value} {p : PoolD} {x : ItemD} {l : Bytes}
theorem item_open (hs : Isk.Sep b w L) (hm : Ins L (itemF cs x).it) : ∃ bv, cs = itemV x bv ∧ Isk.Sep b w ((byF bv x.b).it :: L) := by
  obtain ⟨bv, rfl, h⟩ : ItemS _ _ cs x := hs.get hm
  exact ⟨bv, rfl, hs.fact h⟩
theorem by_rds8 {bts : Bytes} (hm : Ins L (byF v bts).it) : Rds L v bts.length 1 (u8s bts) := by
  generalize hI : (byF v bts).it = I at hm
  induction hm with
  | hd => subst hI; exact .byt
  | tl _ ih => exact .tl (ih hI)
theorem txs_HashR (hs : Isk.Sep b w L) (hR : Ins L rndF.it) (hv : Rds L v l.length 1 (u8s l)) (hl : l.length < 140737488354000) : C Tryz.prog N.txs_Hash #[v] w fun r w' => r = .agg (u8s (hB l)).toArray ∧ Isk.Sep b w' L := by
  refine C.txs_Hash ?_
  unfold F.txs_Hash
  refine sp_newr hs (by kernel_rfl) fun g2 w hs => ?_
  refine sp_row1 (c := 9) hs fun u w hs => ?_
  repeat with_reducible refine mv.mk ?_
  refine sp_appY (m := l) hs .hd (.tl hv) (by simp only [List.length_cons, List.length_nil]; omega) fun u w hs => ?_
  replace hs := hs.rowB .hd
  refine cl (sha_Sum hs (.tl (.tl hR)) .hd (by simp only [List.length_append, List.length_cons, List.length_nil]; omega)) ?_
  rintro _ w ⟨rfl, hs⟩
  refine sp_ret hs (.tl .hd) (by kernel_rfl) (by rw [u8s_length, shaB_len]) (u8s_one _) fun w hs => ?_
  exact ⟨rfl, hs.drop .hd⟩
theorem txs_Hash (hs : Isk.Sep b w L) (hR : Ins L rndF.it) (hv : Ins L (byF v l).it) (hl : l.length < 140737488354000) : C Tryz.prog N.txs_Hash #[v] w fun r w' => r = .agg (u8s (hB l)).toArray ∧ Isk.Sep b w' L :=
  txs_HashR hs hR (by_rds8 hv) hl
end
end Go.Proofs.YtgagekffmamldaaGreatDoor
set_option linter.unusedVariables false
set_option linter.unusedSimpArgs false
set_option linter.unusedSectionVars false
namespace Go.Proofs.YtgagekffmamldaaGreatDoor
open Go Go.Isk Go.RowKit
set_option maxRecDepth 20000
section
variable {b : Base} {w : World} {L R : List It} {g g3 : Nat} {v sv lv kv : Value} {cs : List Value} {p : PoolD} {x : ItemD} {l h : Bytes} {ls : List ItemD} {ks : List Bytes}
theorem plT : lssT Tryz.prog T.int := fun x y a c w => by simp [go_sem, bin]
theorem paT : addT Tryz.prog T.int := fun x y a c w => by simp [go_sem, bin]
theorem by_slice8 (hs : Isk.Sep b w L) (hm : Ins L (byF v l).it) : ∃ A c, v = .slice A l.length c := by
  obtain ⟨A, c, h, _⟩ := (hs.get hm).1
  exact ⟨A, c, h⟩
theorem sizeP_take {i : Nat} (hi : i < ls.length) : sizeP (ls.take (i + 1)) = sizeP (ls.take i) + ls[i].b.length := by
  unfold sizeP
  rw [List.take_succ_eq_append_getElem hi, List.map_append, List.sum_append]
  simp
theorem sizeP_le {i : Nat} : sizeP (ls.take i) ≤ sizeP ls := by
  unfold sizeP
  have h := congrArg (fun l => (List.map (fun x : ItemD => x.b.length) l).sum) (List.take_append_drop i ls)
  simp only [List.map_append, List.sum_append] at h
  omega
theorem pool_size (hs : Isk.Sep b w L) (hl : Lst itemF 35 L sv ls) (hn : ls.length ≤ 1000000000) (hb : sizeP ls ≤ 4611686018427387904) : C Tryz.prog N.pool_size #[sv] w fun r w' => r = .int .i64 (sizeP ls) ∧ Isk.Sep b w' L := by
  obtain ⟨A, c, rfl⟩ := hs.lst_len hl
  refine C.pool_size ?_
  unfold F.pool_size
  repeat (first
   | (with_reducible (first | refine st_lens ?_ | refine mv.mk ?_ | refine br_t ?_ | refine br_f ?_))
   | (with_reducible ((first | apply st_bin | apply st_len); intro k' hk; simp [go_sem, thenR_ok, bin]; refine hk _ _ ?_; clear hk k'))
   | ((with_reducible apply sp_newr hs); (· kernel_rfl); intro g w hs))
  refine lp_by (fun us w' => ∃ i : Nat, us = [.int .i64 (sizeP (ls.take i) : Int), .int .i64 (i : Int)] ∧ i ≤ ls.length ∧ Isk.Sep b w' L) (fun us _ => match us with | [_, .int _ m] => ls.length - m.toNat | _ => 0) ⟨0, rfl, Nat.zero_le _, hs⟩ ?_
  clear hs
  rintro x1 w ⟨i, hx1, hi, hs⟩
  simp only [List.cons.injEq, and_true] at hx1
  simp only [hx1.1, hx1.2]
  repeat (first
   | (with_reducible (first | refine st_lens ?_ | refine mv.mk ?_ | refine br_t ?_ | refine br_f ?_))
   | (with_reducible ((first | apply st_bin | apply st_len); intro k' hk; simp [go_sem, thenR_ok, bin]; refine hk _ _ ?_; clear hk k'))
   | ((with_reducible apply sp_newr hs); (· kernel_rfl); intro g w hs))
  refine br_split (fun hq => ?_) (fun hq => ?_)
  · have hi' : i < ls.length := by have := of_decide_eq_true hq; omega
    have hst := sizeP_take hi'
    have hle := sizeP_le (ls := ls) (i := i + 1)
    refine sp_eln hs hl itT (by kernel_rfl) i rfl hi' fun cs hcl hs => ?_
    obtain ⟨bv, rfl, hs⟩ := item_open hs .hd
    obtain ⟨A2, c2, rfl⟩ := by_slice8 hs .hd
    refine sp_newr hs (by kernel_rfl) fun g5 w hs => ?_
    refine sp_setr (ds := itemV ls[i] (.slice A2 ls[i].b.length c2)) hs .hd (by kernel_rfl) hcl (pitemC_one rfl (u8s_one _) rfl rfl) fun w hs => ?_
    repeat (first
     | (with_reducible refine pitem.a0 ?_)
     | ((with_reducible apply pitem.r0 hs); (· (with_reducible (repeat (first | exact .blk | exact .rng | apply Rng.tl)))))
     | ((with_reducible apply tn_add); (· omega))
     | ((with_reducible apply tn_sub); (· omega))
     | ((with_reducible apply tn_mul); (· omega))
     | ((with_reducible apply sn_add); (· omega))
     | ((with_reducible apply sn_sub); (· omega))
     | ((with_reducible apply sn_mul); (· omega))
     | (with_reducible (first | refine st_lens ?_ | refine mv.mk ?_ | refine br_t ?_ | refine br_f ?_))
     | (with_reducible ((first | apply st_bin | apply st_len); intro k' hk; simp [go_sem, thenR_ok, bin]; refine hk _ _ ?_; clear hk k'))
     | ((with_reducible apply sp_newr hs); (· kernel_rfl); intro g w hs))
    refine ⟨⟨i + 1, ?_, hi', hs.sbl (.drop (.drop (.drop .all)))⟩, by simp; omega⟩
    rw [hst]
    push_cast
    rfl
  · obtain rfl : i = ls.length := by have := of_decide_eq_false hq; omega
    repeat with_reducible refine mv.mk ?_
    rw [List.take_length]
    exact ⟨rfl, hs⟩
theorem pool_Len {lv kv : Value} (hs : Isk.Sep b w (blkI g T.pool_Pool (poolV p lv kv) :: growI itemF T.pool_item 35 lv p.l :: L)) :
    C Tryz.prog N.pool_Pool_Len #[.pointer (some ⟨g, 0, none⟩)] w fun r w' => r = .int .i64 p.l.length ∧ Isk.Sep b w' (blkI g T.pool_Pool (poolV p lv kv) :: growI itemF T.pool_item 35 lv p.l :: L) := by
  obtain ⟨A, c, rfl⟩ := hs.lst_len (.tl .gr)
  refine C.pool_Pool_Len ?_
  unfold F.pool_Pool_Len
  repeat (first
   | (with_reducible refine pool.a3 ?_)
   | ((with_reducible apply pool.r3 hs); (· (with_reducible (repeat (first | exact .blk | exact .rng | apply Rng.tl)))))
   | (with_reducible (first | refine st_lens ?_ | refine st_eqls ?_ | refine mv.mk ?_ | refine nk_p ?_ | refine br_t ?_ | refine br_f ?_))
   | (with_reducible ((first | apply st_bin | apply st_len); intro k' hk; simp [go_sem, thenR_ok, bin]; refine hk _ _ ?_; clear hk k')))
  exact ⟨rfl, hs⟩
theorem pool_Bytes {lv kv : Value} (hn : p.l.length ≤ 1000000000) (hb : sizeP p.l ≤ 4611686018427387904) (hs : Isk.Sep b w (blkI g T.pool_Pool (poolV p lv kv) :: growI itemF T.pool_item 35 lv p.l :: L)) :
    C Tryz.prog N.pool_Pool_Bytes #[.pointer (some ⟨g, 0, none⟩)] w fun r w' => r = .int .i64 (sizeP p.l) ∧ Isk.Sep b w' (blkI g T.pool_Pool (poolV p lv kv) :: growI itemF T.pool_item 35 lv p.l :: L) := by
  refine C.pool_Pool_Bytes ?_
  unfold F.pool_Pool_Bytes
  repeat (first
   | (with_reducible refine pool.a3 ?_)
   | ((with_reducible apply pool.r3 hs); (· (with_reducible (repeat (first | exact .blk | exact .rng | apply Rng.tl)))))
   | (with_reducible (first | refine st_eqls ?_ | refine mv.mk ?_ | refine nk_p ?_ | refine br_t ?_ | refine br_f ?_))
   | (with_reducible ((first | apply st_bin); intro k' hk; simp [go_sem, thenR_ok, bin]; refine hk _ _ ?_; clear hk k')))
  refine cl (pool_size hs (.tl .gr) hn hb) ?_
  rintro _ w ⟨rfl, hs⟩
  repeat with_reducible refine mv.mk ?_
  exact ⟨rfl, hs⟩
theorem pool_Has_1 (hs : Isk.Sep b w L) (hx : Ins L (itemF cs x).it) (hh : h.length = 32) (hg : Rng L g3 0 (u8s h)) : C Tryz.prog N.pool_Pool_Has_1 #[.agg cs.toArray, .pointer (some ⟨g3, 0, none⟩)] w fun r w' => r = .bool (decide (hB x.b = h)) ∧ Isk.Sep b w' L := by
  obtain ⟨bv, rfl, hs⟩ := item_open hs hx
  refine C.pool_Pool_Has_1 ?_
  unfold F.pool_Pool_Has_1
  refine sp_boxa hs fun g2 w hs => ?_
  have hH := hB_len x.b
  repeat (first
   | (with_reducible refine pitem.a1 ?_)
   | ((with_reducible apply pitem.r1 hs); (· (with_reducible (repeat (first | exact .blk | exact .rng | apply Rng.tl)))); (· (with_reducible (first | assumption | exact z32 | exact u8s_len (by assumption)))))
   | (with_reducible (first | refine st_eqls ?_ | refine mv.mk ?_ | refine sp_boxa hs fun g w hs => ?_))
   | (with_reducible ((first | apply st_bin); intro k' hk; simp [go_sem, thenR_ok, bin]; refine hk _ _ ?_; clear hk k')))
  refine sp_ldn hs (.tl (.tl hg)) (by kernel_rfl) (by rw [u8s_length, hh]) ?_
  refine st_of (hash_eq hH hh _ _ w) ?_
  repeat with_reducible refine mv.mk ?_
  exact ⟨rfl, hs.sbl (.drop (.drop .all))⟩
theorem slices_ContainsFunc_it (hs : Isk.Sep b w L) (hm : Lst itemF 35 L sv ls) (hn : ls.length ≤ 4611686018427387904) (hh : h.length = 32) (hg : Rng L g3 0 (u8s h)) :
    C Tryz.prog N.slices_ContainsFunc_pool_item_pool_item #[sv, .func (.func N.pool_Pool_Has_1) #[] #[.pointer (some ⟨g3, 0, none⟩)]] w fun r w' => r = .bool (ls.any fun x => decide (hB x.b = h)) ∧ Isk.Sep b w' L := by
  refine C.slices_ContainsFunc_pool_item_pool_item ?_
  unfold F.slices_ContainsFunc_pool_item_pool_item
  repeat with_reducible refine mv.mk ?_
  refine C.slices_IndexFunc_pool_item_pool_item ?_
  show IdxBody Tryz.prog T.int T.sl_pool_item T.pool_item _ _ _ _
  refine idx_agg (p := fun x => decide (hB x.b = h)) (by_ := 72) plT paT itT (by kernel_rfl) hs hm hn ?_ ?_
  · intro w i hi xs K hxl hs hK
    refine cv_g (by kernel_rfl) ?_
    refine cl (pool_Has_1 hs .hd hh (.tl hg)) ?_
    rintro _ w ⟨rfl, hs⟩
    exact hK w (hs.drop .hd)
  · intro w hs
    repeat (first
     | (with_reducible (first | refine mv.mk ?_))
     | (with_reducible ((first | apply st_bin); intro k' hk; simp [go_sem, thenR_ok, bin]; refine hk _ _ ?_; clear hk k')))
    rw [idxOf_any]
    exact ⟨rfl, hs⟩
theorem pool_Has {lv kv : Value} (hn : p.l.length ≤ 1000000000) (hh : h.length = 32) (hs : Isk.Sep b w (blkI g T.pool_Pool (poolV p lv kv) :: growI itemF T.pool_item 35 lv p.l :: L)) :
    C Tryz.prog N.pool_Pool_Has #[.pointer (some ⟨g, 0, none⟩), .agg (u8s h).toArray] w fun r w' => r = .bool (hasP p h) ∧ Isk.Sep b w' (blkI g T.pool_Pool (poolV p lv kv) :: growI itemF T.pool_item 35 lv p.l :: L) := by
  refine C.pool_Pool_Has ?_
  unfold F.pool_Pool_Has
  refine sp_boxa hs fun g3 w hs => ?_
  repeat (first
   | (with_reducible refine pool.a3 ?_)
   | ((with_reducible apply pool.r3 hs); (· (with_reducible (repeat (first | exact .blk | exact .rng | apply Rng.tl)))))
   | (with_reducible (first | refine st_nels ?_ | refine mv.mk ?_ | refine nk_p ?_ | refine gd_u ?_ | refine gd_ft ?_ | refine gd_tf ?_ | refine gd_i ?_ | refine pk_t ?_ | refine pk_f ?_ | refine sp_boxa hs fun g w hs => ?_))
   | (with_reducible ((first | apply st_bin | apply st_mkf); intro k' hk; simp [go_sem, thenR_ok, bin]; refine hk _ _ ?_; clear hk k')))
  refine cl (slices_ContainsFunc_it hs (.tl (.tl .gr)) (by omega) hh .blk) ?_
  rintro _ w ⟨rfl, hs⟩
  repeat (first
   | (with_reducible (first | refine st_nels ?_ | refine mv.mk ?_ | refine nk_p ?_ | refine gd_u ?_ | refine gd_ft ?_ | refine gd_tf ?_ | refine gd_i ?_ | refine pk_t ?_ | refine pk_f ?_ | refine sp_boxa hs fun g w hs => ?_))
   | (with_reducible ((first | apply st_bin | apply st_mkf); intro k' hk; simp [go_sem, thenR_ok, bin]; refine hk _ _ ?_; clear hk k')))
  exact ⟨rfl, hs.drop .hd⟩
theorem slices_Index_h (hs : Isk.Sep b w L) (hm : Ins L (listF hashF 32 sv ks).it) (hn : ks.length ≤ 1000000000) (hh : h.length = 32) :
    C Tryz.prog N.slices_Index_api_Hash_api_Hash #[sv, .agg (u8s h).toArray] w fun r w' => r = .int .i64 (idxOf (fun k => decide (h = k)) ks) ∧ Isk.Sep b w' L := by
  obtain ⟨A, c, rfl⟩ := hs.lst_len hm.lst
  refine C.slices_Index_api_Hash_api_Hash ?_
  unfold F.slices_Index_api_Hash_api_Hash
  refine sp_boxa hs fun g3 w hs => ?_
  repeat (first
   | (with_reducible (first | refine st_lens ?_ | refine st_eqls ?_ | refine tk_eqls ?_ | refine mv.mk ?_ | refine br_t ?_ | refine br_f ?_ | refine sp_boxa hs fun g w hs => ?_))
   | (with_reducible ((first | apply st_bin | apply st_len); intro k' hk; simp [go_sem, thenR_ok, bin]; refine hk _ _ ?_; clear hk k'))
   | ((with_reducible (first | apply tk_bin)); (· intro w; simp [go_sem, bin]; rfl)))
  refine lp_by (fun us w' => ∃ (i : Nat) (x y : Value), us = [x, y, .int .i64 (i : Int)] ∧ i ≤ ks.length ∧ (∀ j (h1 : j < i) (h2 : j < ks.length), decide (h = ks[j]) = false) ∧ Isk.Sep b w' (blkI g3 T.api_Hash (u8s h) :: L)) (fun us _ => match us with | [_, _, .int _ m] => ks.length - m.toNat | _ => 0) ⟨0, _, _, rfl, Nat.zero_le _, fun j h => by omega, hs⟩ ?_
  clear hs
  rintro x1 w ⟨i, y1, y2, hx1, hi, hno, hs⟩
  simp only [List.cons.injEq, and_true] at hx1
  simp only [hx1.1, hx1.2.1, hx1.2.2]
  repeat (first
   | (with_reducible (first | refine st_lens ?_ | refine st_eqls ?_ | refine tk_eqls ?_ | refine mv.mk ?_ | refine br_t ?_ | refine br_f ?_ | refine sp_boxa hs fun g w hs => ?_))
   | (with_reducible ((first | apply st_bin | apply st_len); intro k' hk; simp [go_sem, thenR_ok, bin]; refine hk _ _ ?_; clear hk k'))
   | ((with_reducible (first | apply tk_bin)); (· intro w; simp [go_sem, bin]; rfl)))
  refine br_split (fun hq => ?_) (fun hq => ?_)
  · have hi' : i < ks.length := by have := of_decide_eq_true hq; omega
    obtain ⟨g1, o1, ys, hix, hyl, hs⟩ := hs.el (P := Tryz.prog) (T := T.sl_api_Hash) (.tl hm) hsT i hi'
    obtain ⟨hy, hkl⟩ : ys = u8s ks[i] ∧ ks[i].length = 32 := hs.get (.tl .hd)
    subst hy
    have hmm := hs.drew.mayr .all
    have hS : ∀ w', w' = w.drew → Mayr _ w' := fun w' e => e.symm ▸ hmm
    repeat with_reducible refine mv.mk ?_
    refine tk_ldn hS (.tl (.tl .blk)) (by kernel_rfl) (by rw [u8s_length, hh]) ?_
    repeat with_reducible refine mv.mk ?_
    refine tk_run (hix .i64) ?_
    refine tk_ldn hS .rng (by kernel_rfl) hyl ?_
    refine tk_run (hash_eq hh hkl _ _) ?_
    refine br_split (fun hp => ?_) (fun hp => ?_)
    · repeat with_reducible refine mv.mk ?_
      have := idxOf_at (p := fun k => decide (h = k)) hi' (fun j hj => hno j hj (by omega)) hp
      rw [this]
      exact ⟨rfl, hs.drew.sbl (.drop (.drop (.drop .all)))⟩
    · repeat (first
       | (with_reducible (first | refine st_lens ?_ | refine st_eqls ?_ | refine tk_eqls ?_ | refine mv.mk ?_ | refine br_t ?_ | refine br_f ?_ | refine sp_boxa hs fun g w hs => ?_))
       | (with_reducible ((first | apply st_bin | apply st_len); intro k' hk; simp [go_sem, thenR_ok, bin]; refine hk _ _ ?_; clear hk k'))
       | ((with_reducible (first | apply tk_bin)); (· intro w; simp [go_sem, bin]; rfl)))
      rw [i64_succ (by omega)]
      refine ⟨⟨i + 1, _, _, rfl, hi', fun j hj h2 => ?_, hs.drew.sbl (.drop (.drop .all))⟩, by simp; omega⟩
      rcases Nat.lt_or_ge j i with h | h
      · exact hno j h h2
      · have : j = i := by omega
        subst this; exact hp
  · have hi' : ¬ i < ks.length := by have := of_decide_eq_false hq; omega
    repeat with_reducible refine mv.mk ?_
    have := idxOf_no (p := fun k => decide (h = k)) fun j hj => hno j (by omega) hj
    rw [this]
    exact ⟨rfl, hs.drop .hd⟩
theorem slices_Contains_h (hs : Isk.Sep b w L) (hm : Ins L (listF hashF 32 sv ks).it) (hn : ks.length ≤ 1000000000) (hh : h.length = 32) :
    C Tryz.prog N.slices_Contains_api_Hash_api_Hash #[sv, .agg (u8s h).toArray] w fun r w' => r = .bool (ks.any fun k => decide (h = k)) ∧ Isk.Sep b w' L := by
  refine C.slices_Contains_api_Hash_api_Hash ?_
  unfold F.slices_Contains_api_Hash_api_Hash
  refine sp_boxa hs fun g3 w hs => ?_
  repeat with_reducible refine mv.mk ?_
  refine sp_ldn hs .blk (by kernel_rfl) (by rw [u8s_length, hh]) ?_
  refine cl (slices_Index_h hs (.tl hm) hn hh) ?_
  rintro _ w ⟨rfl, hs⟩
  repeat (first
   | (with_reducible (first | refine mv.mk ?_ | refine sp_boxa hs fun g w hs => ?_))
   | (with_reducible ((first | apply st_bin); intro k' hk; simp [go_sem, thenR_ok, bin]; refine hk _ _ ?_; clear hk k')))
  rw [idxOf_any]
  exact ⟨rfl, hs.drop .hd⟩
theorem pool_Knows {lv kv : Value} (hn : p.l.length ≤ 1000000000) (hk : p.known.length ≤ 1000000000) (hh : h.length = 32) (hs : Isk.Sep b w (blkI g T.pool_Pool (poolV p lv kv) :: growI itemF T.pool_item 35 lv p.l :: L)) (hm : Ins L (listF hashF 32 kv p.known).it) :
    C Tryz.prog N.pool_Pool_Knows #[.pointer (some ⟨g, 0, none⟩), .agg (u8s h).toArray] w fun r w' => r = .bool (knowsP p h) ∧ Isk.Sep b w' (blkI g T.pool_Pool (poolV p lv kv) :: growI itemF T.pool_item 35 lv p.l :: L) := by
  refine C.pool_Pool_Knows ?_
  unfold F.pool_Pool_Knows
  refine sp_boxa hs fun g3 w hs => ?_
  repeat with_reducible refine mv.mk ?_
  replace hs := hs.drew
  refine dr_can (R := [blkI g3 T.api_Hash (u8s h), blkI g T.pool_Pool (poolV p lv kv)]) hs (.cons .hd (.cons .hd .nil)) ?_
  have hS : ∀ w, Mayr [blkI g3 T.api_Hash (u8s h), blkI g T.pool_Pool (poolV p lv kv)] w → Mayr [blkI g3 T.api_Hash (u8s h), blkI g T.pool_Pool (poolV p lv kv)] w := fun _ h => h
  repeat with_reducible refine mv.mk ?_
  refine tk_ldn hid .blk (by kernel_rfl) (by rw [u8s_length, hh]) ?_
  refine cl (pool_Has hn hh (hs.sbl (.cons (.tl .hd) (.cons (.tl .hd) .all)))) ?_
  rintro _ w ⟨rfl, hs⟩
  refine ⟨hs.mayr (.cons (.tl (.tl .hd)) (.cons .hd .nil)), ?_⟩
  unfold knowsP
  cases hasP p h with
  | true =>
    repeat (first
     | (with_reducible (first | refine st_nels ?_ | refine tk_nels ?_ | refine mv.mk ?_ | refine nk_p ?_ | refine gdT_i ?_ | refine gdT_ft ?_ | refine gdT_tf ?_ | refine gdT_u ?_ | refine gd_u ?_ | refine gd_ft ?_ | refine gd_tf ?_ | refine gd_i ?_ | refine pk_t ?_ | refine pk_f ?_ | refine sp_boxa hs fun g w hs => ?_))
     | (with_reducible ((first | apply st_bin); intro k' hk; simp [go_sem, thenR_ok, bin]; refine hk _ _ ?_; clear hk k'))
     | ((with_reducible (first | apply tk_bin)); (· intro w; simp [go_sem, bin]; rfl)))
    refine nS_can (R := [blkI g3 T.api_Hash (u8s h), blkI g T.pool_Pool (poolV p lv kv)]) hs (.cons (.tl (.tl .hd)) (.cons .hd .nil)) .all ?_
    repeat (first
     | (with_reducible (first | refine st_nels ?_ | refine tk_nels ?_ | refine mv.mk ?_ | refine nk_p ?_ | refine gdT_i ?_ | refine gdT_ft ?_ | refine gdT_tf ?_ | refine gdT_u ?_ | refine gd_u ?_ | refine gd_ft ?_ | refine gd_tf ?_ | refine gd_i ?_ | refine pk_t ?_ | refine pk_f ?_ | refine sp_boxa hs fun g w hs => ?_))
     | (with_reducible ((first | apply st_bin); intro k' hk; simp [go_sem, thenR_ok, bin]; refine hk _ _ ?_; clear hk k'))
     | ((with_reducible (first | apply tk_bin)); (· intro w; simp [go_sem, bin]; rfl)))
    refine ⟨hs.mayr (.cons (.tl (.tl .hd)) (.cons .hd .nil)), ?_⟩
    repeat (first
     | (with_reducible (first | refine st_nels ?_ | refine tk_nels ?_ | refine mv.mk ?_ | refine nk_p ?_ | refine gdT_i ?_ | refine gdT_ft ?_ | refine gdT_tf ?_ | refine gdT_u ?_ | refine gd_u ?_ | refine gd_ft ?_ | refine gd_tf ?_ | refine gd_i ?_ | refine pk_t ?_ | refine pk_f ?_ | refine sp_boxa hs fun g w hs => ?_))
     | (with_reducible ((first | apply st_bin); intro k' hk; simp [go_sem, thenR_ok, bin]; refine hk _ _ ?_; clear hk k'))
     | ((with_reducible (first | apply tk_bin)); (· intro w; simp [go_sem, bin]; rfl)))
    exact ⟨rfl, hs.sbl (.cons .hd (.cons .hd (.drop .all)))⟩
  | false =>
    repeat (first
     | (with_reducible refine pool.c4 ?_)
     | ((with_reducible apply pool.e4); (· first | exact hS | exact hid); (· (with_reducible (repeat (first | exact .blk | exact .rng | apply Rng.tl)))))
     | (with_reducible (first | refine st_nels ?_ | refine tk_nels ?_ | refine mv.mk ?_ | refine nk_p ?_ | refine gdT_i ?_ | refine gdT_ft ?_ | refine gdT_tf ?_ | refine gdT_u ?_ | refine gd_u ?_ | refine gd_ft ?_ | refine gd_tf ?_ | refine gd_i ?_ | refine pk_t ?_ | refine pk_f ?_ | refine sp_boxa hs fun g w hs => ?_))
     | (with_reducible ((first | apply st_bin); intro k' hk; simp [go_sem, thenR_ok, bin]; refine hk _ _ ?_; clear hk k'))
     | ((with_reducible (first | apply tk_bin)); (· intro w; simp [go_sem, bin]; rfl)))
    refine nS_can (R := [blkI g3 T.api_Hash (u8s h), blkI g T.pool_Pool (poolV p lv kv)]) hs (.cons (.tl (.tl .hd)) (.cons .hd .nil)) .all ?_
    repeat (first
     | (with_reducible refine pool.c4 ?_)
     | ((with_reducible apply pool.e4); (· first | exact hS | exact hid); (· (with_reducible (repeat (first | exact .blk | exact .rng | apply Rng.tl)))))
     | (with_reducible (first | refine st_nels ?_ | refine tk_nels ?_ | refine mv.mk ?_ | refine nk_p ?_ | refine gdT_i ?_ | refine gdT_ft ?_ | refine gdT_tf ?_ | refine gdT_u ?_ | refine gd_u ?_ | refine gd_ft ?_ | refine gd_tf ?_ | refine gd_i ?_ | refine pk_t ?_ | refine pk_f ?_ | refine sp_boxa hs fun g w hs => ?_))
     | (with_reducible ((first | apply st_bin); intro k' hk; simp [go_sem, thenR_ok, bin]; refine hk _ _ ?_; clear hk k'))
     | ((with_reducible (first | apply tk_bin)); (· intro w; simp [go_sem, bin]; rfl)))
    refine tk_ldn hid .blk (by kernel_rfl) (by rw [u8s_length, hh]) ?_
    repeat (first
     | (with_reducible (first | refine st_nels ?_ | refine tk_nels ?_ | refine mv.mk ?_ | refine nk_p ?_ | refine gdT_i ?_ | refine gdT_ft ?_ | refine gdT_tf ?_ | refine gdT_u ?_ | refine gd_u ?_ | refine gd_ft ?_ | refine gd_tf ?_ | refine gd_i ?_ | refine pk_t ?_ | refine pk_f ?_ | refine sp_boxa hs fun g w hs => ?_))
     | (with_reducible ((first | apply st_bin); intro k' hk; simp [go_sem, thenR_ok, bin]; refine hk _ _ ?_; clear hk k'))
     | ((with_reducible (first | apply tk_bin)); (· intro w; simp [go_sem, bin]; rfl)))
    refine cl (slices_Contains_h hs (.tl (.tl (.tl hm))) hk hh) ?_
    rintro _ w ⟨rfl, hs⟩
    refine ⟨hs.mayr (.cons (.tl (.tl .hd)) (.cons .hd .nil)), ?_⟩
    repeat (first
     | (with_reducible (first | refine st_nels ?_ | refine tk_nels ?_ | refine mv.mk ?_ | refine nk_p ?_ | refine gdT_i ?_ | refine gdT_ft ?_ | refine gdT_tf ?_ | refine gdT_u ?_ | refine gd_u ?_ | refine gd_ft ?_ | refine gd_tf ?_ | refine gd_i ?_ | refine pk_t ?_ | refine pk_f ?_ | refine sp_boxa hs fun g w hs => ?_))
     | (with_reducible ((first | apply st_bin); intro k' hk; simp [go_sem, thenR_ok, bin]; refine hk _ _ ?_; clear hk k'))
     | ((with_reducible (first | apply tk_bin)); (· intro w; simp [go_sem, bin]; rfl)))
    exact ⟨rfl, hs.sbl (.cons .hd (.cons .hd (.drop .all)))⟩
end
end Go.Proofs.YtgagekffmamldaaGreatDoor
