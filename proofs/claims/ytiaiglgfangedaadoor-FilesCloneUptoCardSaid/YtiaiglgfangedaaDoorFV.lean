/- files: FilesSafe. -/
import Derived.Test.YtiaiglgfangedaaDoorFR
import Derived.Test.YtiaiglgfangedaaDoorKX
import Derived.Lib.UnsafeStr
set_option linter.unusedVariables false
set_option linter.unusedSimpArgs false
set_option linter.unusedSectionVars false
namespace Go.Isk
open Go Go.RowKit
section
variable {P : Program} {b : Base} {w w' : World} {L R : List It} {g o c T E by_ n : Nat} {l : List UInt8} {cs : List Value} {k : Value → World → Prop}
theorem upd_freeze (a : Addr) (m : Nat) : Upd (fun k => k = a.block) w (w.freeze a m) := by
  unfold World.freeze
  split
  · exact Upd.refl
  · refine ⟨rfl, rfl, rfl, by simp, fun k hk hn => ?_⟩
    simp only [Array.getElem?_modify]
    rw [if_neg (fun e => hn e.symm)]
theorem freeze_cell (hb : Blk w g E cs) (i j m : Nat) : (w.freeze ⟨g, j, none⟩ m).cell? ⟨g, i, none⟩ = cs[i]? := by
  unfold World.freeze
  split
  · exact hb.cell i
  · unfold Blk at hb
    simp only [World.cell?, Array.getElem?_modify, if_pos, hb, Option.map_some]
    simp
theorem mark_run (ht : P.underlying T = some (.slice E)) (he : P.underlying E = some (.int .u8)) (hb : Blk w g E cs) (n c : Nat) :
    (convert T T (.slice (some ⟨g, 0, none⟩) n c)).run P w = .ok (.slice (some ⟨g, 0, none⟩) n c) (w.freeze ⟨g, cs.length, none⟩ 1) := by
  have hsh : w.shape? g = some (E, cs.length) := by
    unfold World.shape?
    rw [hb]
    simp
  simp [convert, run_underlying ht, run_underlying he, markStringish, hsh]
/-- bytes of a constant text -/
theorem sp_blit {parts : Array (Nat × Value)} (hs : Sep b w L) (hT : slT P T E 1 by_ = true) (he : P.underlying E = some (.int .u8)) (l : List UInt8) (hp : parts.toList = ((u8s l).zipIdx 0).map fun p => (p.2, p.1)) (hl : l.length = n) (hpos : 0 < n) (hsm : n ≤ 16777216)
    (hk : ∀ v w', Sep b w' ((byF v l).it :: L) → k v w') : o1 P (Instr.buildSlice T n parts) w fun v w => o1 P (convert T T v) w k :=
  st_bslice hT (u8s l) hp (fun v hv => by
    obtain ⟨c, _, rfl⟩ := List.mem_map.1 hv
    rfl) (by rw [u8s_length]; exact hl) hpos (by omega) fun g w1 hb hu hg => by
    have e : ((u8s l).map (·.cells.toList)).flatten = u8s l := by
      rw [u8s, List.map_map]
      exact flat_one l
    rw [e] at hb
    refine st_of (mark_run (slT.spec hT).1 he hb n n) ?_
    have hu2 : Ext w (w1.freeze ⟨g, (u8s l).length, none⟩ 1) := hu.trans (upd_freeze _ _) fun k hk e => by
      have e : k = g := e
      omega
    refine hk _ _ ((hs.ext hu2).fresh hs (fun _ h => h) ⟨_, _, by rw [hl], Nat.le_of_eq hl, by rw [Nat.mul_one]; exact u8s_length .., fun _ => ⟨g, 0, rfl, fun j v hv => ?_⟩⟩ fun k hk => ?_)
    · rw [Nat.zero_add, freeze_cell hb]; exact hv
    · simp only [Value.ownBlock, Option.some.injEq] at hk
      omega
end
end Go.Isk
namespace Go.Proofs.YtiaiglgfangedaaDoor
open Go Go.Isk Go.RowKit
set_option maxRecDepth 20000
section
variable {b : Base} {w : World} {L R : List It} {g gf gm : Nat} {v sv bv kv av : Value} {s l name bts a : Bytes} {cs : List Value} {z : FsD} {keep : List Int}
theorem u8T : Tryd.prog.underlying T.uint8 = some (.int .u8) := by kernel_rfl
theorem errF_zero {e : Value} (hs : Isk.Sep b w L) (hm : Ins L (errF e 0).it) : e = .nilIface := by
  obtain ⟨d, hd⟩ := hs.get hm
  cases d with
  | zero =>
    rcases hd with ⟨rfl, _⟩ | ⟨_, h0, _⟩
    · rfl
    · exact absurd rfl h0
  | succ d' =>
    obtain ⟨_, _, _, _, h0, _⟩ := hd
    exact absurd rfl h0
theorem intL {n : Int} (hs : Sep b w L) {k : Value → World → Prop} (hk : ∀ v w', Sep b w' ((listF iF 1 v [n]).it :: L) → k v w') : o1 Tryd.prog (Instr.buildSlice T.sl_int 1 #[(0, .int .i64 n)]) w k :=
  sp_litv hs fiT rfl fun v w' h => hk v w' ((h.fact (f := listF iF 1 v [n]) ⟨[[.int .i64 n]], ⟨rfl, fun i hi x hx => by
    match i, hi, hx with
    | 0, _, hx => simp only [List.getElem?_cons_zero, Option.some.injEq] at hx; exact hx.symm⟩, fun x hx => by simp at hx; subst hx; rfl, h.get .hd⟩).sbl (.cons .hd (.drop .all)))
theorem okS_fl (hz : OkS z) : ∀ x, lookM name z.m = some x → x.1.length ≤ 4611686018427387904 := fun x hx => by
  have := (hz.m _ (lookM_mem hx)).2.2.2
  show x.1.length ≤ _
  have h2 : x.1.length ≤ 16777216 := this
  omega
theorem files_AppendS (hz : OkS z) (hs : Sep b w (blkI gf T.files_FS (fsV gm z) :: mapI fileF gm z.m :: L)) (hnl : name.length ≤ 1000) (hb : Ins L (byF bv bts).it) (hbl : bts.length ≤ 4611686018427387904) :
    C Tryd.prog N.files_FS_Append #[.pointer (some ⟨gf, 0, none⟩), str name, bv] w fun r w' => Sep b w' ((errF r (appendF z name bts).2).it :: blkI gf T.files_FS (fsV gm (appendF z name bts).1) :: mapI fileF gm (appendF z name bts).1.m :: L) :=
  files_Append hs (by omega) hb.rds hbl (Nat.le_trans hz.n (by decide)) (okS_fl hz)
theorem isthmuslaw04_sure (hs : Sep b w L) : C Tryd.prog N.isthmuslaw04_sure #[] w fun r w' => r = .bool true ∧ Sep b w' L := by
  refine C.isthmuslaw04_sure ?_
  unfold F.isthmuslaw04_sure
  obtain ⟨z1, z2, z3, e1, e2, e3, o1, o2, o3, eE, eF⟩ := sure_law
  repeat with_reducible refine mv.mk ?_
  refine cl (files_New hs) ?_
  rintro _ w ⟨gf, gm, rfl, hs⟩
  repeat (first
   | (with_reducible (first | refine st_lens ?_ | refine st_eqls ?_ | refine st_nels ?_ | refine tk_eqls ?_ | refine tk_nels ?_ | refine mv.mk ?_ | refine nk_p ?_ | refine gdT_i ?_ | refine gdT_ft ?_ | refine gdT_tf ?_ | refine gdT_u ?_ | refine gd_u ?_ | refine gd_ft ?_ | refine gd_tf ?_ | refine gd_i ?_ | refine pk_t ?_ | refine pk_f ?_ | refine br_t ?_ | refine br_f ?_ | refine sp_boxa hs fun g w hs => ?_))
   | (with_reducible ((first | apply st_bin | apply st_ext | apply st_len | apply st_un | apply st_conv | apply st_mki | apply st_fld | apply st_cap | apply st_max | apply st_min | apply st_ixv | apply st_mkf); intro k' hk; simp [go_sem, thenR_ok, bin]; refine hk _ _ ?_; clear hk k'))
   | ((with_reducible (first | apply tk_bin | apply tk_ext | apply tk_len | apply tk_un)); (· intro w; simp [go_sem, bin]; rfl))
   | ((with_reducible apply sp_newr hs); (· kernel_rfl); intro g w hs))
  refine sp_blit hs fbT u8T [97, 98, 99] rfl rfl (by decide) (by decide) fun v1 w hs => ?_
  replace hs := hs.sbl (.cons (.tl .hd) (.cons (.tl .hd) .all))
  refine cl (files_AppendS (name := fN) okS_new hs (by decide) .hd (by decide)) ?_
  rintro r w hs
  rw [e1] at hs
  obtain rfl := errF_zero hs .hd
  replace hs := hs.sbl (.drop (.cons .hd (.cons .hd (.drop .all))))
  repeat with_reducible refine mv.mk ?_
  refine cl (files_Sync (name := fN) hs (by decide)) ?_
  rintro r w hs
  rw [e2] at hs
  obtain rfl := errF_zero hs .hd
  replace hs := hs.drop .hd
  repeat with_reducible refine mv.mk ?_
  refine sp_blit hs fbT u8T [100, 101, 102] rfl rfl (by decide) (by decide) fun v1 w hs => ?_
  replace hs := hs.sbl (.cons (.tl .hd) (.cons (.tl .hd) .all))
  refine cl (files_AppendS (name := fN) o2 hs (by decide) .hd (by decide)) ?_
  rintro r w hs
  rw [e3] at hs
  obtain rfl := errF_zero hs .hd
  replace hs := hs.sbl (.drop (.cons .hd (.cons .hd (.drop .all))))
  repeat with_reducible refine mv.mk ?_
  refine intL hs fun kv w hs => ?_
  replace hs := hs.sbl (.cons (.tl .hd) (.cons (.tl .hd) .all))
  refine cl (files_Start hs .hd o3.m (Nat.le_trans o3.n (by decide))) ?_
  rintro _ w ⟨rfl, hs⟩
  repeat with_reducible refine mv.mk ?_
  refine cl (files_Read (name := fN) hs (by decide) (by rw [eF]; decide)) ?_
  rintro _ w ⟨v, e, rfl, hs⟩
  rw [eF, eE] at hs
  obtain rfl := errF_zero hs (.tl .hd)
  repeat (first
   | (with_reducible (first | refine st_lens ?_ | refine st_eqls ?_ | refine st_nels ?_ | refine tk_eqls ?_ | refine tk_nels ?_ | refine mv.mk ?_ | refine nk_p ?_ | refine gdT_i ?_ | refine gdT_ft ?_ | refine gdT_tf ?_ | refine gdT_u ?_ | refine gd_u ?_ | refine gd_ft ?_ | refine gd_tf ?_ | refine gd_i ?_ | refine pk_t ?_ | refine pk_f ?_ | refine br_t ?_ | refine br_f ?_ | refine sp_boxa hs fun g w hs => ?_))
   | (with_reducible ((first | apply st_bin | apply st_ext | apply st_len | apply st_un | apply st_conv | apply st_mki | apply st_fld | apply st_cap | apply st_max | apply st_min | apply st_ixv | apply st_mkf); intro k' hk; simp [go_sem, thenR_ok, bin]; refine hk _ _ ?_; clear hk k'))
   | ((with_reducible (first | apply tk_bin | apply tk_ext | apply tk_len | apply tk_un)); (· intro w; simp [go_sem, bin]; rfl))
   | ((with_reducible apply sp_newr hs); (· kernel_rfl); intro g w hs))
  refine sp_text hs (l := [97, 98, 99, 100]) (by repeat (first | with_reducible exact Rds.sl | with_reducible exact Rds.byt | with_reducible exact Rds.row | with_reducible apply Rds.tl)) ?_
  repeat with_reducible refine mv.mk ?_
  refine gd_i ?_
  refine st_eqls (a := [97, 98, 99, 100]) (c := [97, 98, 99, 100]) ?_
  repeat (first
   | (with_reducible (first | refine st_lens ?_ | refine st_eqls ?_ | refine st_nels ?_ | refine tk_eqls ?_ | refine tk_nels ?_ | refine mv.mk ?_ | refine nk_p ?_ | refine gdT_i ?_ | refine gdT_ft ?_ | refine gdT_tf ?_ | refine gdT_u ?_ | refine gd_u ?_ | refine gd_ft ?_ | refine gd_tf ?_ | refine gd_i ?_ | refine pk_t ?_ | refine pk_f ?_ | refine br_t ?_ | refine br_f ?_ | refine sp_boxa hs fun g w hs => ?_))
   | (with_reducible ((first | apply st_bin | apply st_ext | apply st_len | apply st_un | apply st_conv | apply st_mki | apply st_fld | apply st_cap | apply st_max | apply st_min | apply st_ixv | apply st_mkf); intro k' hk; simp [go_sem, thenR_ok, bin]; refine hk _ _ ?_; clear hk k'))
   | ((with_reducible (first | apply tk_bin | apply tk_ext | apply tk_len | apply tk_un)); (· intro w; simp [go_sem, bin]; rfl))
   | ((with_reducible apply sp_newr hs); (· kernel_rfl); intro g w hs))
  exact ⟨rfl, hs.sbl (.drop (.drop (.drop (.drop (.drop .all)))))⟩
theorem mod_pos (n : Int) (m : Nat) (h1 : 0 < m) (h2 : m ≤ 1000000) : 0 ≤ IntKind.i64.wrap ((IntKind.u64.wrap n).tmod m) ∧ IntKind.i64.wrap ((IntKind.u64.wrap n).tmod m) < m ∧ IntKind.i64.wrap ((IntKind.u64.wrap n).tmod m) = IntKind.u64.wrap n % m := by
  have hu : 0 ≤ IntKind.u64.wrap n := by
    simp [IntKind.wrap, IntKind.signed, IntKind.bits]; omega
  rw [Int.tmod_eq_emod_of_nonneg hu]
  have h3 := Int.emod_nonneg (IntKind.u64.wrap n) (b := (m : Int)) (by omega)
  have h4 := Int.emod_lt_of_pos (IntKind.u64.wrap n) (b := (m : Int)) (by omega)
  generalize IntKind.u64.wrap n % (m : Int) = x at *
  have : IntKind.i64.wrap x = x := by
    simp [IntKind.wrap, IntKind.signed, IntKind.bits]; omega
  rw [this]
  exact ⟨h3, h4, rfl⟩
end
end Go.Proofs.YtiaiglgfangedaaDoor
