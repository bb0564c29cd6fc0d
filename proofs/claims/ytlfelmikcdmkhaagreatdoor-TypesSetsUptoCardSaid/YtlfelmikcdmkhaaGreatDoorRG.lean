/- The document's answer, chapter 11: Read and Decode. -/
import Derived.Test.YtlfelmikcdmkhaaGreatDoorTG
set_option linter.unusedVariables false
set_option linter.unusedSimpArgs false
set_option linter.unusedSectionVars false
namespace Go.Proofs.YtlfelmikcdmkhaaGreatDoor
open Go Go.Isk Go.RowKit
section
variable {b : Base} {w : World} {L R R1 R2 R3 R4 : List It} {g g1 g2 g3 g4 : Nat} {s : Rdr} {v : Value} {l : Bytes} {cs ds : List Value} {n most ty : Nat} {k : Value → World → Prop}
abbrev RT : Nat := T.isthmusref02_Reader
theorem rv_set {K : World → Prop} {s' : Rdr} (hs : Sep b w ((rdvF ds s').it :: L)) (hm : Has L (blkI g1 RT cs) R) (hl : cs.length = 2) (hk : ∀ w, Sep b w (blkI g1 RT ds :: (rdvF ds s').it :: R) → K w) :
    o0 Tryz.prog (Instr.storeAt RT (.pointer (some ⟨g1, 0, none⟩)) (.agg ds.toArray)) w fun _ w => K w := by
  have hd := hs.ok rdvF_ok .hd
  exact sp_all hs (.tl hm) (by kernel_rfl) hl hd.1 hd.2 fun w hs => hk w (hs.sbl (by repeat (first | with_reducible exact Sbl.all | with_reducible exact Sbl.nil | refine Sbl.cons (by first | ((repeat (first | with_reducible exact Has.hd | with_reducible apply Has.tl)); done) | (repeat (first | exact Has.hd | with_reducible apply Has.tl))) ?_ | refine Sbl.drop ?_)))
theorem rv_int {K : Value → World → Prop} (hs : Sep b w L) (hm : Has L (blkI g1 RT cs) R) (hr : Ins R (rdvF cs s).it) (hk : ∀ w ds, Sep b w (blkI g1 RT ds :: (rdvF ds (rI s).1).it :: R) → K (.int .i64 (rI s).2) w) :
    o1 Tryz.prog (Instr.loadAt RT (.pointer (some ⟨g1, 0, none⟩))) w fun t w => C Tryz.prog N.isthmusref02_ReadInt #[t] w fun p w => mv p fun p => o1 Tryz.prog (Instr.extract p 0) w fun a w => o1 Tryz.prog (Instr.extract p 1) w fun n w =>
      o0 Tryz.prog (Instr.storeAt RT (.pointer (some ⟨g1, 0, none⟩)) a) w fun _ w => K n w := by
  replace hs := hs.perm hm.perm
  have hc := hs.ok rdvF_ok (.tl hr)
  refine sp_loadall hs (by first | ((repeat (first | with_reducible exact Has.hd | with_reducible apply Has.tl)); done) | (repeat (first | exact Has.hd | with_reducible apply Has.tl))) (by kernel_rfl) hc.1 ?_
  refine cl (sp_vInt hs (.tl hr)) ?_; rintro _ w ⟨ds, rfl, hs⟩
  repeat (first
   | (with_reducible (first | refine st_lens ?_ | refine st_eqls ?_ | refine st_nels ?_ | refine tk_eqls ?_ | refine tk_nels ?_ | refine mv.mk ?_ | refine nk_p ?_ | refine gdT_i ?_ | refine gdT_ft ?_ | refine gdT_tf ?_ | refine gdT_u ?_ | refine gd_u ?_ | refine gd_ft ?_ | refine gd_tf ?_ | refine gd_i ?_ | refine pk_t ?_ | refine pk_f ?_ | refine br_t ?_ | refine br_f ?_ | refine sp_boxa hs fun g w hs => ?_))
   | (with_reducible ((first | apply st_bin | apply st_ext | apply st_len | apply st_un | apply st_conv | apply st_mki | apply st_fld | apply st_cap | apply st_max | apply st_min | apply st_ixv | apply st_mkf); intro k' hk; simp [go_sem, thenR_ok, bin]; refine hk _ _ ?_; clear hk k'))
   | ((with_reducible (first | apply tk_bin | apply tk_ext | apply tk_len | apply tk_un)); (· intro w; simp [go_sem, bin]; rfl))
   | ((with_reducible apply sp_newr hs); (· kernel_rfl); intro g w hs))
  exact rv_set hs .hd hc.1 fun w hs => hk w ds hs
theorem rv_hash {K : Value → World → Prop} (hs : Sep b w L) (hm : Has L (blkI g1 RT cs) R) (hr : Ins R (rdvF cs s).it) (hk : ∀ w ds, Sep b w (blkI g1 RT ds :: (rdvF ds (rH s).1).it :: R) → K (.agg (u8s (rH s).2).toArray) w) :
    o1 Tryz.prog (Instr.loadAt RT (.pointer (some ⟨g1, 0, none⟩))) w fun t w => C Tryz.prog N.isthmusref02_ReadHash #[t] w fun p w => mv p fun p => o1 Tryz.prog (Instr.extract p 0) w fun a w => o1 Tryz.prog (Instr.extract p 1) w fun n w =>
      o0 Tryz.prog (Instr.storeAt RT (.pointer (some ⟨g1, 0, none⟩)) a) w fun _ w => K n w := by
  replace hs := hs.perm hm.perm
  have hc := hs.ok rdvF_ok (.tl hr)
  refine sp_loadall hs (by first | ((repeat (first | with_reducible exact Has.hd | with_reducible apply Has.tl)); done) | (repeat (first | exact Has.hd | with_reducible apply Has.tl))) (by kernel_rfl) hc.1 ?_
  refine cl (sp_vHash hs (.tl hr)) ?_; rintro _ w ⟨ds, rfl, hs⟩
  repeat (first
   | (with_reducible (first | refine st_lens ?_ | refine st_eqls ?_ | refine st_nels ?_ | refine tk_eqls ?_ | refine tk_nels ?_ | refine mv.mk ?_ | refine nk_p ?_ | refine gdT_i ?_ | refine gdT_ft ?_ | refine gdT_tf ?_ | refine gdT_u ?_ | refine gd_u ?_ | refine gd_ft ?_ | refine gd_tf ?_ | refine gd_i ?_ | refine pk_t ?_ | refine pk_f ?_ | refine br_t ?_ | refine br_f ?_ | refine sp_boxa hs fun g w hs => ?_))
   | (with_reducible ((first | apply st_bin | apply st_ext | apply st_len | apply st_un | apply st_conv | apply st_mki | apply st_fld | apply st_cap | apply st_max | apply st_min | apply st_ixv | apply st_mkf); intro k' hk; simp [go_sem, thenR_ok, bin]; refine hk _ _ ?_; clear hk k'))
   | ((with_reducible (first | apply tk_bin | apply tk_ext | apply tk_len | apply tk_un)); (· intro w; simp [go_sem, bin]; rfl))
   | ((with_reducible apply sp_newr hs); (· kernel_rfl); intro g w hs))
  exact rv_set hs .hd hc.1 fun w hs => hk w ds hs
theorem rv_count {K : Value → World → Prop} (hs : Sep b w L) (hm : Has L (blkI g1 RT cs) R) (hr : Ins R (rdvF cs s).it) (hl : most ≤ 2147483648) (hk : ∀ w ds, Sep b w (blkI g1 RT ds :: (rdvF ds (rC most s).1).it :: R) → K (.int .i64 (rC most s).2) w) :
    o1 Tryz.prog (Instr.loadAt RT (.pointer (some ⟨g1, 0, none⟩))) w fun t w => C Tryz.prog N.isthmusref02_ReadCount #[t, .int .i64 most] w fun p w => mv p fun p => o1 Tryz.prog (Instr.extract p 0) w fun a w => o1 Tryz.prog (Instr.extract p 1) w fun n w =>
      o0 Tryz.prog (Instr.storeAt RT (.pointer (some ⟨g1, 0, none⟩)) a) w fun _ w => K n w := by
  replace hs := hs.perm hm.perm
  have hc := hs.ok rdvF_ok (.tl hr)
  refine sp_loadall hs (by first | ((repeat (first | with_reducible exact Has.hd | with_reducible apply Has.tl)); done) | (repeat (first | exact Has.hd | with_reducible apply Has.tl))) (by kernel_rfl) hc.1 ?_
  refine cl (sp_vCount hs (.tl hr) hl) ?_; rintro _ w ⟨ds, rfl, hs⟩
  repeat (first
   | (with_reducible (first | refine st_lens ?_ | refine st_eqls ?_ | refine st_nels ?_ | refine tk_eqls ?_ | refine tk_nels ?_ | refine mv.mk ?_ | refine nk_p ?_ | refine gdT_i ?_ | refine gdT_ft ?_ | refine gdT_tf ?_ | refine gdT_u ?_ | refine gd_u ?_ | refine gd_ft ?_ | refine gd_tf ?_ | refine gd_i ?_ | refine pk_t ?_ | refine pk_f ?_ | refine br_t ?_ | refine br_f ?_ | refine sp_boxa hs fun g w hs => ?_))
   | (with_reducible ((first | apply st_bin | apply st_ext | apply st_len | apply st_un | apply st_conv | apply st_mki | apply st_fld | apply st_cap | apply st_max | apply st_min | apply st_ixv | apply st_mkf); intro k' hk; simp [go_sem, thenR_ok, bin]; refine hk _ _ ?_; clear hk k'))
   | ((with_reducible (first | apply tk_bin | apply tk_ext | apply tk_len | apply tk_un)); (· intro w; simp [go_sem, bin]; rfl))
   | ((with_reducible apply sp_newr hs); (· kernel_rfl); intro g w hs))
  exact rv_set hs .hd hc.1 fun w hs => hk w ds hs
theorem rv_bytes {K : Value → World → Prop} (hs : Sep b w L) (hm : Has L (blkI g1 RT cs) R) (hr : Ins R (rdvF cs s).it) (hl : most ≤ 2147483648) (hk : ∀ w ds v, Sep b w (blkI g1 RT ds :: (rdvF ds (rB most s).1).it :: (byF v (rB most s).2).it :: R) → K v w) :
    o1 Tryz.prog (Instr.loadAt RT (.pointer (some ⟨g1, 0, none⟩))) w fun t w => C Tryz.prog N.isthmusref02_ReadBytes #[t, .int .i64 most] w fun p w => mv p fun p => o1 Tryz.prog (Instr.extract p 0) w fun a w => o1 Tryz.prog (Instr.extract p 1) w fun n w =>
      o0 Tryz.prog (Instr.storeAt RT (.pointer (some ⟨g1, 0, none⟩)) a) w fun _ w => K n w := by
  replace hs := hs.perm hm.perm
  have hc := hs.ok rdvF_ok (.tl hr)
  refine sp_loadall hs (by first | ((repeat (first | with_reducible exact Has.hd | with_reducible apply Has.tl)); done) | (repeat (first | exact Has.hd | with_reducible apply Has.tl))) (by kernel_rfl) hc.1 ?_
  refine cl (sp_vBytes hs (.tl hr) hl) ?_; rintro _ w ⟨ds, v, rfl, hs⟩
  repeat (first
   | (with_reducible (first | refine st_lens ?_ | refine st_eqls ?_ | refine st_nels ?_ | refine tk_eqls ?_ | refine tk_nels ?_ | refine mv.mk ?_ | refine nk_p ?_ | refine gdT_i ?_ | refine gdT_ft ?_ | refine gdT_tf ?_ | refine gdT_u ?_ | refine gd_u ?_ | refine gd_ft ?_ | refine gd_tf ?_ | refine gd_i ?_ | refine pk_t ?_ | refine pk_f ?_ | refine br_t ?_ | refine br_f ?_ | refine sp_boxa hs fun g w hs => ?_))
   | (with_reducible ((first | apply st_bin | apply st_ext | apply st_len | apply st_un | apply st_conv | apply st_mki | apply st_fld | apply st_cap | apply st_max | apply st_min | apply st_ixv | apply st_mkf); intro k' hk; simp [go_sem, thenR_ok, bin]; refine hk _ _ ?_; clear hk k'))
   | ((with_reducible (first | apply tk_bin | apply tk_ext | apply tk_len | apply tk_un)); (· intro w; simp [go_sem, bin]; rfl))
   | ((with_reducible apply sp_newr hs); (· kernel_rfl); intro g w hs))
  replace hs := hs.sbl (L' := (rdvF ds (rB most s).1).it :: (byF v (rB most s).2).it :: blkI g1 RT cs :: R) (by repeat (first | with_reducible exact Sbl.all | with_reducible exact Sbl.nil | refine Sbl.cons (by first | ((repeat (first | with_reducible exact Has.hd | with_reducible apply Has.tl)); done) | (repeat (first | exact Has.hd | with_reducible apply Has.tl))) ?_ | refine Sbl.drop ?_))
  exact rv_set hs (by first | ((repeat (first | with_reducible exact Has.hd | with_reducible apply Has.tl)); done) | (repeat (first | exact Has.hd | with_reducible apply Has.tl))) hc.1 fun w hs => hk w ds v hs
theorem z32 : (u8s zero32).length = 32 := by simp [u8s, zero32]
/-- a literal without parts -/
theorem sp_zlit {t : TypeId} (hz : zeroT Tryz.prog t cs) (hl : litT Tryz.prog t [] n = true) (hk : k (.agg cs.toArray) w) : o1 Tryz.prog (Instr.build t #[]) w k :=
  st_lit (ss := []) (n := n) [] rfl rfl hl fun zs _ hzz => by
    obtain rfl := zeroT_eq hzz hz
    simpa using hk
end
end Go.Proofs.YtlfelmikcdmkhaaGreatDoor
