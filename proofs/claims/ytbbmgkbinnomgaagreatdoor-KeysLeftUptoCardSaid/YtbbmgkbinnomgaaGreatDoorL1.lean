/- types: things of bytes. -/
import Derived.Test.YtbbmgkbinnomgaaGreatDoorK9
import Derived.Test.YtbbmgkbinnomgaaGreatDoorKF
import Derived.Test.YtbbmgkbinnomgaaGreatDoorKT
import Derived.DeepKeys
import Derived.Test.YtbbmgkbinnomgaaGreatDoorK8
import Derived.Test.YtbbmgkbinnomgaaGreatDoorTF
set_option linter.unusedVariables false
set_option linter.unusedSimpArgs false
set_option linter.unusedSectionVars false
namespace Go.Proofs.YtbbmgkbinnomgaaGreatDoor
open Go Go.Isk Go.RowKit
def zcC : List Value := commC (.int .i64 0) (.int .i64 0) (u8s zero32) (.slice none 0 0)
section
variable {b : Base} {w : World} {L R : List It} {g : Nat} {s : Rdr}
end
end Go.Proofs.YtbbmgkbinnomgaaGreatDoor
set_option linter.unusedVariables false
set_option linter.unusedSimpArgs false
set_option linter.unusedSectionVars false
namespace Go.Proofs.YtbbmgkbinnomgaaGreatDoor
open Go Go.Isk Go.RowKit
section
variable {b : Base} {w : World} {L R : List It} {g : Nat} {s : Rdr} {v : Value} {l : Bytes}
theorem mkFault {g : Nat} {x : ByteArray} {e : Int} (he : e ≠ 0) (h1 : -9223372036854775808 ≤ e) (h2 : e ≤ 9223372036854775807) (hs : Sep b w L) (hm : Has L (blkI g T.api_Fault [.string x, .iface EN (.int .i64 e)]) R) : Sep b w ((errF (.iface T.p_api_Fault (.pointer (some ⟨g, 0, none⟩))) e).it :: R) :=
  hs.freeze hm fun S hB => ⟨1, g, x.data.toList, _, rfl, he, ⟨by
    have hr : w.rangeAt g 0 [.string x, .iface EN (.int .i64 e)] := Blk.range hB fun j v hv => by rwa [Nat.zero_add]
    simpa [str] using hr, fun _ => .inr (by simp [blkI])⟩, .inr ⟨rfl, he, h1, h2⟩⟩
/-- the thing of bytes, or the error's number -/
def decN {α : Type} (g : Rdr → Rdr × α) (none : α) (l : Bytes) : α × Int := match g (some l) with
  | (some [], x) => (x, 0)
  | _ => (none, 3)
def zhC : List Value := headC (str []) (.int .i64 0) (.int .i64 0) (u8s zero32) (u8s zero32) (u8s zero32) (u8s zero32) (u8s zero32) (.int .i64 0)
end
end Go.Proofs.YtbbmgkbinnomgaaGreatDoor
set_option linter.unusedVariables false
set_option linter.unusedSimpArgs false
set_option linter.unusedSectionVars false
namespace Go.Proofs.YtbbmgkbinnomgaaGreatDoor
open Go Go.Isk Go.RowKit
section
variable {b : Base} {w : World} {L R R1 R2 R3 R4 : List It} {g g1 g2 g3 g4 : Nat} {s : Rdr} {v : Value} {l : Bytes} {cs ds : List Value} {n most ty : Nat} {k : Value → World → Prop}
abbrev RT : Nat := T.isthmusref02_Reader
theorem z32 : (u8s zero32).length = 32 := by simp [u8s, zero32]
end
end Go.Proofs.YtbbmgkbinnomgaaGreatDoor
set_option linter.unusedVariables false
set_option linter.unusedSimpArgs false
set_option linter.unusedSectionVars false
namespace Go.Proofs.YtbbmgkbinnomgaaGreatDoor
open Go Go.Isk Go.RowKit
section
variable {b : Base} {w : World} {L R : List It} {g : Nat} {s : Rdr} {v : Value} {l : Bytes} {cs ds : List Value}
end
end Go.Proofs.YtbbmgkbinnomgaaGreatDoor
set_option linter.unusedVariables false
set_option linter.unusedSimpArgs false
set_option linter.unusedSectionVars false
namespace Go.Isk
open Go Go.RowKit
section
variable {P : Program} {b : Base} {w : World} {L R : List It} {k : Value → World → Prop} {v f sv : Value} {n sz : Nat} {α : Type} {F : Fam α} {ls : List α} {p : α → Bool}
def idxOf (p : α → Bool) (ls : List α) : Int := match ls.findIdx? p with
  | some i => i
  | none => -1
theorem idxOf_at {i : Nat} (hi : i < ls.length) (h : ∀ j (h : j < i), p (ls[j]'(by omega)) = false) (hp : p ls[i] = true) : idxOf p ls = i := by
  unfold idxOf
  have : ls.findIdx? p = some i := by
    rw [List.findIdx?_eq_some_iff_getElem]
    exact ⟨hi, hp, fun j hj => by simp [h j hj]⟩
  rw [this]
theorem idxOf_no (h : ∀ j (h : j < ls.length), p ls[j] = false) : idxOf p ls = -1 := by
  unfold idxOf
  have : ls.findIdx? p = none := by
    rw [List.findIdx?_eq_none_iff]
    intro x hx
    obtain ⟨j, hj, rfl⟩ := List.mem_iff_getElem.1 hx
    simp [h j hj]
  rw [this]
theorem idxOf_any : decide (0 ≤ idxOf p ls) = ls.any p := by
  by_cases h : ∃ x ∈ ls, p x = true
  · rw [List.any_eq_true.2 h]
    unfold idxOf
    cases hx : ls.findIdx? p with
    | some i => simp
    | none =>
      rw [List.findIdx?_eq_none_iff] at hx
      obtain ⟨x, h1, h2⟩ := h
      have := hx x h1
      simp_all
  · have : ls.any p = false := by
      rw [Bool.eq_false_iff]
      intro hc
      exact h (List.any_eq_true.1 hc)
    rw [this]
    have : ls.findIdx? p = none := by
      rw [List.findIdx?_eq_none_iff]
      intro x hx
      simp only [Bool.not_eq_true', Bool.eq_false_iff]
      intro hc
      exact h ⟨x, hx, hc⟩
    unfold idxOf
    rw [this]
    decide
/-- slices.IndexFunc, by its body -/
theorem len_run {TS E : Nat} {A : Option Addr} {n c : Nat} {w : World} {t : TypeId} (h : P.underlying TS = some (.slice E)) : (Builtin.len_ #[TS] t #[.slice A n c]).run P w = .ok (.int .i64 n) w := by
  simp [Builtin.len_, run_underlying h, goInt]
def lssT (P : Program) (TI : Nat) : Prop := ∀ (x y : Operand) (a c : Int) (w : World), (bin .lss TI x y (.int .i64 a) (.int .i64 c)).run P w = .ok (.bool (decide (a < c))) w
def addT (P : Program) (TI : Nat) : Prop := ∀ (x y : Operand) (a c : Int) (w : World), (bin .add TI x y (.int .i64 a) (.int .i64 c)).run P w = .ok (.int .i64 (IntKind.i64.wrap (a + c))) w
def IdxBody (P : Program) (TI TS TE : Nat) (k : Value → World → Prop) (a0 a1 : Value) (w : World) : Prop :=
  mv (.int .i64 0) fun t4 =>
  mv a0 fun t6 =>
  o1 P (Builtin.len_ #[TS] TI #[t6]) w fun t7 w =>
  mv (.int .i64 0) fun t8 =>
  lp [t4, undef, t8] w fun I1 μ1 => ∀ (x1 : Env) (w1 : World), I1 [x1 4, x1 5, x1 8] w1 →
  o1 P (bin .lss TI (.tmp 8) (.tmp 7) (x1 8) t7) w1 fun t9 w =>
  br t9 (fun _ =>
  mv (x1 8) fun t10 =>
  mv t10 fun t5 =>
  mv a1 fun t11 =>
  mv a0 fun t12 =>
  mv t5 fun t13 =>
  o1 P (Instr.indexAt TS t12 t13) w fun t14 w =>
  o1 P (Instr.loadAt TE t14) w fun t15 w =>
  cv P t11 #[t15] w fun t16 w =>
  br t16 (fun _ =>
  mv t5 fun t17 =>
  mv t17 fun t4_1 =>
  k t4_1 w) (fun _ =>
  o1 P (bin .add TI (.tmp 8) (.const (.int .i64 1)) (x1 8) (.int .i64 1)) w fun t18 w =>
  mv t18 fun t8_1 =>
  I1 [(x1 4), t5, t8_1] w ∧ μ1 [(x1 4), t5, t8_1] w < μ1 [x1 4, x1 5, x1 8] w1)) (fun _ =>
  mv (.int .i64 (-1)) fun t4_2 =>
  k t4_2 w)
theorem idx_body {TI TS TE by_ : Nat} (hlt : lssT P TI) (had : addT P TI) (hTS : P.underlying TS = some (.slice TE)) (hs : Sep b w L) (hl : Lst F sz L sv ls) (hn : ls.length ≤ 4611686018427387904)
    (hld : ∀ (w : World) (i : Nat) (hi : i < ls.length) (K : Value → World → Prop), Sep b w L → (∀ x w, Sep b w L → (∀ K, (∀ w, Sep b w L → K (.bool (p ls[i])) w) → cv P f #[x] w K) → K x w) → o1 P (Instr.indexAt TS sv (.int .i64 i)) w fun a w => o1 P (Instr.loadAt TE a) w K)
    (hk : ∀ w, Sep b w L → k (.int .i64 (idxOf p ls)) w) : IdxBody P TI TS TE k sv f w := by
  unfold IdxBody
  obtain ⟨A, c, rfl⟩ := hs.lst_len hl
  repeat with_reducible refine mv.mk ?_
  refine st_of (len_run hTS) ?_
  repeat with_reducible refine mv.mk ?_
  refine lp_by (fun vs w' => ∃ (i : Nat) (x y : Value), vs = [x, y, .int .i64 i] ∧ i ≤ ls.length ∧ (∀ j (h : j < i) (h2 : j < ls.length), p ls[j] = false) ∧ Sep b w' L) (fun vs _ => match vs with | [_, _, .int _ m] => ls.length - m.toNat | _ => 0) ⟨0, _, _, rfl, Nat.zero_le _, fun j h => by omega, hs⟩ ?_
  rintro x w ⟨i, y, z, hx, hi, hno, hs⟩
  simp only [List.cons.injEq, and_true] at hx
  rw [hx.2.2]
  refine st_of (hlt _ _ _ _ _) ?_
  refine br_split (fun hb => ?_) (fun hb => ?_)
  · have hi' : i < ls.length := by have := of_decide_eq_true hb; omega
    repeat with_reducible refine mv.mk ?_
    refine hld w i hi' _ hs fun x w hs hcv => ?_
    refine hcv _ fun w hs => ?_
    refine br_split (fun hp => ?_) (fun hp => ?_)
    · repeat with_reducible refine mv.mk ?_
      have := hk w hs
      rw [idxOf_at hi' (fun j hj => hno j hj (by omega)) hp] at this
      exact this
    · refine st_of (had _ _ _ _ _) ?_
      rw [i64_succ (by omega)]
      refine mv.mk ⟨⟨i + 1, _, _, rfl, hi', fun j hj h2 => ?_, hs⟩, by simp; omega⟩
      rcases Nat.lt_or_ge j i with h | h
      · exact hno j h h2
      · have : j = i := by omega
        subst this; exact hp
  · have hi' : ¬ i < ls.length := by have := of_decide_eq_false hb; omega
    repeat with_reducible refine mv.mk ?_
    have := hk w hs
    rw [idxOf_no fun j hj => hno j (by omega) hj] at this
    exact this
theorem idx_one {TI TS TE by_ : Nat} (hlt : lssT P TI) (had : addT P TI) (hT : slT P TS TE 1 by_ = true) (ht : oneT P TE = true) (hs : Sep b w L) (hl : Lst F 1 L sv ls) (hn : ls.length ≤ 4611686018427387904)
    (hp : ∀ (w : World) (i : Nat) (hi : i < ls.length) (x : Value) (K : Value → World → Prop), Sep b w ((F [x] ls[i]).it :: L) → (∀ w, Sep b w L → K (.bool (p ls[i])) w) → cv P f #[x] w K)
    (hk : ∀ w, Sep b w L → k (.int .i64 (idxOf p ls)) w) : IdxBody P TI TS TE k sv f w :=
  idx_body (by_ := by_) hlt had (slT.spec hT).1 hs hl hn (fun w i hi K hs hK => sp_el1 hs hl hT ht i rfl hi fun x hs' => hK _ _ hs fun K hK => hp w i hi x K hs' hK) hk
end
end Go.Isk
set_option linter.unusedVariables false
set_option linter.unusedSimpArgs false
set_option linter.unusedSectionVars false
namespace Go.Isk
open Go Go.RowKit
section
variable {P : Program}
/-- the kinds of a flat type's cells: none: a text -/
def kindsOf (P : Program) : Nat → Nat → Option (List (Option IntKind))
  | 0, _ => none
  | d + 1, t => match P.underlying t with
    | some (.int q) => some [some q]
    | some .string => some [none]
    | some (.array n e) => match kindsOf P d e with
      | some ks => bif Nat.beq ks.length (P.cellsOf e) && Nat.beq (n * ks.length) (P.cellsOf t) then some (List.replicate n ks).flatten else none
      | none => none
    | some (.struct fs) => match fs.toList.foldr (fun f r => match kindsOf P d f.type, r with
        | some ks, some (off, rs) => bif Nat.beq ks.length (P.cellsOf f.type) && Nat.beq (f.offset + ks.length) off && f.name != "_" then some (f.offset, ks ++ rs) else none
        | _, _ => none) (some (P.cellsOf t, [])) with
      | some (0, rs) => some rs
      | _ => none
    | _ => none
def fitK : Option IntKind → Value → Prop
  | some q, .int q' n => q' = q ∧ (Lit.int q n).wf = true
  | none, .string s => s.size ≤ maxLen
  | _, _ => False
def litOf : Value → Lit
  | .int q n => .int q n
  | .string s => .string s.data.toList
  | _ => .bool false
def fits : List (Option IntKind) → List Value → Prop
  | [], [] => True
  | k :: ks, v :: vs => fitK k v ∧ fits ks vs
  | _, _ => False
theorem fits.len : ∀ {ks : List (Option IntKind)} {cs : List Value}, fits ks cs → cs.length = ks.length
  | [], [], _ => rfl
  | k :: ks, v :: vs, h => by simp [fits.len h.2]
  | [], _ :: _, h => h.elim
  | _ :: _, [], h => h.elim
theorem fits.app : ∀ {ks rs : List (Option IntKind)} {cs ds : List Value}, fits ks cs → fits rs ds → fits (ks ++ rs) (cs ++ ds)
  | [], _, [], _, _, h => h
  | k :: ks, _, v :: vs, _, h, h' => ⟨h.1, fits.app h.2 h'⟩
  | [], _, _ :: _, _, h, _ => h.elim
  | _ :: _, _, [], _, h, _ => h.elim
theorem fits.split : ∀ {ks rs : List (Option IntKind)} {cs : List Value}, fits (ks ++ rs) cs → fits ks (cs.take ks.length) ∧ fits rs (cs.drop ks.length)
  | [], _, cs, h => by simpa [fits] using h
  | k :: ks, rs, v :: vs, h => by
    have := fits.split (ks := ks) (rs := rs) (cs := vs) h.2
    simp only [List.length_cons, List.take_succ_cons, List.drop_succ_cons]
    exact ⟨⟨h.1, this.1⟩, this.2⟩
  | _ :: _, _, [], h => h.elim
theorem litOf_inj : ∀ {ks : List (Option IntKind)} {cs ds : List Value}, fits ks cs → fits ks ds → cs.map litOf = ds.map litOf → cs = ds
  | [], [], [], _, _, _ => rfl
  | k :: ks, v :: vs, u :: us, h, h', e => by
    simp only [List.map_cons, List.cons.injEq] at e
    rw [litOf_inj h.2 h'.2 e.2]
    congr 1
    have h1 := h.1
    have h2 := h'.1
    have e := e.1
    cases k with
    | none =>
      cases v <;> simp only [fitK] at h1
      cases u <;> simp only [fitK] at h2
      rename_i a c
      simp only [litOf, Lit.string.injEq] at e
      exact congrArg _ (ByteArray.ext (Array.toList_inj.1 e))
    | some q =>
      cases v <;> simp only [fitK] at h1
      cases u <;> simp only [fitK] at h2
      simp only [litOf, Lit.int.injEq] at e
      rw [e.1, e.2]
  | [], _ :: _, _, h, _, _ => h.elim
  | [], [], _ :: _, _, h, _ => h.elim
  | _ :: _, [], _, h, _, _ => h.elim
  | _ :: _, _ :: _, [], _, h, _ => h.elim
theorem keyLits_of : ∀ {d t : Nat} {ks : List (Option IntKind)} {cs : List Value}, kindsOf P d t = some ks → fits ks cs → P.keyLits d t cs = some (cs.map litOf)
  | 0, _, _, _, h, _ => by cases h
  | d + 1, t, ks, cs, h, hf => by
    unfold kindsOf at h
    unfold Program.keyLits
    split at h
    · rename_i q hu
      cases h
      match cs, hf with
      | [.int q' n], ⟨hk, _⟩ =>
        simp only [fitK] at hk
        obtain ⟨rfl, hw⟩ := hk
        simp [hu, hw, litOf]
    · rename_i hu
      cases h
      match cs, hf with
      | [.string s], ⟨hk, _⟩ =>
        simp only [fitK] at hk
        simp [hu, hk, litOf]
    · rename_i n e hu
      split at h
      · rename_i ks' hk'
        cases hb : (Nat.beq ks'.length (P.cellsOf e) && Nat.beq (n * ks'.length) (P.cellsOf t)) with
        | false => rw [hb] at h; cases h
        | true =>
          rw [hb] at h
          simp only [cond_true, Option.some.injEq] at h
          subst h
          simp only [Bool.and_eq_true] at hb
          have h1 := Nat.eq_of_beq_eq_true hb.1
          have h2 := Nat.eq_of_beq_eq_true hb.2
          have hl : cs.length = P.cellsOf t := by rw [hf.len, ← h2]; simp
          rw [hu]
          simp only []
          rw [if_pos hl, ← h1]
          have key : ∀ (m : Nat) (cs : List Value), fits (List.replicate m ks').flatten cs → ((List.range m).mapM fun i => P.keyLits d e ((cs.drop (i * ks'.length)).take ks'.length)).map List.flatten = some (cs.map litOf) := by
            intro m
            induction m with
            | zero =>
              intro cs hf
              have : cs = [] := by have := hf.len; simpa using this
              subst this
              simp
            | succ m ih =>
              intro cs hf
              rw [List.replicate_succ, List.flatten_cons] at hf
              obtain ⟨f1, f2⟩ := hf.split
              have e1 := keyLits_of hk' f1
              have e2 := ih _ f2
              rw [List.range_succ_eq_map, List.mapM_cons]
              simp only [Nat.zero_mul, List.drop_zero, e1]
              simp only [List.drop_drop] at e2
              simp only [List.mapM_map]
              have e3 : (fun i => P.keyLits d e ((cs.drop ((i + 1) * ks'.length)).take ks'.length)) = fun i => P.keyLits d e ((cs.drop (ks'.length + i * ks'.length)).take ks'.length) := by
                funext i; rw [show (i + 1) * ks'.length = ks'.length + i * ks'.length by rw [Nat.add_mul]; omega]
              simp only [Function.comp_def, Nat.succ_eq_add_one]
              rw [e3]
              cases hq : (List.range m).mapM fun i => P.keyLits d e ((cs.drop (ks'.length + i * ks'.length)).take ks'.length) with
              | none => rw [hq] at e2; cases e2
              | some qs =>
                rw [hq] at e2
                simp only [Option.map_some, Option.some.injEq] at e2
                simp only [bind, Option.bind_some, pure, Option.map_some, List.flatten_cons, e2]
                rw [← List.map_append, List.take_append_drop]
          exact key n cs hf
      · cases h
    · rename_i fs hu
      split at h
      · rename_i rs hr
        cases h
        rw [hu]
        have key : ∀ (l : List Field) (off : Nat) (ks : List (Option IntKind)) (tail : Nat), l.foldr (fun f r => match kindsOf P d f.type, r with
            | some ks, some (off, rs) => bif Nat.beq ks.length (P.cellsOf f.type) && Nat.beq (f.offset + ks.length) off && f.name != "_" then some (f.offset, ks ++ rs) else none
            | _, _ => none) (some (tail, [])) = some (off, ks) → off + ks.length = tail ∧ l.all (·.name != "_") = true ∧ ∀ cs : List Value, fits ks (cs.drop off) → (l.mapM fun f => P.keyLits d f.type ((cs.drop f.offset).take (P.cellsOf f.type))).map List.flatten = some ((cs.drop off).map litOf) := by
          intro l
          induction l with
          | nil =>
            intro off ks tail h
            simp only [List.foldr_nil, Option.some.injEq, Prod.mk.injEq] at h
            obtain ⟨rfl, rfl⟩ := h
            refine ⟨rfl, rfl, fun cs hf => ?_⟩
            have : cs.drop tail = [] := by have := hf.len; exact List.eq_nil_of_length_eq_zero this
            rw [this]; simp
          | cons f l ih =>
            intro off ks tail h
            rw [List.foldr_cons] at h
            split at h
            · rename_i k1 off2 rs2 hk1 hr2
              obtain ⟨q1, q2, q3⟩ := ih _ _ _ hr2
              cases hb : (Nat.beq k1.length (P.cellsOf f.type) && Nat.beq (f.offset + k1.length) off2 && f.name != "_") with
              | false => rw [hb] at h; cases h
              | true =>
                rw [hb] at h
                simp only [cond_true, Option.some.injEq, Prod.mk.injEq] at h
                obtain ⟨rfl, rfl⟩ := h
                simp only [Bool.and_eq_true] at hb
                have h1 := Nat.eq_of_beq_eq_true hb.1.1
                have h2 := Nat.eq_of_beq_eq_true hb.1.2
                refine ⟨by rw [List.length_append]; omega, by simp [hb.2, q2], fun cs hf => ?_⟩
                obtain ⟨f1, f2⟩ := hf.split
                rw [List.drop_drop, h2] at f2
                have e1 := keyLits_of hk1 f1
                have e2 := q3 cs f2
                rw [List.mapM_cons, ← h1, e1]
                cases hq : (l.mapM fun f => P.keyLits d f.type ((cs.drop f.offset).take (P.cellsOf f.type))) with
                | none => rw [hq] at e2; cases e2
                | some qs =>
                  rw [hq] at e2
                  simp only [Option.map_some, Option.some.injEq] at e2
                  simp only [bind, Option.bind_some, pure, Option.map_some, List.flatten_cons, e2]
                  rw [← h2, ← List.drop_drop, ← List.map_append, List.take_append_drop]
            · cases h
        obtain ⟨q1, q2, q3⟩ := key _ _ _ _ hr
        have hl : cs.length = P.cellsOf t := by rw [hf.len]; omega
        simp only []
        rw [if_pos ⟨hl, by rw [← q2, Array.all_toList]⟩]
        have := q3 cs (by simpa using hf)
        simpa using this
      · cases h
    · cases h
/-- '==' of two things of a flat type -/
def eqT (P : Program) (t : Nat) : Bool := P.keyTypeAt 6 t && (!P.eqGuardType P.depth t) && (match P.underlying t with | some (.struct _) | some (.array _ _) => true | _ => false)
theorem eql_agg {t : Nat} {ks : List (Option IntKind)} {xs ys : List Value} (ht : eqT P t = true) (hk : kindsOf P 6 t = some ks) (hn : P.cellsOf t = ks.length) (hx : fits ks xs) (hy : fits ks ys) :
    ∃ r : Bool, (r = true ↔ xs = ys) ∧ (∀ (x y : Operand) (w : World), (bin .eql t x y (.agg xs.toArray) (.agg ys.toArray)).run P w = .ok (.bool r) w) ∧ ∀ (x y : Operand) (w : World), (bin .neq t x y (.agg xs.toArray) (.agg ys.toArray)).run P w = .ok (.bool (!r)) w := by
  unfold eqT at ht
  simp only [Bool.and_eq_true, Bool.not_eq_true'] at ht
  obtain ⟨⟨h1, h2⟩, h3⟩ := ht
  have fx : ∀ {zs : List Value}, fits ks zs → (Value.agg zs.toArray).formed P t = true := fun {zs} hz => by
    have := hz.len
    split at h3 <;> rename_i hu
    · simp [Value.formed, hu, hn, this]
    · simp [Value.formed, hu, hn, this]
    · cases h3
  have kx : ∀ {zs : List Value}, fits ks zs → P.keyLits 6 t (Value.agg zs.toArray).cells.toList = some (zs.map litOf) := fun hz => by simpa [Value.cells] using keyLits_of hk hz
  have hb : ∀ w : World, ∃ r : Bool, (Op.equalIn 10000 t (.agg xs.toArray) (.agg ys.toArray)).run P w = .ok r w ∧ (r = true ↔ xs = ys) := fun w => by
    obtain ⟨r, hr, hi⟩ := run_equalIn_deep (P := P) 9994 6 t h1 w 6 6 _ _ _ _ (fx hx) (fx hy) (kx hx) (kx hy)
    exact ⟨r, hr, by rw [hi]; exact ⟨fun e => litOf_inj hx hy e, fun e => by rw [e]⟩⟩
  by_cases he : xs = ys
  · refine ⟨true, by simp [he], fun x y w => ?_, fun x y w => ?_⟩
    all_goals
      obtain ⟨r, hr, hi⟩ := hb w
      rw [hi.2 he] at hr
      rw [bin_run (run_eqGuard_agg w _ t x y _ _ h2)]
      simp [run_eql_struct, run_neq_struct, hr]
  · refine ⟨false, by simp [he], fun x y w => ?_, fun x y w => ?_⟩
    all_goals
      obtain ⟨r, hr, hi⟩ := hb w
      have hrf : r = false := by cases r; rfl; exact absurd (hi.1 rfl) he
      rw [hrf] at hr
      rw [bin_run (run_eqGuard_agg w _ t x y _ _ h2)]
      simp [run_eql_struct, run_neq_struct, hr]
theorem u8s_fits : ∀ (l : List UInt8), fits (List.replicate l.length (some .u8)) (u8s l)
  | [] => trivial
  | c :: r => ⟨⟨rfl, by have := c.toNat_lt; simp [Lit.wf, IntKind.min, IntKind.max, IntKind.signed, IntKind.bits]; omega⟩, u8s_fits r⟩
theorem u8s_inj {a c : List UInt8} : u8s a = u8s c ↔ a = c := by
  constructor
  · intro h
    unfold u8s at h
    refine List.map_inj_right (f := fun c : UInt8 => Value.int .u8 c.toNat) (fun x y e => ?_) |>.1 h
    simp only [Value.int.injEq, true_and] at e
    exact UInt8.toNat_inj.1 (by omega)
  · rintro rfl; rfl
end
end Go.Isk
set_option linter.unusedVariables false
set_option linter.unusedSimpArgs false
set_option linter.unusedSectionVars false
namespace Go.Proofs.YtbbmgkbinnomgaaGreatDoor
open Go Go.Isk Go.RowKit
section
variable {w : World} {k : Value → World → Prop} {a c : Bytes}
theorem hash_ne (ha : a.length = 32) (hc : c.length = 32) (x y : Operand) (w : World) : (bin .neq T.api_Hash x y (.agg (u8s a).toArray) (.agg (u8s c).toArray)).run Tryz.prog w = .ok (.bool (!decide (a = c))) w := by
  obtain ⟨r, h1, h2, h3⟩ := eql_agg (P := Tryz.prog) (t := T.api_Hash) (ks := List.replicate 32 (some .u8)) (xs := u8s a) (ys := u8s c) (by kernel_rfl) (by kernel_rfl) (by kernel_rfl) (ha ▸ u8s_fits a) (hc ▸ u8s_fits c)
  rw [h3, show r = decide (a = c) by rw [Bool.eq_iff_iff, h1, u8s_inj]; simp]
end
end Go.Proofs.YtbbmgkbinnomgaaGreatDoor
set_option linter.unusedVariables false
set_option linter.unusedSimpArgs false
set_option linter.unusedSectionVars false
namespace Go.Proofs.YtbbmgkbinnomgaaGreatDoor
open Go Go.Isk Go.RowKit
set_option maxRecDepth 20000
section
variable {b : Base} {w : World} {L R : List It} {g : Nat} {v sv : Value} {s l : Bytes} {cs ds : List Value} {k : Value → World → Prop}
/-- is a text a name? -/
def badC (c : UInt8) : Bool := decide (c.toNat < 33) || decide (126 < c.toNat)
def namedB (s : Bytes) : Bool := decide (1 ≤ s.length) && (decide (s.length ≤ 64) && !s.any badC)
/-- the power of all -/
def total (l : List Validator) : Int := l.foldl (fun n v => IntKind.i64.wrap (n + v.power)) 0
/-- what power is left behind the first i validators; none: they are no set -/
def setLeft (l : List Validator) : Nat → Option Int
  | 0 => some 1099511627776
  | i + 1 => (setLeft l i).bind fun left => match l[i]? with
    | none => none
    | some v => if namedB v.name = false ∨ (l.take i).any (fun x => decide (x.name = v.name)) = true ∨ v.power < 1 ∨ left < v.power then none else some (left - v.power)
def checkSet (l : List Validator) : Int := if l.length = 0 ∨ 32 < l.length then 30 else if (setLeft l l.length).isSome then 0 else 30
/-- has a vote a validator of the set l that is o? -/
def signedBy (l : List Validator) (o : Validator) (v : Vote) : Bool := decide (0 ≤ v.validator) && (decide (v.validator < l.length) && match l[v.validator.toNat]? with
  | some x => decide (x.name = o.name) && decide (x.key = o.key)
  | none => false)
/-- the power of those of an older set that signed -/
def trustPower (old l : List Validator) (c : Commit) : Int := old.foldl (fun n o => if c.votes.any (signedBy l o) then IntKind.i64.wrap (n + o.power) else n) 0
def verifyTrust (old l : List Validator) (c : Commit) : Int := if IntKind.i64.wrap (3 * trustPower old l c) ≤ total old then 32 else 0
end
end Go.Proofs.YtbbmgkbinnomgaaGreatDoor
set_option linter.unusedVariables false
set_option linter.unusedSimpArgs false
set_option linter.unusedSectionVars false
namespace Go.Proofs.YtbbmgkbinnomgaaGreatDoor
open Go Go.Isk Go.RowKit
/-- r is a new row of just these bytes; what was there stays -/
def NewO (w : World) (r : Value) (w' : World) (l : Bytes) : Prop := w'.ownsRow w.heap.size T.uint8 1 r l.length (u8s l) ∧ Ext w w'
theorem NewO.b {w w' : World} {r : Value} {l : Bytes} (h : NewO w r w' l) : NewB w r w' l := ⟨.of_own h.1, h.2, fun _ hk => own_ge h.1 hk⟩
theorem NewO.after {w w1 w2 : World} {r : Value} {l : Bytes} (hu : Ext w w1) (h : NewO w1 r w2 l) : NewO w r w2 l := ⟨own_base h.1 fun k hk => Nat.le_trans hu.size (own_ge h.1 hk), hu.after h.2⟩
end Go.Proofs.YtbbmgkbinnomgaaGreatDoor
set_option linter.unusedVariables false
set_option linter.unusedSimpArgs false
set_option linter.unusedSectionVars false
namespace Go.Proofs.YtbbmgkbinnomgaaGreatDoor
open Go Go.Isk Go.RowKit
theorem NewB.then {w0 w w' : World} {r r' : Value} {l l' : Bytes} (h : NewB w0 r w l) (h' : NewB w r' w' l') : NewB w0 r' w' l' := NewB.after h.2.1 h'
theorem NewB.drew {w0 w : World} {r : Value} {l : Bytes} (h : NewB w0 r w l) : NewB w0 r w.drew l := ⟨h.1.ext upd_drew, h.2.1.drew, h.2.2⟩
end Go.Proofs.YtbbmgkbinnomgaaGreatDoor
set_option linter.unusedVariables false
set_option linter.unusedSimpArgs false
set_option linter.unusedSectionVars false
namespace Go.Proofs.YtbbmgkbinnomgaaGreatDoor
open Go Go.Isk Go.RowKit
section
variable {b : Base} {w : World} {L R : List It} {g : Nat} {v sv : Value} {s l : Bytes} {cs ds : List Value} {k : Value → World → Prop}
def vA : Validator := ⟨[97], zero32, 3⟩
def vB : Validator := ⟨[98], zero32, 1⟩
def voteN (n : Int) : Vote := ⟨0, 0, 0, zero32, n, []⟩
end
end Go.Proofs.YtbbmgkbinnomgaaGreatDoor
