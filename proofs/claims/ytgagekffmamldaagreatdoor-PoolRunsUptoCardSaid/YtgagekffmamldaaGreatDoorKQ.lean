/- '==' of flat arrays and structs: the cells decide. -/
import Derived.Test.YtgagekffmamldaaGreatDoorKT
import Derived.DeepKeys
set_option linter.unusedVariables false
set_option linter.unusedSimpArgs false
set_option linter.unusedSectionVars false
namespace Go.Isk
open Go Go.RowKit
section
variable {P : Program}
/-- the kinds of a flat type's cells: none: a text -/
def kindsOf (P : Program) : Nat → Nat → Option (List (Option IntKind))
  | 0, _ => none
  | d + 1, t => match P.underlying t with
    | some (.int q) => some [some q]
    | some .string => some [none]
    | some (.array n e) => match kindsOf P d e with
      | some ks => bif Nat.beq ks.length (P.cellsOf e) && Nat.beq (n * ks.length) (P.cellsOf t) then some (List.replicate n ks).flatten else none
      | none => none
    | some (.struct fs) => match fs.toList.foldr (fun f r => match kindsOf P d f.type, r with
        | some ks, some (off, rs) => bif Nat.beq ks.length (P.cellsOf f.type) && Nat.beq (f.offset + ks.length) off && f.name != "_" then some (f.offset, ks ++ rs) else none
        | _, _ => none) (some (P.cellsOf t, [])) with
      | some (0, rs) => some rs
      | _ => none
    | _ => none
def fitK : Option IntKind → Value → Prop
  | some q, .int q' n => q' = q ∧ (Lit.int q n).wf = true
  | none, .string s => s.size ≤ maxLen
  | _, _ => False
def litOf : Value → Lit
  | .int q n => .int q n
  | .string s => .string s.data.toList
  | _ => .bool false
def fits : List (Option IntKind) → List Value → Prop
  | [], [] => True
  | k :: ks, v :: vs => fitK k v ∧ fits ks vs
  | _, _ => False
theorem fits.len : ∀ {ks : List (Option IntKind)} {cs : List Value}, fits ks cs → cs.length = ks.length
  | [], [], _ => rfl
  | k :: ks, v :: vs, h => by simp [fits.len h.2]
  | [], _ :: _, h => h.elim
  | _ :: _, [], h => h.elim
theorem fits.app : ∀ {ks rs : List (Option IntKind)} {cs ds : List Value}, fits ks cs → fits rs ds → fits (ks ++ rs) (cs ++ ds)
  | [], _, [], _, _, h => h
  | k :: ks, _, v :: vs, _, h, h' => ⟨h.1, fits.app h.2 h'⟩
  | [], _, _ :: _, _, h, _ => h.elim
  | _ :: _, _, [], _, h, _ => h.elim
theorem fits.split : ∀ {ks rs : List (Option IntKind)} {cs : List Value}, fits (ks ++ rs) cs → fits ks (cs.take ks.length) ∧ fits rs (cs.drop ks.length)
  | [], _, cs, h => by simpa [fits] using h
  | k :: ks, rs, v :: vs, h => by
    have := fits.split (ks := ks) (rs := rs) (cs := vs) h.2
    simp only [List.length_cons, List.take_succ_cons, List.drop_succ_cons]
    exact ⟨⟨h.1, this.1⟩, this.2⟩
  | _ :: _, _, [], h => h.elim
theorem litOf_inj : ∀ {ks : List (Option IntKind)} {cs ds : List Value}, fits ks cs → fits ks ds → cs.map litOf = ds.map litOf → cs = ds
  | [], [], [], _, _, _ => rfl
  | k :: ks, v :: vs, u :: us, h, h', e => by
    simp only [List.map_cons, List.cons.injEq] at e
    rw [litOf_inj h.2 h'.2 e.2]
    congr 1
    have h1 := h.1
    have h2 := h'.1
    have e := e.1
    cases k with
    | none =>
      cases v <;> simp only [fitK] at h1
      cases u <;> simp only [fitK] at h2
      rename_i a c
      simp only [litOf, Lit.string.injEq] at e
      exact congrArg _ (ByteArray.ext (Array.toList_inj.1 e))
    | some q =>
      cases v <;> simp only [fitK] at h1
      cases u <;> simp only [fitK] at h2
      simp only [litOf, Lit.int.injEq] at e
      rw [e.1, e.2]
  | [], _ :: _, _, h, _, _ => h.elim
  | [], [], _ :: _, _, h, _ => h.elim
  | _ :: _, [], _, h, _, _ => h.elim
  | _ :: _, _ :: _, [], _, h, _ => h.elim
theorem keyLits_of : ∀ {d t : Nat} {ks : List (Option IntKind)} {cs : List Value}, kindsOf P d t = some ks → fits ks cs → P.keyLits d t cs = some (cs.map litOf)
  | 0, _, _, _, h, _ => by cases h
  | d + 1, t, ks, cs, h, hf => by
    unfold kindsOf at h
    unfold Program.keyLits
    split at h
    · rename_i q hu
      cases h
      match cs, hf with
      | [.int q' n], ⟨hk, _⟩ =>
        simp only [fitK] at hk
        obtain ⟨rfl, hw⟩ := hk
        simp [hu, hw, litOf]
    · rename_i hu
      cases h
      match cs, hf with
      | [.string s], ⟨hk, _⟩ =>
        simp only [fitK] at hk
        simp [hu, hk, litOf]
    · rename_i n e hu
      split at h
      · rename_i ks' hk'
        cases hb : (Nat.beq ks'.length (P.cellsOf e) && Nat.beq (n * ks'.length) (P.cellsOf t)) with
        | false => rw [hb] at h; cases h
        | true =>
          rw [hb] at h
          simp only [cond_true, Option.some.injEq] at h
          subst h
          simp only [Bool.and_eq_true] at hb
          have h1 := Nat.eq_of_beq_eq_true hb.1
          have h2 := Nat.eq_of_beq_eq_true hb.2
          have hl : cs.length = P.cellsOf t := by rw [hf.len, ← h2]; simp
          rw [hu]
          simp only []
          rw [if_pos hl, ← h1]
          have key : ∀ (m : Nat) (cs : List Value), fits (List.replicate m ks').flatten cs → ((List.range m).mapM fun i => P.keyLits d e ((cs.drop (i * ks'.length)).take ks'.length)).map List.flatten = some (cs.map litOf) := by
            intro m
            induction m with
            | zero =>
              intro cs hf
              have : cs = [] := by have := hf.len; simpa using this
              subst this
              simp
            | succ m ih =>
              intro cs hf
              rw [List.replicate_succ, List.flatten_cons] at hf
              obtain ⟨f1, f2⟩ := hf.split
              have e1 := keyLits_of hk' f1
              have e2 := ih _ f2
              rw [List.range_succ_eq_map, List.mapM_cons]
              simp only [Nat.zero_mul, List.drop_zero, e1]
              simp only [List.drop_drop] at e2
              simp only [List.mapM_map]
              have e3 : (fun i => P.keyLits d e ((cs.drop ((i + 1) * ks'.length)).take ks'.length)) = fun i => P.keyLits d e ((cs.drop (ks'.length + i * ks'.length)).take ks'.length) := by
                funext i; rw [show (i + 1) * ks'.length = ks'.length + i * ks'.length by rw [Nat.add_mul]; omega]
              simp only [Function.comp_def, Nat.succ_eq_add_one]
              rw [e3]
              cases hq : (List.range m).mapM fun i => P.keyLits d e ((cs.drop (ks'.length + i * ks'.length)).take ks'.length) with
              | none => rw [hq] at e2; cases e2
              | some qs =>
                rw [hq] at e2
                simp only [Option.map_some, Option.some.injEq] at e2
                simp only [bind, Option.bind_some, pure, Option.map_some, List.flatten_cons, e2]
                rw [← List.map_append, List.take_append_drop]
          exact key n cs hf
      · cases h
    · rename_i fs hu
      split at h
      · rename_i rs hr
        cases h
        rw [hu]
        have key : ∀ (l : List Field) (off : Nat) (ks : List (Option IntKind)) (tail : Nat), l.foldr (fun f r => match kindsOf P d f.type, r with
            | some ks, some (off, rs) => bif Nat.beq ks.length (P.cellsOf f.type) && Nat.beq (f.offset + ks.length) off && f.name != "_" then some (f.offset, ks ++ rs) else none
            | _, _ => none) (some (tail, [])) = some (off, ks) → off + ks.length = tail ∧ l.all (·.name != "_") = true ∧ ∀ cs : List Value, fits ks (cs.drop off) → (l.mapM fun f => P.keyLits d f.type ((cs.drop f.offset).take (P.cellsOf f.type))).map List.flatten = some ((cs.drop off).map litOf) := by
          intro l
          induction l with
          | nil =>
            intro off ks tail h
            simp only [List.foldr_nil, Option.some.injEq, Prod.mk.injEq] at h
            obtain ⟨rfl, rfl⟩ := h
            refine ⟨rfl, rfl, fun cs hf => ?_⟩
            have : cs.drop tail = [] := by have := hf.len; exact List.eq_nil_of_length_eq_zero this
            rw [this]; simp
          | cons f l ih =>
            intro off ks tail h
            rw [List.foldr_cons] at h
            split at h
            · rename_i k1 off2 rs2 hk1 hr2
              obtain ⟨q1, q2, q3⟩ := ih _ _ _ hr2
              cases hb : (Nat.beq k1.length (P.cellsOf f.type) && Nat.beq (f.offset + k1.length) off2 && f.name != "_") with
              | false => rw [hb] at h; cases h
              | true =>
                rw [hb] at h
                simp only [cond_true, Option.some.injEq, Prod.mk.injEq] at h
                obtain ⟨rfl, rfl⟩ := h
                simp only [Bool.and_eq_true] at hb
                have h1 := Nat.eq_of_beq_eq_true hb.1.1
                have h2 := Nat.eq_of_beq_eq_true hb.1.2
                refine ⟨by rw [List.length_append]; omega, by simp [hb.2, q2], fun cs hf => ?_⟩
                obtain ⟨f1, f2⟩ := hf.split
                rw [List.drop_drop, h2] at f2
                have e1 := keyLits_of hk1 f1
                have e2 := q3 cs f2
                rw [List.mapM_cons, ← h1, e1]
                cases hq : (l.mapM fun f => P.keyLits d f.type ((cs.drop f.offset).take (P.cellsOf f.type))) with
                | none => rw [hq] at e2; cases e2
                | some qs =>
                  rw [hq] at e2
                  simp only [Option.map_some, Option.some.injEq] at e2
                  simp only [bind, Option.bind_some, pure, Option.map_some, List.flatten_cons, e2]
                  rw [← h2, ← List.drop_drop, ← List.map_append, List.take_append_drop]
            · cases h
        obtain ⟨q1, q2, q3⟩ := key _ _ _ _ hr
        have hl : cs.length = P.cellsOf t := by rw [hf.len]; omega
        simp only []
        rw [if_pos ⟨hl, by rw [← q2, Array.all_toList]⟩]
        have := q3 cs (by simpa using hf)
        simpa using this
      · cases h
    · cases h
/-- '==' of two things of a flat type -/
def eqT (P : Program) (t : Nat) : Bool := P.keyTypeAt 6 t && (!P.eqGuardType P.depth t) && (match P.underlying t with | some (.struct _) | some (.array _ _) => true | _ => false)
theorem eql_agg {t : Nat} {ks : List (Option IntKind)} {xs ys : List Value} (ht : eqT P t = true) (hk : kindsOf P 6 t = some ks) (hn : P.cellsOf t = ks.length) (hx : fits ks xs) (hy : fits ks ys) :
    ∃ r : Bool, (r = true ↔ xs = ys) ∧ (∀ (x y : Operand) (w : World), (bin .eql t x y (.agg xs.toArray) (.agg ys.toArray)).run P w = .ok (.bool r) w) ∧ ∀ (x y : Operand) (w : World), (bin .neq t x y (.agg xs.toArray) (.agg ys.toArray)).run P w = .ok (.bool (!r)) w := by
  unfold eqT at ht
  simp only [Bool.and_eq_true, Bool.not_eq_true'] at ht
  obtain ⟨⟨h1, h2⟩, h3⟩ := ht
  have fx : ∀ {zs : List Value}, fits ks zs → (Value.agg zs.toArray).formed P t = true := fun {zs} hz => by
    have := hz.len
    split at h3 <;> rename_i hu
    · simp [Value.formed, hu, hn, this]
    · simp [Value.formed, hu, hn, this]
    · cases h3
  have kx : ∀ {zs : List Value}, fits ks zs → P.keyLits 6 t (Value.agg zs.toArray).cells.toList = some (zs.map litOf) := fun hz => by simpa [Value.cells] using keyLits_of hk hz
  have hb : ∀ w : World, ∃ r : Bool, (Op.equalIn 10000 t (.agg xs.toArray) (.agg ys.toArray)).run P w = .ok r w ∧ (r = true ↔ xs = ys) := fun w => by
    obtain ⟨r, hr, hi⟩ := run_equalIn_deep (P := P) 9994 6 t h1 w 6 6 _ _ _ _ (fx hx) (fx hy) (kx hx) (kx hy)
    exact ⟨r, hr, by rw [hi]; exact ⟨fun e => litOf_inj hx hy e, fun e => by rw [e]⟩⟩
  by_cases he : xs = ys
  · refine ⟨true, by simp [he], fun x y w => ?_, fun x y w => ?_⟩
    all_goals
      obtain ⟨r, hr, hi⟩ := hb w
      rw [hi.2 he] at hr
      rw [bin_run (run_eqGuard_agg w _ t x y _ _ h2)]
      simp [run_eql_struct, run_neq_struct, hr]
  · refine ⟨false, by simp [he], fun x y w => ?_, fun x y w => ?_⟩
    all_goals
      obtain ⟨r, hr, hi⟩ := hb w
      have hrf : r = false := by cases r; rfl; exact absurd (hi.1 rfl) he
      rw [hrf] at hr
      rw [bin_run (run_eqGuard_agg w _ t x y _ _ h2)]
      simp [run_eql_struct, run_neq_struct, hr]
theorem u8s_fits : ∀ (l : List UInt8), fits (List.replicate l.length (some .u8)) (u8s l)
  | [] => trivial
  | c :: r => ⟨⟨rfl, by have := c.toNat_lt; simp [Lit.wf, IntKind.min, IntKind.max, IntKind.signed, IntKind.bits]; omega⟩, u8s_fits r⟩
theorem u8s_inj {a c : List UInt8} : u8s a = u8s c ↔ a = c := by
  constructor
  · intro h
    unfold u8s at h
    refine List.map_inj_right (f := fun c : UInt8 => Value.int .u8 c.toNat) (fun x y e => ?_) |>.1 h
    simp only [Value.int.injEq, true_and] at e
    exact UInt8.toNat_inj.1 (by omega)
  · rintro rfl; rfl
end
end Go.Isk
