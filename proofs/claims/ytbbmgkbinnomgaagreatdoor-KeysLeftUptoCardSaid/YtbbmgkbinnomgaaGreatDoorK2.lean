/- 'den' suffices: regions, orders, loops, joins. -/
import Derived.Test.YtbbmgkbinnomgaaGreatDoorKZ
set_option linter.unusedVariables false
set_option linter.unusedSimpArgs false
set_option linter.unusedSectionVars false
namespace Go.Isk
open Go
section
variable {P : Program} {n : Nat}

def Off (M : List Nat) (E E' : Env) : Prop := ∀ i, memN i M = false → E' i = E i
theorem Off.refl (M : List Nat) (E : Env) : Off M E E := fun _ _ => rfl
theorem Off.trans {M : List Nat} {E E' E'' : Env} (h : Off M E E') (h' : Off M E' E'') : Off M E E'' := fun i hi => (h' i hi).trans (h i hi)
theorem memN_append (i : Nat) (l r : List Nat) : memN i (l ++ r) = (memN i l || memN i r) := by
  induction l with
  | nil => rfl
  | cons j l ih => simp only [List.cons_append, memN, ih]; cases Nat.beq i j <;> rfl
theorem Off.left {l r : List Nat} {E E' : Env} (h : Off l E E') : Off (l ++ r) E E' := fun i hi => h i (by rw [memN_append] at hi; cases hl : memN i l <;> simp_all)
theorem Off.right {l r : List Nat} {E E' : Env} (h : Off r E E') : Off (l ++ r) E E' := fun i hi => h i (by rw [memN_append] at hi; cases hl : memN i r <;> simp_all)
theorem Off.mix {M : List Nat} {E E' : Env} (h : Off M E E') : mix M E' E = E' := by
  funext i
  unfold Isk.mix
  cases hm : memN i M with
  | true => rfl
  | false => exact (h i hm).symm
theorem off_pt {M : List Nat} {E E' : Env} (h : Off M E E') (d : Option Nat) (hd : ∀ t, d = some t → memN t M = true) (v : Value) : Off M E (pt n E' d v) := by
  cases d with
  | none => exact h
  | some d =>
    intro i hi
    have hne : i ≠ d := fun e => by subst e; rw [hd _ rfl] at hi; cases hi
    have e : pt n E' (some d) v i = E' i := by
      show (bif Nat.blt d n then (fun i => bif Nat.beq i d then v else E' i) else E') i = E' i
      cases Nat.blt d n with
      | false => rfl
      | true => simp only [cond_true, beq_false hne, cond_false]
    rw [e]
    exact h i hi

def QQ (n : Nat) (M : List Nat) (E : Env) (K : Env → World → Prop) (X : Nat → Env → World → Prop) (R : Env → World → Prop) : Exit → Act → World → Prop
  | .normal, a, w => a.tmps.size = n ∧ a.defers = [] ∧ Off M E (Act.env a) ∧ K (Act.env a) w
  | .exit i, a, w => a.tmps.size = n ∧ a.defers = [] ∧ Off M E (Act.env a) ∧ X i (Act.env a) w
  | .ret, a, w => a.tmps.size = n ∧ a.defers = [] ∧ Off M E (Act.env a) ∧ R (Act.env a) w
  | _, _, _ => False

theorem wanted_gv {ops : Array Oper} {a : Act} (hn : a.tmps.size = n) (o : Oper) :
    Region.wanted o (yielded ops a.tmps) = match o.guard with
      | none => true
      | some (j, b) => match gv n ops (Act.env a) j with
        | .bool c => c == b
        | _ => false := by
  unfold Region.wanted
  cases hg : o.guard with
  | none => rfl
  | some g =>
    obtain ⟨j, b⟩ := g
    simp only [yielded, gv]
    cases hd : (ops[j]?).bind (·.dst) with
    | none => simp [undef]
    | some d =>
      simp only [Option.bind_some]
      by_cases hlt : d < n
      · rw [blt_true hlt]
        have he : a.tmps[d]? = some (Act.env a d) := by simp [Act.env, Array.getD, hn, hlt]
        rw [he]
        simp only [cond_true]
        cases Act.env a d <;> simp
      · rw [blt_false hlt]
        have he : a.tmps[d]? = none := Array.getElem?_eq_none (by rw [hn]; exact Nat.not_lt.1 hlt)
        rw [he]
        simp [undef]

theorem gd_true {g : Value} {b : Bool} {A : (Value → World → Prop) → Prop} {w : World} {k : Value → World → Prop} (hw : (match g with | .bool c => c == b | _ => false) = true) (h : gd g b A w k) : A k := by
  have h := h.out
  split at h
  · simp only at hw; rw [hw] at h; exact h
  · rename_i hx; split at hw <;> simp_all
theorem gd_false {g : Value} {b : Bool} {A : (Value → World → Prop) → Prop} {w : World} {k : Value → World → Prop} (hw : (match g with | .bool c => c == b | _ => false) = false) (h : gd g b A w k) : k undef w := by
  have h := h.out
  split at h
  · simp only at hw; rw [hw] at h; exact h
  · exact h
theorem gdT_true {g : Value} {b : Bool} {A : (Value → Prop) → Prop} {k : Value → Prop} (hw : (match g with | .bool c => c == b | _ => false) = true) (h : gdT g b A k) : A k := by
  have h := h.out
  split at h
  · simp only at hw; rw [hw] at h; exact h
  · rename_i hx; split at hw <;> simp_all
theorem gdT_false {g : Value} {b : Bool} {A : (Value → Prop) → Prop} {k : Value → Prop} (hw : (match g with | .bool c => c == b | _ => false) = false) (h : gdT g b A k) : k undef := by
  have h := h.out
  split at h
  · simp only at hw; rw [hw] at h; exact h
  · exact h

theorem dOps_wp {ops : Array Oper} {M : List Nat} {E : Env} {K : Env → World → Prop} {X : Nat → Env → World → Prop} {R : Env → World → Prop} (l : List Oper) :
    ∀ (a : Act) (w : World), a.tmps.size = n → a.defers = [] → Off M E (Act.env a) → (∀ o ∈ l, ∀ t, o.dst = some t → memN t M = true) → dOps P n ops l (Act.env a) w K → wpList P ops (QQ n M E K X R) l a w := by
  induction l with
  | nil => intro a w hn hd ho _ h; exact ⟨hn, hd, ho, h⟩
  | cons o l ih =>
    intro a w hn hd ho hm h
    have next : ∀ v w', dOps P n ops l (pt n (Act.env a) o.dst v) w' K → wpList P ops (QQ n M E K X R) l (a.put o.dst v) w' := fun v w' h' => by
      rw [← put_env a hn] at h'
      refine ih _ _ (by rw [put_size]; exact hn) (by rw [put_defers]; exact hd) ?_ (fun o' ho' => hm o' (List.mem_cons_of_mem _ ho')) h'
      rw [put_env a hn]
      exact off_pt ho _ (hm o (List.mem_cons_self ..)) v
    unfold wpList
    rw [wanted_gv hn]
    unfold dOps at h
    split at h
    · rename_i hg
      rw [hg]
      simp only [if_true]
      exact .inl (opK_wp next (by rw [eval_eq]; exact h))
    · rename_i j b hg
      rw [hg]
      simp only
      split
      · rename_i hw; exact .inl (opK_wp next (by rw [eval_eq]; exact gd_true hw h))
      · rename_i hw; exact next _ _ (gd_false (by simpa using hw) h)

/-- z: what comes last among those that need S; T: what needs it not; late: is S left behind? -/
def chkM (ops : Array Oper) (b : Bool) (z : Nat) (T : List Nat) : Bool → Mv → Nat → Array Bool → Bool
  | late, .renew r, m, l => !late && chkM ops b z T false r m l
  | _, .fin, m, l => Nat.beq m 0 && (Region.ready .any ops l).isEmpty
  | late, .take i r, m, l => match m with
    | 0 => false
    | m + 1 => !late && ((!b || (!(Nat.beq i z) && !(memN i T))) && ((Region.ready .any ops l).contains i && Region.free .any ops l i && chkM ops b z T false r m (l.setIfInBounds i true)))
  | late, .pure i r, m, l => match m with
    | 0 => false
    | m + 1 => (!b || memN i T) && ((Region.ready .any ops l).contains i && Region.free .any ops l i && chkM ops b z T late r m (l.setIfInBounds i true))
  | late, .force i r, m, l => match m with
    | 0 => false
    | m + 1 => !late && ((Region.ready .any ops l == [i]) && chkM ops b z T false r m (l.setIfInBounds i true))
  | _, .last i, m, l => match m with
    | 0 => false
    | m + 1 => (Region.ready .any ops l == [i]) && Nat.beq m 0 && (Region.ready .any ops (l.setIfInBounds i true)).isEmpty && (l.setIfInBounds i true).all id
  | _, .late i r, m, l => match m with
    | 0 => false
    | m + 1 => (Region.ready .any ops l == [i]) && ((List.range ops.size).all fun k => memN k T || (l.setIfInBounds i true).getD k true) && chkM ops b z T true r m (l.setIfInBounds i true)
  | late, .two i j x y, m, l => match m with
    | 0 => false
    | m + 1 => !late && ((Region.ready .any ops l == [i, j]) && chkM ops b z T false x m (l.setIfInBounds i true) && chkM ops b z T false y m (l.setIfInBounds j true))
/-- what needs no S -/
def Mv.lates : Mv → List Nat
  | .renew r => r.lates
  | .fin => []
  | .take _ r => r.lates
  | .pure i r => i :: r.lates
  | .force _ r => r.lates
  | .two _ _ a b => a.lates ++ b.lates
  | .last _ => []
  | .late _ r => lateR r
where lateR : Mv → List Nat
  | .pure i r => i :: lateR r
  | .late i r => i :: lateR r
  | .last i => [i]
  | .renew r => lateR r
  | .take _ r => lateR r
  | .force _ r => lateR r
  | .two _ _ a b => lateR a ++ lateR b
  | .fin => []
/-- the operation that comes last among those that need S, if a move says so -/
def Mv.lastOf : Mv → Option Nat
  | .renew r => r.lastOf
  | .fin => none
  | .take _ r => r.lastOf
  | .pure _ r => r.lastOf
  | .force _ r => r.lastOf
  | .two _ _ a b => match a.lastOf with
    | some z => some z
    | none => b.lastOf
  | .last i => some i
  | .late i _ => some i
def chkD (ops : Array Oper) (ms : Mv) : Bool := Region.noSelect ops && chkM ops ms.lastOf.isSome (ms.lastOf.getD 0) ms.lates false ms ops.size (Array.replicate ops.size false) &&
  (match ms.lastOf with | some z => chainB ops z ms.lates | none => true)

theorem tkK_yields {S : World → Prop} {o : Oper} {a : Act} {k : Value → Prop} (h : tkK P S o a.eval k) : ∃ v, (∀ w, S w → (execOp a.eval o).run P w = .ok (.value v) w) ∧ k v := by
  unfold tkK at h
  split at h
  · rename_i x ho; exact ⟨_, fun w _ => by unfold execOp; simp [ho], h.out⟩
  · rename_i x ho; exact ⟨_, fun w _ => by unfold execOp; simp [ho], h.out⟩
  · rename_i c x y ho
    have h := h.out
    split at h
    · rename_i b hb; exact ⟨_, fun w _ => by unfold execOp; cases b <;> simp [ho, hb, asBool], h⟩
    · exact h.elim
  · rename_i x ho
    obtain ⟨h1, h2⟩ := h
    refine ⟨_, fun w _ => ?_, h2.out⟩
    unfold execOp
    simp only [ho]
    unfold nilOk at h1
    split at h1 <;> first | (cases h1; done) | (rename_i hx; simp only [hx, Sem.run_pure])
  · split at h
    · rename_i s hs
      obtain ⟨v, hv, hk⟩ := h.out
      exact ⟨v, fun w hw => by rw [exec_V hs, run_v, hv w hw], hk⟩
    · exact h.elim

theorem dForce_wp {ops : Array Oper} {a : Act} {w : World} {S : World → Prop} {i : Nat} {next : Env → World → Prop} {Q : Exit → Act → World → Prop} {T : Act → World → Prop} (hn : a.tmps.size = n)
    (hnext : ∀ o, ops[i]? = some o → ∀ v w', S w' → next (pt n (Act.env a) o.dst v) w' → T (a.put o.dst v) w') (h : dForce P n ops S i (Act.env a) w next) :
    Go.wpOp P ops Q i (fun a' w' => S w' ∧ T a' w') a w := by
  unfold dForce at h
  split at h
  · exact h.elim
  · rename_i o hi
    unfold Go.wpOp
    rw [hi]
    simp only
    rw [wanted_gv hn]
    split at h
    · rename_i hg
      rw [hg]
      simp only [if_true]
      exact .inl (opK_wp (k := fun v w' => S w' ∧ next (pt n (Act.env a) o.dst v) w') (fun v w' h' => ⟨h'.1, hnext o hi v w' h'.1 h'.2⟩) (by rw [eval_eq]; exact h))
    · rename_i j b hg
      rw [hg]
      simp only
      split
      · rename_i hw; exact .inl (opK_wp (k := fun v w' => S w' ∧ next (pt n (Act.env a) o.dst v) w') (fun v w' h' => ⟨h'.1, hnext o hi v w' h'.1 h'.2⟩) (by rw [eval_eq]; exact gd_true hw h))
      · rename_i hw
        have h' := gd_false (by simpa using hw) h
        exact ⟨h'.1, hnext o hi _ _ h'.1 h'.2⟩

theorem dLast_wp {ops : Array Oper} {a : Act} {w : World} {i : Nat} {next : Env → World → Prop} {Q : Exit → Act → World → Prop} {T : Act → World → Prop} (hn : a.tmps.size = n)
    (hnext : ∀ o, ops[i]? = some o → ∀ v w', next (pt n (Act.env a) o.dst v) w' → T (a.put o.dst v) w') (h : dLast P n ops i (Act.env a) w next) :
    Go.wpOp P ops Q i T a w := by
  unfold dLast at h
  split at h
  · exact h.elim
  · rename_i o hi
    unfold Go.wpOp
    rw [hi]
    simp only
    rw [wanted_gv hn]
    split at h
    · rename_i hg
      rw [hg]
      simp only [if_true]
      exact .inl (opK_wp (k := fun v w' => next (pt n (Act.env a) o.dst v) w') (fun v w' h' => hnext o hi v w' h') (by rw [eval_eq]; exact h))
    · rename_i j b hg
      rw [hg]
      simp only
      split
      · rename_i hw
        exact .inl (opK_wp (k := fun v w' => next (pt n (Act.env a) o.dst v) w') (fun v w' h' => hnext o hi v w' h') (by rw [eval_eq]; exact gd_true hw h))
      · rename_i hw
        exact hnext o hi _ _ (gd_false (by simpa using hw) h)
theorem dMoves_wp {ops : Array Oper} {M : List Nat} {E : Env} {K : Env → World → Prop} {X : Nat → Env → World → Prop} {R : Env → World → Prop} {b : Bool} {z : Nat} {T : List Nat} (hz : b = true → chainB ops z T = true) (hs : Region.noSelect ops = true)
    (hm : ∀ o ∈ ops.toList, ∀ t, o.dst = some t → memN t M = true) (ms : Mv) :
    ∀ (S : World → Prop) (late : Bool) (m : Nat) (l : Array Bool) (a : Act) (w : World), a.tmps.size = n → a.defers = [] → Off M E (Act.env a) → ((late = true ∧ b = true ∧ allUp T l) ∨ S w) → l.size = ops.size → Closed ops l → (ms.lastOf.isSome = true → b = true) → chkM ops b z T late ms m l = true → dMoves P n ops S ms (Act.env a) w K →
      wpZ P ops (QQ n M E K X R) S b T m l a w := by
  have put : ∀ (a : Act), a.tmps.size = n → a.defers = [] → Off M E (Act.env a) → ∀ (i : Nat) (o : Oper), ops[i]? = some o → ∀ v, (a.put o.dst v).tmps.size = n ∧ (a.put o.dst v).defers = [] ∧ Off M E (Act.env (a.put o.dst v)) := by
    intro a hn hd ho i o hi v
    refine ⟨by rw [put_size]; exact hn, by rw [put_defers]; exact hd, ?_⟩
    rw [put_env a hn]
    exact off_pt ho _ (hm o (by rw [Array.mem_toList_iff]; exact Array.mem_of_getElem? hi)) v
  induction ms with
  | fin =>
    intro S late m l a w hn hd ho _ _ _ _ hc h
    simp only [chkM, Bool.and_eq_true] at hc
    exact wpZ_done (by simpa using hc.2) ⟨hn, hd, ho, h⟩ m
  | take i r ih =>
    intro S late m l a w hn hd ho hS hsz hcl hb hc h
    cases m with
    | zero => cases hc
    | succ m =>
      simp only [chkM, Bool.and_eq_true, Bool.not_eq_true'] at hc
      obtain ⟨hlate, hzT, ⟨hr, hf⟩, hc'⟩ := hc
      have hS : S w := hS.resolve_left (by rw [hlate]; simp)
      have hz' : b = true → chainB ops z T = true ∧ i ≠ z ∧ memN i T = false := fun h => by
        subst h
        simp only [Bool.not_true, Bool.false_or, Bool.and_eq_true, Bool.not_eq_true'] at hzT
        refine ⟨hz rfl, fun e => ?_, hzT.2⟩
        rw [e, Nat.beq_refl] at hzT
        cases hzT.1
      unfold dMoves at h
      split at h
      · exact h.elim
      · rename_i o hi
        have fin : ∀ v, YieldsIf P ops S o v a → dMoves P n ops S r (pt n (Act.env a) o.dst v) w K → wpZ P ops (QQ n M E K X R) S b T (m + 1) l a w := fun v hy h' => by
          obtain ⟨p1, p2, p3⟩ := put a hn hd ho i o hi v
          exact wpZ_take hz' hi hs (fun _ _ _ q => q.elim) m l a w hsz hcl (Region.free_spec hi hf) (by simpa using hr) hy hS (ih _ false _ _ _ _ p1 p2 p3 (.inr hS) (by simp [hsz]) (hcl.set (by simpa using hr)) hb hc' (by rw [put_env a hn]; exact h'))
        have hw := wanted_gv (ops := ops) hn o
        split at h
        · rename_i hg
          rw [hg] at hw
          rw [← eval_eq] at h
          obtain ⟨v, hv, hk⟩ := tkK_yields h
          exact fin v (.inl ⟨hw, hv⟩) hk
        · rename_i j b hg
          rw [hg] at hw
          simp only at hw
          cases hb : Region.wanted o (yielded ops a.tmps) with
          | true =>
            rw [hb] at hw
            have h' := gdT_true hw.symm h
            rw [← eval_eq] at h'
            obtain ⟨v, hv, hk⟩ := tkK_yields h'
            exact fin v (.inl ⟨hb, hv⟩) hk
          | false =>
            rw [hb] at hw
            exact fin undef (.inr ⟨hb, rfl⟩) (gdT_false hw.symm h)
  | force i r ih =>
    intro S late m l a w hn hd ho hS hsz hcl hb hc h
    cases m with
    | zero => cases hc
    | succ m =>
      simp only [chkM, Bool.and_eq_true, beq_iff_eq, Bool.not_eq_true'] at hc
      obtain ⟨hlate, hr, hc'⟩ := hc
      refine wpZ_all hr (by simp) fun i' hi' => ?_
      obtain rfl : i' = i := by simpa using hi'
      refine wpOp_mono (fun a' w' h' => ⟨.inr h'.1, h'.2⟩) (dForce_wp (T := wpZ P ops (QQ n M E K X R) S b T m (l.setIfInBounds i' true)) hn (fun o hi v w' hS' h' => ?_) h)
      obtain ⟨p1, p2, p3⟩ := put a hn hd ho i' o hi v
      exact ih _ false _ _ _ _ p1 p2 p3 (.inr hS') (by simp [hsz]) (hcl.set (by rw [hr]; simp)) hb hc' (by rw [put_env a hn]; exact h')
  | two i j x y ihx ihy =>
    intro S late m l a w hn hd ho hS hsz hcl hb hc h
    cases m with
    | zero => cases hc
    | succ m =>
      simp only [chkM, Bool.and_eq_true, beq_iff_eq, Bool.not_eq_true'] at hc
      obtain ⟨hlate, ⟨hr, hcx⟩, hcy⟩ := hc
      refine wpZ_all hr (by simp) fun i' hi' => ?_
      have hij : i' = i ∨ i' = j := by simpa using hi'
      rcases hij with rfl | rfl
      · refine wpOp_mono (fun a' w' h' => ⟨.inr h'.1, h'.2⟩) (dForce_wp (T := wpZ P ops (QQ n M E K X R) S b T m (l.setIfInBounds i' true)) hn (fun o hi v w' hS' h' => ?_) h.1)
        obtain ⟨p1, p2, p3⟩ := put a hn hd ho i' o hi v
        exact ihx _ false _ _ _ _ p1 p2 p3 (.inr hS') (by simp [hsz]) (hcl.set (by rw [hr]; simp)) (fun q => hb (by unfold Mv.lastOf; cases hx : x.lastOf <;> simp_all)) hcx (by rw [put_env a hn]; exact h')
      · refine wpOp_mono (fun a' w' h' => ⟨.inr h'.1, h'.2⟩) (dForce_wp (T := wpZ P ops (QQ n M E K X R) S b T m (l.setIfInBounds i' true)) hn (fun o hi v w' hS' h' => ?_) h.2)
        obtain ⟨p1, p2, p3⟩ := put a hn hd ho i' o hi v
        exact ihy _ false _ _ _ _ p1 p2 p3 (.inr hS') (by simp [hsz]) (hcl.set (by rw [hr]; simp)) (fun q => hb (by unfold Mv.lastOf; cases hx : x.lastOf <;> simp_all)) hcy (by rw [put_env a hn]; exact h')
  | last i =>
    intro S late m l a w hn hd ho hS hsz hcl hb hc h
    cases m with
    | zero => cases hc
    | succ m =>
      simp only [chkM, Bool.and_eq_true, beq_iff_eq] at hc
      obtain ⟨⟨⟨hr, hm0⟩, he⟩, hup⟩ := hc
      refine wpZ_all hr (by simp) fun i' hi' => ?_
      obtain rfl : i' = i := by simpa using hi'
      refine wpOp_mono (fun a' w' h' => ⟨.inl ⟨hb rfl, ?_⟩, h'⟩) (dLast_wp (T := wpZ P ops (QQ n M E K X R) S b T m (l.setIfInBounds i' true)) hn (fun o hi v w' h' => ?_) h)
      · intro k _
        rw [Array.all_eq_true] at hup
        generalize l.setIfInBounds i' true = l' at hup
        by_cases hk : k < l'.size
        · have := hup k hk
          simpa [Array.getD, hk] using this
        · simp [Array.getD, hk]
      · obtain ⟨p1, p2, p3⟩ := put a hn hd ho i' o hi v
        exact wpZ_done (by simpa using he) ⟨p1, p2, p3, by rw [put_env a hn]; exact h'⟩ m
  | pure i r ih =>
    intro S late m l a w hn hd ho hS hsz hcl hb hc h
    cases m with
    | zero => cases hc
    | succ m =>
      simp only [chkM, Bool.and_eq_true] at hc
      obtain ⟨hT, ⟨hr, hf⟩, hc'⟩ := hc
      have hT' : b = true → memN i T = true := fun h => by subst h; simpa using hT
      unfold dMoves at h
      split at h
      · exact h.elim
      · rename_i o hi
        have fin : ∀ v, YieldsIf P ops (fun _ => True) o v a → dMoves P n ops S r (pt n (Act.env a) o.dst v) w K → wpZ P ops (QQ n M E K X R) S b T (m + 1) l a w := fun v hy h' => by
          obtain ⟨p1, p2, p3⟩ := put a hn hd ho i o hi v
          exact wpZ_pure hT' hi hs (fun _ _ _ q => q.elim) m l a w hsz (Region.free_spec hi hf) (by simpa using hr) hy (hS.imp (fun q => q.2) id) (ih _ late _ _ _ _ p1 p2 p3 (hS.imp (fun q => ⟨q.1, q.2.1, q.2.2.set _⟩) id) (by simp [hsz]) (hcl.set (by simpa using hr)) hb hc' (by rw [put_env a hn]; exact h'))
        have hw := wanted_gv (ops := ops) hn o
        split at h
        · rename_i hg
          rw [hg] at hw
          rw [← eval_eq] at h
          obtain ⟨v, hv, hk⟩ := tkK_yields h
          exact fin v (.inl ⟨hw, hv⟩) hk
        · rename_i j b hg
          rw [hg] at hw
          simp only at hw
          cases hb : Region.wanted o (yielded ops a.tmps) with
          | true =>
            rw [hb] at hw
            have h' := gdT_true hw.symm h
            rw [← eval_eq] at h'
            obtain ⟨v, hv, hk⟩ := tkK_yields h'
            exact fin v (.inl ⟨hb, hv⟩) hk
          | false =>
            rw [hb] at hw
            exact fin undef (.inr ⟨hb, rfl⟩) (gdT_false hw.symm h)
  | late i r ih =>
    intro S late m l a w hn hd ho hS hsz hcl hb hc h
    cases m with
    | zero => cases hc
    | succ m =>
      simp only [chkM, Bool.and_eq_true, beq_iff_eq] at hc
      obtain ⟨⟨hr, hup⟩, hc'⟩ := hc
      refine wpZ_all hr (by simp) fun i' hi' => ?_
      obtain rfl : i' = i := by simpa using hi'
      have hall : allUp T (l.setIfInBounds i' true) := by
        intro k hk
        by_cases hlt : k < ops.size
        · have := List.all_eq_true.1 hup k (List.mem_range.2 hlt)
          simpa [hk] using this
        · rw [Array.getD_eq_getD_getElem?, Array.getElem?_eq_none (by simp [hsz]; omega)]; rfl
      refine wpOp_mono (fun a' w' h' => ⟨.inl ⟨hb rfl, hall⟩, h'⟩) (dLast_wp (T := wpZ P ops (QQ n M E K X R) S b T m (l.setIfInBounds i' true)) hn (fun o hi v w' h' => ?_) h)
      · obtain ⟨p1, p2, p3⟩ := put a hn hd ho i' o hi v
        exact ih _ true _ _ _ _ p1 p2 p3 (.inl ⟨rfl, hb rfl, hall⟩) (by simp [hsz]) (hcl.set (by rw [hr]; simp)) (fun _ => hb rfl) hc' (by rw [put_env a hn]; exact h')
  | renew r ih =>
    intro S late m l a w hn hd ho hS hsz hcl hb hc h
    unfold dMoves at h
    obtain ⟨S', h1, h2, h3⟩ := h.out
    simp only [chkM, Bool.and_eq_true, Bool.not_eq_true'] at hc
    exact wpZ_mono h2 _ _ _ _ (ih S' false m l a w hn hd ho (.inr h1) hsz hcl hb hc.2 h3)

theorem dDraw_wp {ops : Array Oper} {M : List Nat} {E : Env} {K : Env → World → Prop} {X : Nat → Env → World → Prop} {R : Env → World → Prop} {id : Nat} (hmx : P.follows .mixedOrders = true) (ms : Mv)
    (hm : ∀ o ∈ ops.toList, ∀ t, o.dst = some t → memN t M = true) (a : Act) (w : World) (hn : a.tmps.size = n) (hd : a.defers = []) (ho : Off M E (Act.env a)) (hc : chkD ops ms = true)
    (h : dDraw P n ops ms (Act.env a) w K) : (Code.region id ops true).wp P (QQ n M E K X R) a w := by
  unfold chkD at hc
  simp only [Bool.and_eq_true] at hc
  obtain ⟨⟨hs, hc⟩, hl⟩ := hc
  have hcl : Closed ops (Array.replicate ops.size false) := fun m o _ h => by
    have : (Array.replicate ops.size false).getD m false = false := by
      by_cases hm : m < ops.size <;> simp [hm]
    rw [this] at h; cases h
  have hz : ms.lastOf.isSome = true → chainB ops (ms.lastOf.getD 0) ms.lates = true := fun h => by
    cases hx : ms.lastOf with
    | none => rw [hx] at h; cases h
    | some z => rw [hx] at hl; exact hl
  have hb : ms.lastOf.isSome = true → ms.lastOf.isSome = true := fun h => h
  unfold dDraw at h
  cases hall : ms.takes with
  | true =>
    rw [hall] at h
    exact wp_region_z hmx (dMoves_wp (X := X) (R := R) hz hs hm ms (fun w' => w' = w.drew) false _ _ a w.drew hn hd ho (.inr rfl) (by simp) hcl hb hc h)
  | false =>
    rw [hall] at h
    obtain ⟨S, hS, h⟩ := h.out
    exact wp_region_z hmx (dMoves_wp (X := X) (R := R) hz hs hm ms S false _ _ a w.drew hn hd ho (.inr hS) (by simp) hcl hb hc h)

def chk (H : Hints) : Code → Bool
  | .region i ops true => chkD ops (lookNat H.moves i)
  | .seq a b => chk H a && chk H b
  | .cond _ a b => chk H a && chk H b
  | .block _ c => chk H c
  | .loop c => chk H c
  | _ => true

theorem dsts_mem {l : List Oper} {o : Oper} (ho : o ∈ l) {t : Nat} (ht : o.dst = some t) : memN t (dsts l) = true := by
  induction l with
  | nil => cases ho
  | cons p l ih =>
    unfold dsts at ih ⊢
    rw [List.filterMap_cons]
    rcases List.mem_cons.1 ho with rfl | ho
    · rw [ht]; simp [memN, Nat.beq_refl]
    · have := ih ho
      split
      · exact this
      · simp only [memN, this]; cases Nat.beq t _ <;> rfl
theorem dsts_append (l r : List Oper) : dsts (l ++ r) = dsts l ++ dsts r := by unfold dsts; exact List.filterMap_append

theorem QQ.mono {M M' : List Nat} {E E' : Env} {K K' : Env → World → Prop} {X X' : Nat → Env → World → Prop} {R R' : Env → World → Prop} (ho : ∀ F, Off M E F → Off M' E' F)
    (hK : ∀ F w, Off M E F → K F w → K' F w) (hX : ∀ i F w, Off M E F → X i F w → X' i F w) (hR : ∀ F w, Off M E F → R F w → R' F w) : ∀ e a w, QQ n M E K X R e a w → QQ n M' E' K' X' R' e a w := by
  intro e a w h
  cases e with
  | normal => exact ⟨h.1, h.2.1, ho _ h.2.2.1, hK _ _ h.2.2.1 h.2.2.2⟩
  | exit i => exact ⟨h.1, h.2.1, ho _ h.2.2.1, hX _ _ _ h.2.2.1 h.2.2.2⟩
  | ret => exact ⟨h.1, h.2.1, ho _ h.2.2.1, hR _ _ h.2.2.1 h.2.2.2⟩
  | _ => exact h.elim

theorem den_wp (H : Hints) (hmx : P.follows .mixedOrders = true) (c : Code) :
    ∀ (a : Act) (w : World) (K : Env → World → Prop) (X : Nat → Env → World → Prop) (R : Env → World → Prop), a.tmps.size = n → a.defers = [] → chk H c = true →
      den P n H c (Act.env a) w K X R → c.wp P (QQ n (dsts (opsIn c)) (Act.env a) K X R) a w := by
  induction c with
  | skip => intro a w K X R hn hd _ h; exact wp_skip ⟨hn, hd, Off.refl _ _, h⟩
  | region i ops draw =>
    intro a w K X R hn hd hc h
    cases draw with
    | false => exact wp_region_list (dOps_wp ops.toList a w hn hd (Off.refl _ _) (fun o ho t ht => dsts_mem (show o ∈ opsIn (.region i ops false) from ho) ht) h)
    | true => exact dDraw_wp hmx _ (fun o ho t ht => dsts_mem (show o ∈ opsIn (.region i ops true) from ho) ht) a w hn hd (Off.refl _ _) hc h
  | seq x y ihx ihy =>
    intro a w K X R hn hd hc h
    simp only [chk, Bool.and_eq_true] at hc
    refine wp_seq (wp_mono (ihx a w _ X R hn hd hc.1 h) fun e a' w' q => ?_)
    have e1 : dsts (opsIn (Code.seq x y)) = dsts (opsIn x) ++ dsts (opsIn y) := dsts_append _ _
    rw [e1]
    cases e with
    | normal =>
      obtain ⟨h1, h2, h3, h4⟩ := q
      exact wp_mono (ihy a' w' K X R h1 h2 hc.2 h4) (QQ.mono (fun F hF => h3.left.trans hF.right) (fun _ _ _ q => q) (fun _ _ _ _ q => q) fun _ _ _ q => q)
    | exit i => exact ⟨q.1, q.2.1, q.2.2.1.left, q.2.2.2⟩
    | ret => exact ⟨q.1, q.2.1, q.2.2.1.left, q.2.2.2⟩
    | _ => exact q.elim
  | cond v x y ihx ihy =>
    intro a w K X R hn hd hc h
    simp only [chk, Bool.and_eq_true] at hc
    have e1 : dsts (opsIn (Code.cond v x y)) = dsts (opsIn x) ++ dsts (opsIn y) := dsts_append _ _
    have e2 : dsts (opsIn x ++ opsIn y) = dsts (opsIn x) ++ dsts (opsIn y) := dsts_append _ _
    rw [e1]
    have key : ∀ (K' : Env → World → Prop), (∀ F w, Off (dsts (opsIn x) ++ dsts (opsIn y)) (Act.env a) F → K' F w → K F w) →
        br (ev (Act.env a) v) (fun _ => den P n H x (Act.env a) w K' X R) (fun _ => den P n H y (Act.env a) w K' X R) → (Code.cond v x y).wp P (QQ n (dsts (opsIn x) ++ dsts (opsIn y)) (Act.env a) K X R) a w := by
      intro K' hK' h
      have h := h.out
      split at h
      · rename_i b hb
        cases b with
        | true => exact wp_cond_true (by rw [eval_eq]; exact hb) (wp_mono (ihx a w K' X R hn hd hc.1 h) (QQ.mono (fun _ hF => hF.left) (fun _ _ hF q => hK' _ _ hF.left q) (fun _ _ _ _ q => q) fun _ _ _ q => q))
        | false => exact wp_cond_false (by rw [eval_eq]; exact hb) (wp_mono (ihy a w K' X R hn hd hc.2 h) (QQ.mono (fun _ hF => hF.right) (fun _ _ hF q => hK' _ _ hF.right q) (fun _ _ _ _ q => q) fun _ _ _ q => q))
      · exact h.elim
    unfold den at h
    rw [e2] at h
    cases hf : falls x && falls y with
    | false => rw [hf] at h; exact key K (fun _ _ _ q => q) h
    | true =>
      rw [hf] at h
      obtain ⟨J, hJ, hg⟩ := h.out
      exact key _ (fun F w hF q => by have := hg F w q; simp only [hF.mix] at this; exact this) hJ
  | block i c ih =>
    intro a w K X R hn hd hc h
    have e1 : dsts (opsIn (Code.block i c)) = dsts (opsIn c) := rfl
    rw [e1]
    have key : ∀ (K' : Env → World → Prop), (∀ F w, Off (dsts (opsIn c)) (Act.env a) F → K' F w → K F w) →
        den P n H c (Act.env a) w K' (fun j E w => bif Nat.beq j i then K' E w else X j E w) R → (Code.block i c).wp P (QQ n (dsts (opsIn c)) (Act.env a) K X R) a w := by
      intro K' hK' h
      refine wp_block (wp_mono (ih a w _ _ R hn hd hc h) fun e a' w' q => ?_)
      cases e with
      | normal => exact ⟨q.1, q.2.1, q.2.2.1, hK' _ _ q.2.2.1 q.2.2.2⟩
      | ret => exact q
      | exit j =>
        obtain ⟨h1, h2, h3, h4⟩ := q
        unfold Exit.inBlock
        by_cases hj : j = i
        · subst hj
          simp only [Nat.beq_refl, cond_true] at h4
          simp only [if_true]
          exact ⟨h1, h2, h3, hK' _ _ h3 h4⟩
        · rw [beq_false hj] at h4
          simp only [hj, if_false]
          exact ⟨h1, h2, h3, h4⟩
      | _ => exact q.elim
    unfold den at h
    cases hf : Nat.blt 1 (exitsN i c + (bif falls c then 1 else 0)) with
    | false => rw [hf] at h; exact key K (fun _ _ _ q => q) h
    | true =>
      rw [hf] at h
      obtain ⟨J, hJ, hg⟩ := h.out
      exact key _ (fun F w hF q => by have := hg F w q; simp only [hF.mix] at this; exact this) hJ
  | loop c ih =>
    intro a w K X R hn hd hc h
    obtain ⟨I, μ, h0, hr⟩ := h.out
    have e1 : dsts (opsIn (Code.loop c)) = dsts (opsIn c) := rfl
    rw [e1]
    refine wp_loop (fun a' w' => a'.tmps.size = n ∧ a'.defers = [] ∧ Off (dsts (opsIn c)) (Act.env a) (Act.env a') ∧ I ((sl H (dsts (opsIn c))).map (Act.env a')) w') (fun a' w' => μ ((sl H (dsts (opsIn c))).map (Act.env a')) w') ⟨hn, hd, Off.refl _ _, h0⟩ ?_
    intro a' w' ⟨h1, h2, h3, h4⟩
    have h5 := hr (Act.env a') w' h4
    rw [h3.mix] at h5
    refine wp_mono (ih a' w' _ X R h1 h2 hc h5) fun e a'' w'' q => ?_
    cases e with
    | normal => exact ⟨⟨q.1, q.2.1, h3.trans q.2.2.1, q.2.2.2.1⟩, q.2.2.2.2⟩
    | exit i => exact ⟨q.1, q.2.1, h3.trans q.2.2.1, q.2.2.2⟩
    | ret => exact ⟨q.1, q.2.1, h3.trans q.2.2.1, q.2.2.2⟩
    | _ => exact q.elim
  | exit i => intro a w K X R hn hd _ h; exact wp_exit ⟨hn, hd, Off.refl _ _, h⟩
  | ret => intro a w K X R hn hd _ h; exact wp_ret ⟨hn, hd, Off.refl _ _, h⟩
  | _ => intro a w K X R hn hd _ h; exact h.elim
end
end Go.Isk
