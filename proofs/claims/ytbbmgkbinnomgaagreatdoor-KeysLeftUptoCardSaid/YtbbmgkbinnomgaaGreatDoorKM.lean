/- Maps with texts as keys, as items. -/
import Derived.Test.YtbbmgkbinnomgaaGreatDoorKT
import Derived.MapKept
set_option linter.unusedVariables false
set_option linter.unusedSimpArgs false
set_option linter.unusedSectionVars false
namespace Go.Isk
open Go Go.RowKit Go.MapKept Go.ChangeMaps
abbrev kstr (l : List UInt8) : Value := str l
theorem kstr_inj {a b : List UInt8} : kstr a = kstr b ↔ a = b := by
  constructor
  · intro h
    simp only [str, Value.string.injEq, ByteArray.mk.injEq] at h
    have := congrArg Array.toList h
    simpa using this
  · rintro rfl; rfl
section
variable {α : Type}
abbrev AMap (α : Type) := List (List UInt8 × α)
def lookM (k : List UInt8) : AMap α → Option α
  | [] => none
  | (k', v) :: r => if k' = k then some v else lookM k r
def putM (k : List UInt8) (v : α) : AMap α → AMap α
  | [] => [(k, v)]
  | (k', v') :: r => if k' = k then (k, v) :: r else (k', v') :: putM k v r
def delM (k : List UInt8) : AMap α → AMap α
  | [] => []
  | (k', v') :: r => if k' = k then r else (k', v') :: delM k r
def posM (k : List UInt8) : AMap α → Option Nat
  | [] => none
  | (k', _) :: r => if k' = k then some 0 else (posM k r).map (· + 1)
/-- entries that hold a list's things -/
inductive EntR (F : Fam α) (S : Nat → Prop) (w : World) : List MapEntry → AMap α → Prop
  | nil : EntR F S w [] []
  | cons {e : MapEntry} {es : List MapEntry} {k : List UInt8} {cs : List Value} {a : α} {m : AMap α} : e.key = kstr k → e.val = .agg cs.toArray → (F cs a).holds S w → EntR F S w es m → EntR F S w (e :: es) ((k, a) :: m)
variable {F : Fam α} {S S' D : Nat → Prop} {w w' : World} {es : List MapEntry} {m : AMap α} {k : List UInt8} {a : α} {cs : List Value}
theorem EntR.keep (h : EntR F S w es m) (hu : Upd D w w') (hd : ∀ k, S k → ¬ D k) : EntR F S w' es m := by
  induction h with
  | nil => exact .nil
  | cons h1 h2 h3 _ ih => exact .cons h1 h2 ((F _ _).keep h3 hu hd) ih
theorem EntR.mono (h : EntR F S w es m) (hs : ∀ k, S k → k < w.heap.size → S' k) : EntR F S' w es m := by
  induction h with
  | nil => exact .nil
  | cons h1 h2 h3 _ ih => exact .cons h1 h2 ((F _ _).mono h3 hs) ih
theorem EntR.len (h : EntR F S w es m) : es.length = m.length := by
  induction h with
  | nil => rfl
  | cons _ _ _ _ ih => simp [ih]
theorem EntR.keys (h : EntR F S w es m) : ∀ x ∈ es, IsKey .string x.key := by
  induction h with
  | nil => intro x hx; cases hx
  | cons h1 _ _ _ ih =>
    intro x hx
    rcases List.mem_cons.1 hx with rfl | hx
    · rw [h1]; trivial
    · exact ih x hx
/-- where a key is found, and what is there -/
theorem EntR.find (h : EntR F S w es m) (k : List UInt8) : ∀ i, (posM k m = none ∧ lookM k m = none ∧ Instr.findNow .string (kstr k) es i = some none ∧ ∀ x ∈ es, x.key ≠ kstr k) ∨
    ∃ j a cs, posM k m = some j ∧ lookM k m = some a ∧ (F cs a).holds S w ∧ (∃ e, es[j]? = some e ∧ e.key = kstr k) ∧ Instr.findNow .string (kstr k) es i = some (some (i + j, .agg cs.toArray)) := by
  induction h with
  | nil => exact fun i => .inl ⟨rfl, rfl, rfl, fun x hx => by cases hx⟩
  | @cons e es k' cs a m h1 h2 h3 _ ih =>
    intro i
    by_cases hk : k' = k
    · subst hk
      refine .inr ⟨0, a, cs, by simp [posM], by simp [lookM], h3, ⟨e, rfl, h1⟩, ?_⟩
      have hs : Instr.sameNow .string (kstr k') e.key = some true := by
        rw [h1]
        simp only [str, Instr.sameNow, Option.some.injEq]
        exact (bytes_beq _ _).2 rfl
      simp [Instr.findNow, hs, h2]
    · have hne : ((kstr k : Value) ≠ e.key) := by rw [h1]; exact fun q => hk (kstr_inj.1 q.symm)
      have hs : Instr.sameNow .string (kstr k) e.key = some false := by
        obtain ⟨r, hr, hiff⟩ := sameNow_of_keys (d := .string) (a := kstr k) (b := e.key) trivial (by rw [h1]; trivial)
        cases r with
        | true => exact absurd (hiff.1 rfl) hne
        | false => exact hr
      rcases ih (i + 1) with ⟨q1, q2, q3, q4⟩ | ⟨j, a', cs', q1, q2, q3, q4, q5⟩
      · refine .inl ⟨by simp [posM, hk, q1], by simp [lookM, hk, q2], by simp [Instr.findNow, hs, q3], fun x hx => ?_⟩
        rcases List.mem_cons.1 hx with rfl | hx
        · exact fun q => hne q.symm
        · exact q4 x hx
      · exact .inr ⟨j + 1, a', cs', by simp [posM, hk, q1], by simp [lookM, hk, q2], q3, by simpa using q4, by simp [Instr.findNow, hs, q5]; omega⟩
theorem EntR.push (h : EntR F S w es m) (hp : posM k m = none) (ha : (F cs a).holds S w) (born : Nat) : EntR F S w (es ++ [⟨kstr k, .agg cs.toArray, born⟩]) (putM k a m) := by
  induction h with
  | nil => exact .cons rfl rfl ha .nil
  | @cons e es k' cs' a' m h1 h2 h3 _ ih =>
    unfold posM at hp
    split at hp
    · cases hp
    · rename_i hk
      simp only [Option.map_eq_none_iff] at hp
      unfold putM
      rw [if_neg hk]
      exact .cons h1 h2 h3 (ih hp)
theorem EntR.modify (h : EntR F S w es m) {j : Nat} (hp : posM k m = some j) (ha : (F cs a).holds S w) : EntR F S w (es.modify j fun e => { e with key := kstr k, val := .agg cs.toArray }) (putM k a m) := by
  induction h generalizing j with
  | nil => cases hp
  | @cons e es k' cs' a' m h1 h2 h3 h4 ih =>
    unfold posM at hp
    unfold putM
    split at hp
    · rename_i hk
      cases hp
      rw [if_pos hk]
      exact .cons rfl rfl ha h4
    · rename_i hk
      obtain ⟨j', hj', rfl⟩ := Option.map_eq_some_iff.1 hp
      rw [if_neg hk]
      exact .cons h1 h2 h3 (ih hj')
/-- the map at block g, of one's own -/
def mapI (F : Fam α) (g : Nat) (m : AMap α) : It := ⟨[g], fun S w => ∃ es clock, w.heap[g]? = some (.map es clock) ∧ Stamped es clock ∧ EntR F S w es.toList m,
  fun ⟨es, c, h1, h2, h3⟩ hu hd => ⟨es, c, hu.keep h1 (hd g (.inl (by simp))), h2, h3.keep hu fun k hk => hd k (.inr hk)⟩,
  fun ⟨es, c, h1, h2, h3⟩ hs => ⟨es, c, h1, h2, h3.mono hs⟩⟩
variable {P : Program} {b : Base} {L R : List It} {g : Nat} {T K V : TypeId} {kk : Value → World → Prop}
theorem upd_set {o : Obj} (o' : Obj) (h : w.heap[g]? = some o) : Upd (fun k => k = g) w { w with heap := w.heap.setIfInBounds g o' } :=
  ⟨rfl, rfl, rfl, by simp, fun k hk hn => (heap_set h).2 k hn⟩
theorem sp_mkmap {kk : Value → World → Prop} (hs : Sep b w L) (F : Fam α) (hk : ∀ g w', Sep b w' (mapI F g [] :: L) → kk (.map (some g)) w') : o1 P (Instr.makeMap T none) w kk := by
  have hr : (Instr.makeMap T none).run P w = .ok (.map (some w.heap.size)) (w.alloc (.map #[] 0)) := by
    simp [Instr.makeMap, Result.andThen]
  refine st_of hr (hk _ _ (hs.add (upd_alloc _) ?_ ⟨#[], 0, (MapKept.heap_alloc w _).1, stamped_empty 0, .nil⟩))
  intro k hk
  simp only [mapI, List.mem_singleton] at hk
  subst hk
  exact ⟨by simp, Nat.le_refl _⟩
/-- reading at a key -/
theorem map_look (h : Sep b w L) (hm : Ins L (mapI F g m)) (hT : P.underlying T = some (.map K V)) (hK : P.underlying K = some .string) {z : Value} (hz : (zeroValue V).run P w = .ok z w) (k : List UInt8) :
    (lookM k m = none ∧ (Instr.lookup T (.map (some g)) (kstr k) true).run P w = .ok (.tuple #[z, .bool false]) w ∧ (Instr.lookup T (.map (some g)) (kstr k) false).run P w = .ok z w) ∨
    ∃ a cs, lookM k m = some a ∧ (Instr.lookup T (.map (some g)) (kstr k) true).run P w = .ok (.tuple #[.agg cs.toArray, .bool true]) w ∧ (Instr.lookup T (.map (some g)) (kstr k) false).run P w = .ok (.agg cs.toArray) w ∧ Sep b w ((F cs a).it :: L) := by
  obtain ⟨es, clock, h1, h2, h3⟩ := h.get hm
  rcases h3.find k 0 with ⟨q1, q2, q3, q4⟩ | ⟨j, a, cs, q1, q2, q3, q4, q5⟩
  · refine .inl ⟨q2, ?_, ?_⟩ <;> simp [Instr.lookup, run_underlying hT, MapKept.run_getObj_map h1, run_checkKey hK (k := kstr k) trivial, run_findKey hK q3, hz, Result.andThen]
  · refine .inr ⟨a, cs, q2, ?_, ?_, h.fact q3⟩ <;> simp [Instr.lookup, run_underlying hT, MapKept.run_getObj_map h1, run_checkKey hK (k := kstr k) trivial, run_findKey hK q5, Result.andThen]
theorem Sep.remap (h : Sep b w L) {m' : AMap α} (hm : Has L (mapI F g m) R) (hu : Upd (fun k => k = g) w w') (hb : (mapI F g m').holds (Stb w' (mapI F g m' :: R)) w') (hlt : g < w'.heap.size) : Sep b w' (mapI F g m' :: R) :=
  h.turn hm hu (fun k _ e => by simp [mapI, e]) (fun k hk => by simp [mapI] at hk; subst hk; exact ⟨hlt, .inl (by simp [mapI])⟩) hb
theorem stb_same {o' : Obj} {m' : AMap α} (hm : Has L (mapI F g m) R) : ∀ k, Stb w L k → Stb { w with heap := w.heap.setIfInBounds g o' } (mapI F g m' :: R) k := by
  rintro k ⟨h1, h2⟩
  refine ⟨by simpa using h1, fun hh => h2 ?_⟩
  refine (mine_perm hm.perm k).2 ?_
  exact mine_same (I := mapI F g m') (J := mapI F g m) rfl hh
theorem sp_mapset (h : Sep b w L) (hm : Has L (mapI F g m) R) (hT : P.underlying T = some (.map K V)) (hK : P.underlying K = some .string) (k : List UInt8) (hf : (F cs a).holds (Stb w L) w)
    (hk : ∀ w', Sep b w' (mapI F g (putM k a m) :: R) → kk undef w') : o0 P (Instr.mapUpdate T (.map (some g)) (kstr k) (.agg cs.toArray)) w kk := by
  obtain ⟨es, clock, h1, h2, h3⟩ := h.get hm.ins
  have hkeys := h3.keys
  have hlt := lt_of_heap h1
  rcases h3.find k 0 with ⟨q1, q2, q3, q4⟩ | ⟨j, a', cs', q1, q2, q3, ⟨e, q4, q5⟩, q6⟩
  · have hr : (Instr.mapUpdate T (.map (some g)) (kstr k) (.agg cs.toArray)).run P w = .ok () { w with heap := w.heap.setIfInBounds g (.map (es.push ⟨kstr k, .agg cs.toArray, clock⟩) (clock + 1)) } := by
      simp [Instr.mapUpdate, run_underlying hT, MapKept.run_getObj_map h1, run_checkKey hK (k := kstr k) trivial, run_findKey hK q3, run_setObj_map _ h1, Result.andThen]
    suffices hh : _ from ⟨by rw [hr]; exact hk _ (h.remap hm (upd_set _ h1) ⟨_, _, (heap_set h1).1, stamped_push h2 q4, hh⟩ (by simpa using hlt))⟩
    rw [Array.toList_push]
    exact ((h3.push q1 hf clock).keep (upd_set _ h1) fun k hk e => hk.2 ((mine_perm hm.perm k).2 ⟨_, List.mem_cons_self .., by simp [mapI, e]⟩)).mono fun k hk _ => stb_same hm k hk
  · have hj : es[j]? = some e := by simpa using q4
    have hr : (Instr.mapUpdate T (.map (some g)) (kstr k) (.agg cs.toArray)).run P w = .ok () { w with heap := w.heap.setIfInBounds g (.map (es.modify j fun e => { e with key := kstr k, val := .agg cs.toArray }) clock) } := by
      rw [Nat.zero_add] at q6
      simp [Instr.mapUpdate, run_underlying hT, MapKept.run_getObj_map h1, run_checkKey hK (k := kstr k) trivial, run_findKey hK q6, hj, q5, run_keyThatStays (d := .string) (k := kstr k) trivial, run_setObj_map _ h1, Result.andThen]
    have hkey : ∀ e', es[j]? = some e' → ({ e' with key := kstr k, val := .agg cs.toArray } : MapEntry).key = e'.key := fun e' he' => by rw [hj] at he'; cases he'; exact q5.symm
    suffices hh : _ from ⟨by rw [hr]; exact hk _ (h.remap hm (upd_set _ h1) ⟨_, _, (heap_set h1).1, stamped_modify h2 _ _ (fun _ _ => rfl) (fun e' _ he' => hkey e' he'), hh⟩ (by simpa using hlt))⟩
    rw [Array.toList_modify]
    exact ((h3.modify q1 hf).keep (upd_set _ h1) fun k hk e => hk.2 ((mine_perm hm.perm k).2 ⟨_, List.mem_cons_self .., by simp [mapI, e]⟩)).mono fun k hk _ => stb_same hm k hk
/-- how many entries -/
theorem map_len (h : Sep b w L) (hm : Ins L (mapI F g m)) {ts : Array TypeId} {T' : TypeId} (hts : ts[0]? = some T) (hT : P.underlying T = some (.map K V)) : (Builtin.len_ ts T' #[.map (some g)]).run P w = .ok (.int .i64 m.length) w := by
  obtain ⟨es, clock, h1, h2, h3⟩ := h.get hm
  have := h3.len
  have e : es.size = m.length := by simpa using this
  simp [Builtin.len_, hts, run_underlying hT, MapKept.run_getObj_map h1, Result.andThen]
  rw [e]
  rfl
end
end Go.Isk
