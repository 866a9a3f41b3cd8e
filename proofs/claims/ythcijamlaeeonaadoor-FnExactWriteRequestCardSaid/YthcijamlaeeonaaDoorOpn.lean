/- What is read as data of a type is told by the kind of the printed words: whole numbers, bools, strings, slices; a struct's fields one by one. Conditions: none. -/
import Derived.ChangeArms
import Derived.Deep.Slices
import Derived.DataElems
import Derived.ProofKit
import Derived.Test.YthcijamlaeeonaaDoorWMore
namespace Go.Proofs.YthcijamlaeeonaaDoor
open Go.RowKit Go.Proofs.YthcijamlaeeonaaDoorW.PrintWords
set_option linter.unusedVariables false
section
variable {H : Type} {P : Program} {w : World}
/-- What is read as data of type t is an element of the kind d, and Q is true of it. -/
structure Opn {H : Type} (enc : TypeId × Value → H) (P : Program) (w : World) {α : Type} (d : Kd α) (t : TypeId) (Q : α → Prop) : Prop where
  cells : P.cellsOf t = d.sz
  reads : ∀ (fuel : Nat) (cs : List Value) (x : DataW H × List MemPlace), DataW.trod enc P w 0 (fun _ => true) true fuel t cs = some x → ∃ a : α, d.K w a cs ∧ Q a
variable {enc : TypeId × Value → H}
theorem opn_int {t : TypeId} {k : IntKind} (hu : P.underlying t = some (.int k)) (hc : P.cellsOf t = 1) : Opn enc P w (Kd.int k) t (fun n => (Lit.int k n).wf = true) :=
  ⟨hc, fun fuel cs x h => by
    obtain ⟨n, rfl, _, hw⟩ := DataW.trod_int hu h
    exact ⟨n, rfl, hw⟩⟩
theorem opn_bool {t : TypeId} (hu : P.underlying t = some .bool) (hc : P.cellsOf t = 1) : Opn enc P w Kd.bool t (fun _ => True) :=
  ⟨hc, fun fuel cs x h => by
    obtain ⟨b, rfl, _⟩ := DataW.trod_bool hu h
    exact ⟨b, rfl, trivial⟩⟩
theorem opn_string {t : TypeId} (hu : P.underlying t = some .string) (hc : P.cellsOf t = 1) : Opn enc P w Kd.string t (fun s => s.size ≤ maxLen) :=
  ⟨hc, fun fuel cs x h => by
    obtain ⟨s, rfl, _, hs⟩ := DataW.trod_string hu h
    exact ⟨s, rfl, hs⟩⟩
theorem list_of {α : Type} {n : Nat} {R : Nat → α → Prop} (h : ∀ i, i < n → ∃ a, R i a) : ∃ xs : List α, xs.length = n ∧ ∀ (i : Nat) (a : α), xs[i]? = some a → R i a := by
  induction n with
  | zero => exact ⟨[], rfl, fun i a h => by simp at h⟩
  | succ n ih =>
    obtain ⟨xs, hl, hx⟩ := ih (fun i hi => h i (by omega))
    obtain ⟨a, ha⟩ := h n (by omega)
    refine ⟨xs ++ [a], by simp [hl], fun i b hb => ?_⟩
    rcases Nat.lt_or_ge i n with hi | hi
    · rw [List.getElem?_append_left (by omega)] at hb
      exact hx i b hb
    · have he : i = n := by
        rcases Nat.lt_or_ge i (n + 1) with h2 | h2
        · omega
        · rw [List.getElem?_eq_none (by simp; omega)] at hb; cases hb
      subst he
      rw [List.getElem?_append_right (by omega), hl, Nat.sub_self] at hb
      cases hb
      exact ha
theorem opn_slice {t e : TypeId} {α : Type} {d : Kd α} {Q : α → Prop} (hu : P.underlying t = some (.slice e)) (hc : P.cellsOf t = 1) (h : Opn enc P w d e Q) :
    Opn enc P w (Kd.slice e d) t (fun xs => xs.length ≤ maxLen ∧ ∀ x ∈ xs, Q x) :=
  ⟨hc, fun fuel cs x hx => by
    rcases Deep.open_slice hu hx with ⟨rfl, _⟩ | ⟨a, len, cap, m, n, D, Pl, rfl, hb, hl, hm, hmm, _, hel⟩
    · exact ⟨[], ⟨none, 0, rfl, Nat.le_refl _, rfl, by simp, fun h0 => absurd h0 (by simp)⟩, by simp, by simp⟩
    · have hlm : len ≤ m := by rw [hmm]; simp; omega
      obtain ⟨xs, hxl, hxs⟩ := list_of (α := α) (n := len) (R := fun i y => ∃ cs', w.cells? 0 (a.add (i * P.cellsOf e)) (P.cellsOf e) = some cs' ∧ d.K w y cs' ∧ Q y) (fun i hi => by
        obtain ⟨cs', h1, h2⟩ := hel i (by omega)
        obtain ⟨y, hy, hq⟩ := h.reads _ _ _ h2
        exact ⟨y, cs', h1, hy, hq⟩)
      have hmx : len ≤ 9223372036854775807 := by simp only [maxLen] at hm; omega
      refine ⟨xs, ⟨some a, cap, by rw [hxl], by omega, rfl, by omega, fun _ => ⟨a, rfl, fun j p hj => ?_⟩⟩, by rw [hxl]; omega, fun y hy => ?_⟩
      · obtain ⟨cs', h1, h2, _⟩ := hxs j p hj
        refine ⟨cs', d.K_len h2, h2, fun i u hi => ?_⟩
        unfold World.cells? at h1
        rw [if_pos (Nat.zero_le _)] at h1
        have hlen := mapM_some_length h1
        rw [List.length_range] at hlen
        have hil : i < cs'.length := (List.getElem?_eq_some_iff.1 hi).1
        have := mapM_some_get h1 i i (by rw [List.getElem?_range (by omega)])
        rw [Addr.add_add] at this
        rw [← h.cells]
        exact this.trans hi
      · obtain ⟨i, hi⟩ := List.getElem?_of_mem hy
        obtain ⟨_, _, _, hq⟩ := hxs i y hi
        exact hq⟩
/-- A struct's fields one by one: field i's cells, and what they are. -/
theorem opn_fields {t : TypeId} {fs : Array Field} (hu : P.underlying t = some (.struct fs)) {fuel : Nat} {cs : List Value} {x : DataW H × List MemPlace} (h : DataW.trod enc P w 0 (fun _ => true) true fuel t cs = some x) :
    cs.length = P.cellsOf t ∧ ∀ (i : Nat) (f : Field) {α : Type} {d : Kd α} {Q : α → Prop}, fs[i]? = some f → Opn enc P w d f.type Q → ∃ a, d.K w a ((cs.drop f.offset).take d.sz) ∧ Q a := by
  obtain ⟨xs, n, _, _, hl, hn, hx⟩ := DataW.trod_struct hu h
  refine ⟨hl, fun i f α d Q hf hd => ?_⟩
  have hi : i < xs.length := by rw [hn]; exact (Array.getElem?_eq_some_iff.1 hf).1
  have h1 := hx i f hf
  rw [List.getElem?_eq_getElem hi, hd.cells] at h1
  exact hd.reads _ _ _ h1
theorem cut_two {cs : List Value} {a b : Nat} : cs.drop a = (cs.drop a).take b ++ cs.drop (a + b) := by
  rw [← List.drop_drop, List.take_append_drop]
theorem take_all {cs : List Value} {a b : Nat} (h : cs.length = a + b) : (cs.drop a).take b = cs.drop a := List.take_of_length_le (by rw [List.length_drop]; omega)
end
end Go.Proofs.YthcijamlaeeonaaDoor
