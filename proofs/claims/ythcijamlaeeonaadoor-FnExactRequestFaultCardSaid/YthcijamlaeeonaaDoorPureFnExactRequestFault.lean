/- What printed functions come to when there are rounds enough. Requests: the specification's RequestFault is the program's. Requests: what the laws' sizes, copies and comparisons come to. FnExactRequestFault: what is left of the law, over numbers and lists. Conditions: those that each theorem states. -/
import Derived.IntWalk
import Derived.Test.YthcijamlaeeonaaDoorQAx0
import Derived.Test.YthcijamlaeeonaaDoorEimplRequestFault
import Derived.Test.YthcijamlaeeonaaDoorQAxlawsszRequest
import Derived.Test.YthcijamlaeeonaaDoorQAxlawstoRequest
import Derived.Test.YthcijamlaeeonaaDoorQAxlawseqRequest
import Derived.Test.YthcijamlaeeonaaDoorGateFnExactRequestFault
namespace Go.Proofs.YthcijamlaeeonaaDoor.QA
open Go.RowKit Go.Proofs.YthcijamlaeeonaaDoorW.PrintWords Go.Proofs.YthcijamlaeeonaaDoorW.PrintLast
set_option linter.unusedVariables false
set_option linter.unusedSimpArgs false

theorem w64n {n : Int} (h0 : -9223372036854775808 ≤ n) (h1 : n ≤ 9223372036854775807) : wrap64 n = n := (i64_w _).symm.trans (IntWalk.i64_in _ (by omega))
theorem leO_more {α : Type} {F : Nat → Option α} (hm : ∀ k, LeO (F k) (F (k + 1))) {k : Nat} {r : α} (h : F k = some r) : ∀ n, F (k + n) = some r
  | 0 => h
  | n + 1 => hm (k + n) r (leO_more hm h n)
theorem leO_ge {α : Type} {F : Nat → Option α} (hm : ∀ k, LeO (F k) (F (k + 1))) {k k' : Nat} {r : α} (h : F k = some r) (hk : k ≤ k') : F k' = some r := by
  have := leO_more hm h (k' - k)
  rwa [Nat.add_sub_cancel' hk] at this
/-- From some fuel on it is r. -/
def Evn {α : Type} (F : Nat → Option α) (r : α) : Prop := ∃ k0, ∀ k, k0 ≤ k → F k = some r
namespace Evn
variable {α β : Type} {F G : Nat → Option α} {r : α}
theorem const (r : α) : Evn (fun _ => some r) r := ⟨0, fun _ _ => rfl⟩
theorem step (h : Evn G r) (hs : ∀ k, F (k + 1) = G k) : Evn F r := by
  obtain ⟨k0, h⟩ := h
  exact ⟨k0 + 1, fun k hk => by obtain ⟨k', rfl⟩ : ∃ k', k = k' + 1 := ⟨k - 1, by omega⟩; rw [hs]; exact h k' (by omega)⟩
theorem of_eq (h : Evn G r) (hs : ∀ k, F k = G k) : Evn F r := by
  obtain ⟨k0, h⟩ := h
  exact ⟨k0, fun k hk => by rw [hs]; exact h k hk⟩
theorem bind {a : α} {H : α → Nat → Option β} {b : β} (h : Evn F a) (h2 : Evn (H a) b) : Evn (fun k => (F k).bind fun t => H t k) b := by
  obtain ⟨k0, h⟩ := h
  obtain ⟨k1, h2⟩ := h2
  exact ⟨k0 + k1, fun k hk => by show (F k).bind _ = _; rw [h k (by omega), Option.bind_some]; exact h2 k (by omega)⟩
theorem ge (k0 : Nat) (h : ∀ k, k0 ≤ k → F k = some r) : Evn F r := ⟨k0, h⟩
theorem one (h : Evn F r) : ∃ k, F k = some r := ⟨h.choose, h.choose_spec _ (Nat.le_refl _)⟩
end Evn
theorem wn (n : Nat) (h : n ≤ 9223372036854775807) : wrap64 (n : Int) = (n : Int) := w64n (by omega) (by omega)
theorem wn1 (n : Nat) (h : n < 9223372036854775807) : wrap64 ((n : Int) + 1) = ((n + 1 : Nat) : Int) := by rw [w64n (by omega) (by omega)]; omega
theorem bind_step {α β : Type} {x : Option α} {v : α} {f : α → Option β} {r : Option β} (h : x = some v) (h2 : f v = r) : x.bind f = r := by rw [h]; exact h2
theorem if_yes {α : Type} {Y : Option α} {p : Prop} [Decidable p] {X Z : Option α} (hp : p) (hX : X = Y) : (if p then X else Z) = Y := by rw [if_pos hp]; exact hX
theorem if_no {α : Type} {Y : Option α} {p : Prop} [Decidable p] {X Z : Option α} (hp : ¬ p) (hX : X = Y) : (if p then Z else X) = Y := by rw [if_neg hp]; exact hX
end Go.Proofs.YthcijamlaeeonaaDoor.QA
namespace Go.Proofs.YthcijamlaeeonaaDoor.QA
open Go.RowKit Go.Proofs.YthcijamlaeeonaaDoorW.PrintWords Go.Proofs.YthcijamlaeeonaaDoorW.PrintLast Go.Proofs.YthcijamlaeeonaaDoorW.PrintMore
set_option linter.unusedVariables false
set_option linter.unusedSimpArgs false

theorem made_false {p : Int → Bool} {lo hi : Int} {s : ByteArray} {i : Nat} (hi' : i < s.size) (h : p (bt s (i : Int)) = false) : madeB p lo hi s = false := by
  unfold madeB
  rw [allTo_false hi' h]
  split <;> rfl
theorem made_end {p : Int → Bool} {lo hi : Int} {s : ByteArray} (h : allTo p s s.size = true) : madeB p lo hi s = (decide (lo ≤ (s.size : Int)) && decide ((s.size : Int) ≤ hi)) := by
  unfold madeB
  rw [h]
  by_cases h1 : lo ≤ (s.size : Int)
  · by_cases h2 : (s.size : Int) ≤ hi
    · rw [if_neg (by omega), decide_eq_true h1, decide_eq_true h2]; rfl
    · rw [if_pos (by omega), decide_eq_true h1, decide_eq_false h2]; rfl
  · rw [if_pos (by omega), decide_eq_false h1]; rfl
theorem allTo_step {p : Int → Bool} {s : ByteArray} {i : Nat} (h : allTo p s i = true) (hq : p (bt s (i : Int)) = true) : allTo p s (i + 1) = true := by rw [allTo_succ, h, hq]; rfl

theorem method_l0 (s : ByteArray) (hs : s.size ≤ 1000000000) : ∀ d i : Nat, i + d = s.size → allTo capB s i = true → Evn (fun k => spec_l10Method.l0 k s (i : Int)) (madeB capB 1 10 s)
  | 0, i, hi, ha => by
    obtain rfl : i = s.size := by omega
    refine (Evn.const _).step fun k => ?_
    rw [spec_l10Method.l0, if_neg (by omega), made_end ha]
    by_cases h1 : (s.size : Int) ≥ 1
    · rw [if_pos h1, decide_eq_true (show (1 : Int) ≤ (s.size : Int) from h1)]; simp
    · rw [if_neg h1, decide_eq_false (show ¬ (1 : Int) ≤ (s.size : Int) from h1)]; rfl
  | d + 1, i, hi, ha => by
    by_cases h1 : bt s (i : Int) < 65
    · refine (Evn.const _).step fun k => ?_
      rw [spec_l10Method.l0, if_pos (by omega), if_pos (by omega), if_pos h1, made_false (i := i) (by omega) (by unfold capB; rw [decide_eq_false (by omega)]; rfl)]
    · by_cases h2 : bt s (i : Int) > 90
      · refine (Evn.const _).step fun k => ?_
        rw [spec_l10Method.l0, if_pos (by omega), if_pos (by omega), if_neg h1, if_pos h2, made_false (i := i) (by omega) (by unfold capB; rw [decide_eq_false (show ¬ bt s (i : Int) ≤ 90 by omega)]; simp)]
      · have ih := method_l0 s hs d (i + 1) (by omega) (allTo_step ha (by unfold capB; rw [decide_eq_true (show bt s (i : Int) ≥ 65 by omega), decide_eq_true (show bt s (i : Int) ≤ 90 by omega)]; rfl))
        refine ih.step fun k => ?_
        rw [spec_l10Method.l0, if_pos (by omega), if_pos (by omega), if_neg h1, if_neg h2, wn1 i (by omega)]
theorem method_ev (s : ByteArray) (hs : s.size ≤ 1000000000) : Evn (fun k => spec_l10Method.f k s) (madeB capB 1 10 s) := (method_l0 s hs s.size 0 (by omega) rfl).of_eq fun _ => rfl
theorem name_round (k : Nat) (s : ByteArray) (i : Nat) (hi : i < s.size) (hs : s.size ≤ 1000000000) : spec_l10Name.l0 (k + 1) s (i : Int) = if hdrB (bt s (i : Int)) = true then spec_l10Name.l0 k s ((i + 1 : Nat) : Int) else some false := by
  rw [spec_l10Name.l0, if_pos (by omega), if_pos (by omega), wn1 i (by omega)]
  generalize bt s (i : Int) = c
  generalize spec_l10Name.l0 k s ((i + 1 : Nat) : Int) = X
  unfold hdrB plnB
  by_cases h1 : c ≥ 97
  · by_cases h2 : c ≤ 122
    · simp [h1, h2]
    · have h3 : c ≥ 48 := by omega
      have h4 : ¬ c ≤ 57 := by omega
      have h5 : ¬ c = 45 := by omega
      simp [h1, h2, h3, h4, h5]
  · by_cases h3 : c ≥ 48
    · by_cases h4 : c ≤ 57
      · simp [h1, h3, h4]
      · have h5 : ¬ c = 45 := by omega
        simp [h1, h3, h4, h5]
    · by_cases h5 : c = 45
      · subst h5; simp
      · simp [h1, h3, h5]
theorem name_l0 (s : ByteArray) (hs : s.size ≤ 1000000000) : ∀ d i : Nat, i + d = s.size → allTo hdrB s i = true → Evn (fun k => spec_l10Name.l0 k s (i : Int)) (madeB hdrB 1 60 s && !(s.toList == [108, 101, 110, 103, 116, 104]))
  | 0, i, hi, ha => by
    obtain rfl : i = s.size := by omega
    refine (Evn.const _).step fun k => ?_
    rw [spec_l10Name.l0, if_neg (by omega), made_end ha]
    by_cases h1 : (s.size : Int) ≥ 1
    · rw [if_pos h1, decide_eq_true (show (1 : Int) ≤ (s.size : Int) from h1)]
      by_cases h2 : (s.size : Int) ≤ 60
      · rw [if_pos h2, decide_eq_true h2]; rfl
      · rw [if_neg h2, decide_eq_false h2]; rfl
    · rw [if_neg h1, decide_eq_false (show ¬ (1 : Int) ≤ (s.size : Int) from h1)]; rfl
  | d + 1, i, hi, ha => by
    cases hq : hdrB (bt s (i : Int)) with
    | false =>
      refine (Evn.const _).step fun k => ?_
      rw [name_round k s i (by omega) hs, hq, if_neg (by decide), made_false (i := i) (by omega) hq]; rfl
    | true =>
      refine (name_l0 s hs d (i + 1) (by omega) (allTo_step ha hq)).step fun k => ?_
      rw [name_round k s i (by omega) hs, hq, if_pos rfl]
theorem name_ev (s : ByteArray) (hs : s.size ≤ 1000000000) : Evn (fun k => spec_l10Name.f k s) (madeB hdrB 1 60 s && !(s.toList == [108, 101, 110, 103, 116, 104])) := (name_l0 s hs s.size 0 (by omega) rfl).of_eq fun _ => rfl
theorem value_l0 (s : ByteArray) (hs : s.size ≤ 1000000000) : ∀ d i : Nat, i + d = s.size → allTo prtB s i = true → Evn (fun k => spec_l10Value.l0 k s (i : Int)) (valB s)
  | 0, i, hi, ha => by
    obtain rfl : i = s.size := by omega
    refine (Evn.const _).step fun k => ?_
    unfold valB
    rw [spec_l10Value.l0, if_neg (by omega), made_end ha, decide_eq_true (show (0 : Int) ≤ (s.size : Int) by omega), Bool.true_and]
    by_cases h1 : (s.size : Int) ≤ 1000
    · rw [if_pos h1, decide_eq_true h1, Bool.true_and]
      unfold edgeB
      by_cases h0 : s.size = 0
      · have : s.toList = [] := by rw [ByteArray.toList_eq]; exact List.eq_nil_of_length_eq_zero (by rw [Array.length_toList]; exact h0)
        rw [if_pos this, decide_eq_true h0]; rfl
      · have hne : ¬ s.toList = [] := fun h => h0 (by rw [ByteArray.toList_eq] at h; have := congrArg List.length h; rw [Array.length_toList] at this; exact this)
        have e1 : wrap64 ((s.size : Int) - 1) = ((s.size - 1 : Nat) : Int) := by rw [w64n (by omega) (by omega)]; omega
        rw [if_neg hne, if_pos (by omega), decide_eq_false h0, Bool.false_or, e1, if_pos (show 0 ≤ ((s.size - 1 : Nat) : Int) from Int.natCast_nonneg _), if_pos (show ((s.size - 1 : Nat) : Int) < (s.size : Int) from Int.ofNat_lt.2 (Nat.sub_lt (Nat.pos_of_ne_zero h0) Nat.one_pos))]
        by_cases h2 : bt s 0 = 32
        · rw [if_pos h2, h2]; rfl
        · rw [if_neg h2]
          have : (bt s 0 != 32) = true := by simpa using h2
          rw [this, Bool.true_and]
    · rw [if_neg h1, decide_eq_false h1]; rfl
  | d + 1, i, hi, ha => by
    by_cases h1 : bt s (i : Int) < 32
    · refine (Evn.const _).step fun k => ?_
      unfold valB
      rw [spec_l10Value.l0, if_pos (by omega), if_pos (by omega), if_pos h1, made_false (i := i) (by omega) (by unfold prtB; rw [decide_eq_false (by omega)]; rfl)]; rfl
    · by_cases h2 : bt s (i : Int) > 126
      · refine (Evn.const _).step fun k => ?_
        unfold valB
        rw [spec_l10Value.l0, if_pos (by omega), if_pos (by omega), if_neg h1, if_pos h2, made_false (i := i) (by omega) (by unfold prtB; rw [decide_eq_false (show ¬ bt s (i : Int) ≤ 126 by omega)]; simp)]; rfl
      · refine (value_l0 s hs d (i + 1) (by omega) (allTo_step ha (by unfold prtB; rw [decide_eq_true (show bt s (i : Int) ≥ 32 by omega), decide_eq_true (show bt s (i : Int) ≤ 126 by omega)]; rfl))).step fun k => ?_
        rw [spec_l10Value.l0, if_pos (by omega), if_pos (by omega), if_neg h1, if_neg h2, wn1 i (by omega)]
theorem value_ev (s : ByteArray) (hs : s.size ≤ 1000000000) : Evn (fun k => spec_l10Value.f k s) (valB s) := (value_l0 s hs s.size 0 (by omega) rfl).of_eq fun _ => rfl

/-! ### different names -/
def difTo (l : List S38) (n : Nat) : Bool := (List.range n).all fun i => !hasTo l i (nmOf l i)
def difB (l : List S38) : Bool := difTo l l.length && decide ((l.length : Int) ≤ 30)
theorem difTo_succ (l : List S38) (n : Nat) : difTo l (n + 1) = (difTo l n && !hasTo l n (nmOf l n)) := by
  unfold difTo; rw [List.range_succ, List.all_append]; simp
theorem difTo_false {l : List S38} {i n : Nat} (hi : i < n) (h : hasTo l i (nmOf l i) = true) : difTo l n = false := by
  unfold difTo
  rw [List.all_eq_false]
  exact ⟨i, List.mem_range.2 hi, by rw [h]; decide⟩
theorem hasTo_succ (l : List S38) (i : Nat) (k : List UInt8) : hasTo l (i + 1) k = (hasTo l i k || nmOf l i == k) := by
  unfold hasTo; rw [List.range_succ, List.any_append]; simp
theorem hasTo_true {l : List S38} {i j : Nat} {k : List UInt8} (hj : j < i) (h : nmOf l j = k) : hasTo l i k = true := by
  unfold hasTo
  rw [List.any_eq_true]
  exact ⟨j, List.mem_range.2 hj, by rw [h]; simp⟩
theorem nm_eq (l : List S38) (i j : Nat) : ((rd_T38 l (i : Int)).f0.toList = (rd_T38 l (j : Int)).f0.toList) = (nmOf l i = nmOf l j) := by
  unfold nmOf; rw [ByteArray.toList_eq, ByteArray.toList_eq]
theorem dif_l1 (l : List S38) (hl : l.length ≤ 1000000000) (i : Nat) (hi : i < l.length) (r : Bool) (h0 : hasTo l i (nmOf l i) = false → Evn (fun k => spec_l10Different.l0 k l ((i + 1 : Nat) : Int)) r) (h1 : hasTo l i (nmOf l i) = true → r = false) :
    ∀ d j : Nat, j + d = i → hasTo l j (nmOf l i) = false → Evn (fun k => spec_l10Different.l1 k l (i : Int) (j : Int)) r
  | 0, j, hj, hh => by
    obtain rfl : j = i := by omega
    refine (h0 hh).step fun k => ?_
    rw [spec_l10Different.l1, if_neg (by omega), wn1 j (by omega)]
  | d + 1, j, hj, hh => by
    by_cases he : nmOf l i = nmOf l j
    · have := h1 (hasTo_true (show j < i by omega) he.symm)
      subst this
      refine (Evn.const _).step fun k => ?_
      rw [spec_l10Different.l1, if_pos (by omega), if_pos (by omega), if_pos (by omega), if_pos (by omega), if_pos (by omega), if_pos (by rw [nm_eq]; exact he)]
    · refine (dif_l1 l hl i hi r h0 h1 d (j + 1) (by omega) (by rw [hasTo_succ, hh]; simpa using fun e => he e.symm)).step fun k => ?_
      rw [spec_l10Different.l1, if_pos (by omega), if_pos (by omega), if_pos (by omega), if_pos (by omega), if_pos (by omega), if_neg (by rw [nm_eq]; exact he), wn1 j (by omega)]
theorem dif_l0 (l : List S38) (hl : l.length ≤ 1000000000) : ∀ d i : Nat, i + d = l.length → difTo l i = true → Evn (fun k => spec_l10Different.l0 k l (i : Int)) (difB l)
  | 0, i, hi, ha => by
    obtain rfl : i = l.length := by omega
    refine (Evn.const _).step fun k => ?_
    unfold difB
    rw [spec_l10Different.l0, if_neg (by omega), ha, Bool.true_and]
  | d + 1, i, hi, ha => by
    have hin := dif_l1 l hl i (by omega) (difB l) (fun hh => dif_l0 l hl d (i + 1) (by omega) (by rw [difTo_succ, ha, hh]; rfl)) (fun hh => by unfold difB; rw [difTo_false (show i < l.length by omega) hh]; rfl) i 0 (by omega) rfl
    refine hin.step fun k => ?_
    rw [spec_l10Different.l0, if_pos (by omega)]
    rfl
theorem dif_ev (l : List S38) (hl : l.length ≤ 1000000000) : Evn (fun k => spec_l10Different.f k l) (difB l) := (dif_l0 l hl l.length 0 (by omega) rfl).of_eq fun _ => rfl
end Go.Proofs.YthcijamlaeeonaaDoor.QA
namespace Go.Proofs.YthcijamlaeeonaaDoor.QA
open Go.RowKit Go.Proofs.YthcijamlaeeonaaDoorW.PrintWords Go.Proofs.YthcijamlaeeonaaDoorW.PrintLast Go.Proofs.YthcijamlaeeonaaDoorW.PrintMore
/-! ### RequestFault -/
def allP (p : ByteArray → ByteArray → Bool) (l : List S38) (n : Nat) : Bool := (List.range n).all fun i => p (rd_T38 l (i : Int)).f0 (rd_T38 l (i : Int)).f1
theorem allP_succ (p : ByteArray → ByteArray → Bool) (l : List S38) (n : Nat) : allP p l (n + 1) = (allP p l n && p (rd_T38 l (n : Int)).f0 (rd_T38 l (n : Int)).f1) := by
  unfold allP; rw [List.range_succ, List.all_append]; simp
theorem allP_false {p : ByteArray → ByteArray → Bool} {l : List S38} {i n : Nat} (hi : i < n) (h : p (rd_T38 l (i : Int)).f0 (rd_T38 l (i : Int)).f1 = false) : allP p l n = false := by
  unfold allP
  rw [List.all_eq_false]
  exact ⟨i, List.mem_range.2 hi, by rw [h]; decide⟩
theorem okTo_parts (p : ByteArray → ByteArray → Bool) (l : List S38) : ∀ n, okTo p l n = (allP p l n && difTo l n)
  | 0 => rfl
  | n + 1 => by
    rw [okTo_succ, allP_succ, difTo_succ, okTo_parts p l n]
    cases allP p l n <;> cases difTo l n <;> cases p (rd_T38 l (n : Int)).f0 (rd_T38 l (n : Int)).f1 <;> rfl
theorem pairsB_parts (p : ByteArray → ByteArray → Bool) (l : List S38) : pairsB p l = (allP p l l.length && difB l) := by
  unfold pairsB difB
  rw [okTo_parts, Bool.and_assoc]
theorem queryB_val (n v : ByteArray) : queryB n v = (decide (1 ≤ (n.size : Int)) && (decide ((n.size : Int) ≤ 100) && decide ((v.size : Int) ≤ 1000))) := by
  have h := query_val n v
  unfold impl_isQuery.f at h
  by_cases h1 : (n.size : Int) ≥ 1
  · rw [if_pos h1] at h
    rw [decide_eq_true (show 1 ≤ (n.size : Int) from h1), Bool.true_and]
    by_cases h2 : (n.size : Int) ≤ 100
    · rw [if_pos h2] at h
      rw [decide_eq_true h2, Bool.true_and]
      exact (Option.some.inj h).symm
    · rw [if_neg h2] at h
      rw [decide_eq_false h2, Bool.false_and]
      exact (Option.some.inj h).symm
  · rw [if_neg h1] at h
    rw [decide_eq_false (show ¬ 1 ≤ (n.size : Int) from h1), Bool.false_and]
    exact (Option.some.inj h).symm
theorem ext01 (s : ByteArray) (h : 1 ≤ s.size) : ((s.extract 0 1).toList == (⟨#[47]⟩ : ByteArray).toList) = decide (bt s 0 = 47) := by
  rw [ByteArray.toList_eq, ByteArray.toList_eq, ByteArray.data_extract, Array.toList_extract]
  have hl : s.data.toList.length = s.size := by rw [Array.length_toList]; rfl
  have hb : bt s 0 = ((s[0]'(by omega)).toNat : Int) := by unfold bt; rw [dif_pos (show (0 : Int).toNat < s.size by simp; omega)]; rfl
  cases hd : s.data.toList with
  | nil => rw [hd] at hl; simp at hl; omega
  | cons a r =>
    have ha : s[0]'(by omega) = a := by
      have : s.data.toList[0]? = some a := by rw [hd]; rfl
      rw [Array.getElem?_toList] at this
      have h2 := Array.getElem?_eq_some_iff.1 this
      obtain ⟨_, h2⟩ := h2
      exact h2
    rw [hb, ha]
    simp [List.extract_eq_take_drop]
    rw [Bool.eq_iff_iff, decide_eq_true_iff]
    constructor
    · intro e
      have e := beq_iff_eq.1 e
      subst e; rfl
    · intro e
      rw [beq_iff_eq]
      apply UInt8.toNat_inj.1
      have : (a.toNat : Int) = 47 := e
      simpa using (by omega : a.toNat = 47)
theorem pathB_val (s : ByteArray) : pathB s = (decide (1 ≤ (s.size : Int)) && (decide ((s.size : Int) ≤ 1000) && decide (bt s 0 = 47))) := by
  have h := path_val s
  unfold impl_isPath.f strings_HasPrefix.f stringslite_HasPrefix.f at h
  have e : (((⟨#[47]⟩ : ByteArray).size : Nat) : Int) = 1 := rfl
  rw [e] at h
  by_cases h1 : (s.size : Int) ≤ 1000
  · rw [if_pos h1] at h
    rw [decide_eq_true h1, Bool.true_and]
    by_cases h2 : (s.size : Int) ≥ 1
    · rw [if_pos h2, if_pos (by omega), if_pos (by omega)] at h
      rw [decide_eq_true (show 1 ≤ (s.size : Int) from h2), Bool.true_and, ← ext01 s (by omega)]
      exact (Option.some.inj h).symm
    · rw [if_neg h2] at h
      rw [decide_eq_false (show ¬ 1 ≤ (s.size : Int) from h2), Bool.false_and]
      exact (Option.some.inj h).symm
  · rw [if_neg h1] at h
    rw [decide_eq_false h1, Bool.false_and, Bool.and_false]
    exact (Option.some.inj h).symm
theorem headB_val (n v : ByteArray) : headB n v = ((madeB hdrB 1 60 n && !(n.toList == [108, 101, 110, 103, 116, 104])) && valB v) := rfl
section
variable (m p : ByteArray) (q h : List S38) (b : ByteArray)
def smS (l : List S38) : Prop := l.length ≤ 1000000000 ∧ ∀ i : Nat, i < l.length → (rd_T38 l (i : Int)).f0.size ≤ 1000000000 ∧ (rd_T38 l (i : Int)).f1.size ≤ 1000000000
theorem req_l1 (hh : smS h) : ∀ d i : Nat, i + d = h.length → allP headB h i = true → Evn (fun k => spec_RequestFault.l1 k (i : Int) m p q h b) (if allP headB h h.length = true then 0 else 1)
  | 0, i, hi, ha => by
    obtain rfl : i = h.length := by omega
    refine (Evn.const _).step fun k => ?_
    rw [spec_RequestFault.l1, if_neg (by omega), ha]; rfl
  | d + 1, i, hi, ha => by
    have hl := hh.1
    obtain ⟨s1, s2⟩ := hh.2 i (by omega)
    have hn := name_ev (rd_T38 h (i : Int)).f0 s1
    have hv := value_ev (rd_T38 h (i : Int)).f1 s2
    have hval := headB_val (rd_T38 h (i : Int)).f0 (rd_T38 h (i : Int)).f1
    cases e1 : (madeB hdrB 1 60 (rd_T38 h (i : Int)).f0 && !((rd_T38 h (i : Int)).f0.toList == [108, 101, 110, 103, 116, 104])) with
    | false =>
      rw [e1] at hn hval
      have hf : allP headB h h.length = false := allP_false (show i < h.length by omega) (by rw [hval]; rfl)
      refine (Evn.bind (H := fun t k => if t = true then ((spec_l10Value.f k ((rd_T38 h (i : Int)).f1)).bind fun t119 => (if t119 = true then (spec_RequestFault.l1 k ((i + 1 : Nat) : Int) m p q h b) else (some 1))) else (some 1)) hn (b := if allP headB h h.length = true then 0 else 1) (by rw [hf]; exact (Evn.const _).of_eq fun _ => rfl)).step fun k => ?_
      rw [spec_RequestFault.l1, if_pos (by omega), if_pos (by omega), wn1 i (by omega)]
    | true =>
      rw [e1] at hn hval
      cases e2 : valB (rd_T38 h (i : Int)).f1 with
      | false =>
        rw [e2] at hv hval
        have hf : allP headB h h.length = false := allP_false (show i < h.length by omega) (by rw [hval]; rfl)
        refine (Evn.bind (H := fun t k => if t = true then ((spec_l10Value.f k ((rd_T38 h (i : Int)).f1)).bind fun t119 => (if t119 = true then (spec_RequestFault.l1 k ((i + 1 : Nat) : Int) m p q h b) else (some 1))) else (some 1)) hn (b := if allP headB h h.length = true then 0 else 1)
          ((Evn.bind (H := fun t k => if t = true then (spec_RequestFault.l1 k ((i + 1 : Nat) : Int) m p q h b) else (some 1)) hv (b := if allP headB h h.length = true then 0 else 1) (by rw [hf]; exact (Evn.const _).of_eq fun _ => rfl)).of_eq fun _ => rfl)).step fun k => ?_
        rw [spec_RequestFault.l1, if_pos (by omega), if_pos (by omega), wn1 i (by omega)]
      | true =>
        rw [e2] at hv hval
        have ih := req_l1 hh d (i + 1) (by omega) (by rw [allP_succ, ha, hval]; rfl)
        refine (Evn.bind (H := fun t k => if t = true then ((spec_l10Value.f k ((rd_T38 h (i : Int)).f1)).bind fun t119 => (if t119 = true then (spec_RequestFault.l1 k ((i + 1 : Nat) : Int) m p q h b) else (some 1))) else (some 1)) hn (b := if allP headB h h.length = true then 0 else 1)
          ((Evn.bind (H := fun t k => if t = true then (spec_RequestFault.l1 k ((i + 1 : Nat) : Int) m p q h b) else (some 1)) hv (b := if allP headB h h.length = true then 0 else 1) (ih.of_eq fun _ => rfl)).of_eq fun _ => rfl)).step fun k => ?_
        rw [spec_RequestFault.l1, if_pos (by omega), if_pos (by omega), wn1 i (by omega)]
theorem req_l0 (hq : smS q) (hh : smS h) : ∀ d i : Nat, i + d = q.length → allP queryB q i = true → Evn (fun k => spec_RequestFault.l0 k (i : Int) m p q h b) (if (allP queryB q q.length && allP headB h h.length) = true then 0 else 1)
  | 0, i, hi, ha => by
    obtain rfl : i = q.length := by omega
    rw [ha, Bool.true_and]
    refine (req_l1 m p q h b hh h.length 0 (by omega) rfl).step fun k => ?_ 
    rw [spec_RequestFault.l0, if_neg (by omega)]
    rfl
  | d + 1, i, hi, ha => by
    have hl := hq.1
    have hval := queryB_val (rd_T38 q (i : Int)).f0 (rd_T38 q (i : Int)).f1
    have hbad : queryB (rd_T38 q (i : Int)).f0 (rd_T38 q (i : Int)).f1 = false → (allP queryB q q.length && allP headB h h.length) = false := fun e => by
      rw [allP_false (show i < q.length by omega) e]; rfl
    by_cases h1 : ((rd_T38 q (i : Int)).f0.size : Int) < 1
    · rw [hbad (by rw [hval, decide_eq_false (by omega)]; rfl)]
      refine (Evn.const _).step fun k => ?_
      rw [spec_RequestFault.l0, if_pos (by omega), if_pos (by omega), if_pos h1]; rfl
    · by_cases h2 : ((rd_T38 q (i : Int)).f0.size : Int) > 100
      · rw [hbad (by rw [hval, decide_eq_false (show ¬ ((rd_T38 q (i : Int)).f0.size : Int) ≤ 100 by omega)]; simp)]
        refine (Evn.const _).step fun k => ?_
        rw [spec_RequestFault.l0, if_pos (by omega), if_pos (by omega), if_neg h1, if_pos h2]; rfl
      · by_cases h3 : ((rd_T38 q (i : Int)).f1.size : Int) > 1000
        · rw [hbad (by rw [hval, decide_eq_false (show ¬ ((rd_T38 q (i : Int)).f1.size : Int) ≤ 1000 by omega)]; simp)]
          refine (Evn.const _).step fun k => ?_
          rw [spec_RequestFault.l0, if_pos (by omega), if_pos (by omega), if_neg h1, if_neg h2, if_pos h3]; rfl
        · have ih := req_l0 hq hh d (i + 1) (by omega) (by rw [allP_succ, ha, hval, decide_eq_true (show 1 ≤ ((rd_T38 q (i : Int)).f0.size : Int) by omega), decide_eq_true (show ((rd_T38 q (i : Int)).f0.size : Int) ≤ 100 by omega), decide_eq_true (show ((rd_T38 q (i : Int)).f1.size : Int) ≤ 1000 by omega)]; rfl)
          refine ih.step fun k => ?_
          rw [spec_RequestFault.l0, if_pos (by omega), if_pos (by omega), if_neg h1, if_neg h2, if_neg h3, wn1 i (by omega)]
theorem req_bad (k : Nat) : spec_RequestFault.j0 (k + 1) true m p q h b = some 1 := by rw [spec_RequestFault.j0, if_pos rfl]
theorem req_ev (hm : m.size ≤ 1000000000) (hq : smS q) (hh : smS h) : Evn (fun k => spec_RequestFault.f k m p q h b) (faultI m p q h b) := by
  have e0 : faultI m p q h b = if (madeB capB 1 10 m && (pathB p && (difB q && (difB h && (decide ((b.size : Int) ≤ 100000) && (allP queryB q q.length && allP headB h h.length)))))) = true then 0 else 1 := by
    unfold faultI reqB
    rw [pairsB_parts, pairsB_parts]
    cases madeB capB 1 10 m <;> cases pathB p <;> cases difB q <;> cases difB h <;> cases decide ((b.size : Int) ≤ 100000) <;> cases allP queryB q q.length <;> cases allP headB h h.length <;> rfl
  rw [e0]
  have hM := method_ev m hm
  have hQ := dif_ev q hq.1
  have hH := dif_ev h hh.1
  have hJ : ∀ X : Bool, Evn (fun k => spec_RequestFault.j0 k true m p q h b) 1 := fun _ => (Evn.const _).step fun k => req_bad m p q h b k
  have hB : Evn (fun k => spec_RequestFault.j0 k (decide ((b.size : Int) > 100000)) m p q h b) (if (decide ((b.size : Int) ≤ 100000) && (allP queryB q q.length && allP headB h h.length)) = true then 0 else 1) := by
    by_cases h1 : (b.size : Int) > 100000
    · rw [decide_eq_true h1, decide_eq_false (show ¬ (b.size : Int) ≤ 100000 by omega), Bool.false_and]
      exact hJ true
    · rw [decide_eq_false h1, decide_eq_true (show (b.size : Int) ≤ 100000 by omega), Bool.true_and]
      exact (req_l0 m p q h b hq hh q.length 0 (by omega) rfl).step fun k => by rw [spec_RequestFault.j0, if_neg (by decide)]; rfl
  have hPV := pathB_val p
  obtain ⟨ka, hM⟩ := hM
  obtain ⟨kb, hQ⟩ := hQ
  obtain ⟨kc, hH⟩ := hH
  obtain ⟨kd, hB⟩ := hB
  refine ⟨ka + kb + kc + kd + 1, fun k hk => ?_⟩
  obtain ⟨k, rfl⟩ : ∃ n, k = n + 1 := ⟨k - 1, by omega⟩
  have eM := hM (k + 1) (by omega)
  have eQ := hQ (k + 1) (by omega)
  have eH := hH (k + 1) (by omega)
  have eB := hB (k + 1) (by omega)
  have bad := req_bad m p q h b k
  simp only at eM eQ eH eB
  show spec_RequestFault.f (k + 1) m p q h b = _
  unfold spec_RequestFault.f
  refine bind_step eM ?_
  cases e1 : madeB capB 1 10 m with
  | false => rw [if_neg (by decide), bad]; rfl
  | true =>
    rw [if_pos rfl, Bool.true_and]
    by_cases h1 : (p.size : Int) < 1
    · rw [if_pos h1, bad, hPV, decide_eq_false (by omega)]; rfl
    rw [if_neg h1]
    by_cases h2 : (p.size : Int) > 1000
    · rw [if_pos h2, bad, hPV, decide_eq_false (show ¬ (p.size : Int) ≤ 1000 by omega), Bool.false_and, Bool.and_false]; rfl
    rw [if_neg h2, if_pos (by omega)]
    by_cases h3 : bt p 0 = 47
    · rw [if_pos h3]
      have hp1 : pathB p = true := by rw [hPV, decide_eq_true (show 1 ≤ (p.size : Int) by omega), decide_eq_true (show (p.size : Int) ≤ 1000 by omega), decide_eq_true h3]; rfl
      rw [hp1, Bool.true_and]
      by_cases h4 : (q.length : Int) > 30
      · have : difB q = false := by unfold difB; rw [decide_eq_false (show ¬ (q.length : Int) ≤ 30 by omega), Bool.and_false]
        rw [if_pos h4, bad, this]; rfl
      rw [if_neg h4]
      by_cases h5 : (h.length : Int) > 30
      · have : difB h = false := by unfold difB; rw [decide_eq_false (show ¬ (h.length : Int) ≤ 30 by omega), Bool.and_false]
        rw [if_pos h5, bad, this, Bool.false_and, Bool.and_false]; rfl
      rw [if_neg h5]
      refine bind_step eQ ?_
      cases e2 : difB q with
      | false => rw [if_neg (by decide), bad]; rfl
      | true =>
        rw [if_pos rfl, Bool.true_and]
        refine bind_step eH ?_
        cases e3 : difB h with
        | false => rw [if_neg (by decide), bad]; rfl
        | true =>
          rw [if_pos rfl, Bool.true_and]
          exact eB
    · have hp1 : pathB p = false := by rw [hPV, decide_eq_false h3, Bool.and_false, Bool.and_false]
      rw [if_neg h3, bad, hp1]; rfl
end
end Go.Proofs.YthcijamlaeeonaaDoor.QA
namespace Go.Proofs.YthcijamlaeeonaaDoor.QA
open Go.RowKit Go.Proofs.YthcijamlaeeonaaDoorW.PrintWords Go.Proofs.YthcijamlaeeonaaDoorW.PrintLast Go.Proofs.YthcijamlaeeonaaDoorW.PrintMore
set_option linter.unusedVariables false
set_option linter.unusedSimpArgs false

def BIG : Int := 9223372036854775807
/-- What is left of a size is no more than it was, and what was taken fits. -/
theorem sz_step (left : Int) (n : Nat) (h0 : 0 ≤ left) (h1 : left ≤ 1048576) (hn : (n : Int) ≤ 9223372036854775807) : wrap64 (left - (n : Int)) = left - (n : Int) := w64n (by omega) (by omega)
theorem rd47_mem (l : List S47) (i : Nat) (hi : i < l.length) : rd_T47 l (i : Int) ∈ l := by
  unfold rd_T47
  rw [Int.toNat_natCast, List.getD_eq_getElem?_getD, List.getElem?_eq_getElem hi]
  exact List.getElem_mem hi
theorem szPair_ex (a b : ByteArray) (left : Int) (h0 : 0 ≤ left) (h1 : left ≤ 1048576) (ha : (a.size : Int) ≤ 9223372036854775807) (hb : (b.size : Int) ≤ 9223372036854775807) :
    ∃ t, laws_szPair.f a b left = some t ∧ (t < 0 ∨ (0 ≤ t ∧ t ≤ left ∧ (a.size : Int) ≤ 1048576 ∧ (b.size : Int) ≤ 1048576)) := by
  unfold laws_szPair.f
  rw [sz_step left a.size h0 h1 ha]
  by_cases h2 : left - (a.size : Int) < 0
  · rw [if_pos h2]; exact ⟨-1, rfl, .inl (by omega)⟩
  · rw [if_neg h2, sz_step (left - (a.size : Int)) b.size (by omega) (by omega) hb]
    by_cases h3 : left - (a.size : Int) - (b.size : Int) < 0
    · rw [if_pos h3]; exact ⟨-1, rfl, .inl (by omega)⟩
    · rw [if_neg h3]; exact ⟨_, rfl, .inr (by omega)⟩
theorem szPairS_l0 (l : List S47) (hl : l.length ≤ 1048576) (hq : ∀ x ∈ l, (x.f0.size : Int) ≤ 9223372036854775807 ∧ (x.f1.size : Int) ≤ 9223372036854775807) :
    ∀ (d i : Nat) (left : Int), i + d = l.length → 0 ≤ left → left ≤ 1048576 → ∃ t, Evn (fun k => laws_szPairS.l0 k l left (i : Int)) t ∧ (t < 0 ∨ (0 ≤ t ∧ t ≤ left ∧ ∀ j, i ≤ j → j < l.length → ((rd_T47 l (j : Int)).f0.size : Int) ≤ 1048576 ∧ ((rd_T47 l (j : Int)).f1.size : Int) ≤ 1048576))
  | 0, i, left, hi, h0, h1 => by
    refine ⟨left, (Evn.const _).step fun k => ?_, .inr ⟨h0, Int.le_refl _, fun j a b => by omega⟩⟩
    rw [laws_szPairS.l0, if_neg (by omega)]
  | d + 1, i, left, hi, h0, h1 => by
    obtain ⟨q1, q2⟩ := hq _ (rd47_mem l i (by omega))
    obtain ⟨t, ht, hc⟩ := szPair_ex (rd_T47 l (i : Int)).f0 (rd_T47 l (i : Int)).f1 left h0 h1 q1 q2
    by_cases hneg : t < 0
    · refine ⟨-1, (Evn.const _).step fun k => ?_, .inl (by omega)⟩
      rw [laws_szPairS.l0, if_pos (by omega), if_pos (by omega)]
      exact bind_step ht (by rw [if_pos hneg])
    · obtain ⟨c0, c1, c2, c3⟩ := hc.resolve_left hneg
      obtain ⟨t', ht', hc'⟩ := szPairS_l0 l hl hq d (i + 1) t (by omega) c0 (by omega)
      refine ⟨t', ht'.step fun k => ?_, hc'.imp id fun ⟨a, b, c⟩ => ⟨a, by omega, fun j hj hjl => ?_⟩⟩
      · rw [laws_szPairS.l0, if_pos (by omega), if_pos (by omega), wn1 i (by omega)]
        exact bind_step ht (by rw [if_neg hneg])
      · by_cases e : j = i
        · subst e; exact ⟨c2, c3⟩
        · exact c j (by omega) hjl
/-- A list of pairs that fits. -/
def Fit47 (l : List S47) : Prop := l.length ≤ 1048576 ∧ ∀ j, j < l.length → ((rd_T47 l (j : Int)).f0.size : Int) ≤ 1048576 ∧ ((rd_T47 l (j : Int)).f1.size : Int) ≤ 1048576
theorem szPairS_ex (l : List S47) (left : Int) (h0 : 0 ≤ left) (h1 : left ≤ 1048576) (hl : (l.length : Int) ≤ 9223372036854775807) (hq : ∀ x ∈ l, (x.f0.size : Int) ≤ 9223372036854775807 ∧ (x.f1.size : Int) ≤ 9223372036854775807) :
    ∃ t, Evn (fun k => laws_szPairS.f k l left) t ∧ (t < 0 ∨ (0 ≤ t ∧ t ≤ left ∧ Fit47 l)) := by
  have hs := sz_step left l.length h0 h1 hl
  by_cases h2 : left - (l.length : Int) < 0
  · refine ⟨-1, (Evn.const _).of_eq fun k => ?_, .inl (by omega)⟩
    unfold laws_szPairS.f
    rw [hs, if_pos h2]
  · have hl2 : l.length ≤ 1048576 := by clear hs; omega
    obtain ⟨t, ht, hc⟩ := szPairS_l0 l hl2 hq l.length 0 (left - (l.length : Int)) (by clear hs; omega) (by clear hs; omega) (by clear hs; omega)
    refine ⟨t, ht.of_eq fun k => ?_, hc.imp id fun ⟨a, b, c⟩ => ⟨a, by clear hs; omega, hl2, fun j hj => c j (by clear hs; omega) hj⟩⟩
    unfold laws_szPairS.f
    rw [hs, if_neg h2]
    rfl
theorem szRequest_ex (m p : ByteArray) (q h : List S47) (b : ByteArray) (hm : (m.size : Int) ≤ 9223372036854775807) (hp : (p.size : Int) ≤ 9223372036854775807) (hb : (b.size : Int) ≤ 9223372036854775807) (hql : (q.length : Int) ≤ 9223372036854775807) (hhl : (h.length : Int) ≤ 9223372036854775807)
    (hq : ∀ x ∈ q, (x.f0.size : Int) ≤ 9223372036854775807 ∧ (x.f1.size : Int) ≤ 9223372036854775807) (hh : ∀ x ∈ h, (x.f0.size : Int) ≤ 9223372036854775807 ∧ (x.f1.size : Int) ≤ 9223372036854775807) (left : Int) (h0 : 0 ≤ left) (h1 : left ≤ 1048576) :
    ∃ t, Evn (fun k => laws_szRequest.f k m p q h b left) t ∧ (t < 0 ∨ (0 ≤ t ∧ t ≤ left ∧ (m.size : Int) ≤ 1048576 ∧ (p.size : Int) ≤ 1048576 ∧ (b.size : Int) ≤ 1048576 ∧ Fit47 q ∧ Fit47 h)) := by
  have s1 := sz_step left m.size h0 h1 hm
  by_cases h2 : left - (m.size : Int) < 0
  · refine ⟨-1, (Evn.const _).of_eq fun k => ?_, .inl (by omega)⟩
    unfold laws_szRequest.f
    rw [s1, if_pos h2]
  have l1 : 0 ≤ left - (m.size : Int) ∧ left - (m.size : Int) ≤ 1048576 := by clear s1; omega
  have s2 := sz_step (left - (m.size : Int)) p.size l1.1 l1.2 hp
  by_cases h3 : left - (m.size : Int) - (p.size : Int) < 0
  · refine ⟨-1, (Evn.const _).of_eq fun k => ?_, .inl (by clear s1 s2; omega)⟩
    unfold laws_szRequest.f
    rw [s1, if_neg h2, s2, if_pos h3]
  have l2 : 0 ≤ left - (m.size : Int) - (p.size : Int) ∧ left - (m.size : Int) - (p.size : Int) ≤ 1048576 := by clear s1 s2; omega
  obtain ⟨t1, ht1, c1⟩ := szPairS_ex q _ l2.1 l2.2 hql hq
  by_cases h4 : t1 < 0
  · refine ⟨-1, (Evn.bind (H := fun t k => if t < 0 then some (-1) else ((laws_szPairS.f k h t).bind fun t106 => (if t106 < 0 then (some (-1)) else (if (wrap64 (t106 - (b.size : Int))) < 0 then (some (-1)) else (some (wrap64 (t106 - (b.size : Int)))))))) ht1 (b := -1) ((Evn.const _).of_eq fun k => by simp only [if_pos h4])).of_eq fun k => ?_, .inl (by clear s1 s2; omega)⟩
    unfold laws_szRequest.f
    rw [s1, if_neg h2, s2, if_neg h3]
  obtain ⟨d0, d1, d2⟩ := c1.resolve_left h4
  obtain ⟨t2, ht2, c2⟩ := szPairS_ex h t1 d0 (by clear s1 s2; omega) hhl hh
  have main : ∀ r, (if t2 < 0 then (some (-1)) else (if (wrap64 (t2 - (b.size : Int))) < 0 then (some (-1)) else (some (wrap64 (t2 - (b.size : Int)))))) = some r → Evn (fun k => laws_szRequest.f k m p q h b left) r := fun r hr => by
    refine (Evn.bind (H := fun t k => if t < 0 then some (-1) else ((laws_szPairS.f k h t).bind fun t106 => (if t106 < 0 then (some (-1)) else (if (wrap64 (t106 - (b.size : Int))) < 0 then (some (-1)) else (some (wrap64 (t106 - (b.size : Int)))))))) ht1 (b := r) ?_).of_eq fun k => ?_
    · refine (Evn.bind (H := fun t106 k => (if t106 < 0 then (some (-1)) else (if (wrap64 (t106 - (b.size : Int))) < 0 then (some (-1)) else (some (wrap64 (t106 - (b.size : Int))))))) ht2 (b := r) ((Evn.const _).of_eq fun k => hr)).of_eq fun k => ?_
      simp only [if_neg h4]
    · unfold laws_szRequest.f
      rw [s1, if_neg h2, s2, if_neg h3]
  by_cases h5 : t2 < 0
  · exact ⟨-1, main _ (by rw [if_pos h5]), .inl (by clear s1 s2; omega)⟩
  obtain ⟨g0, g1, g2⟩ := c2.resolve_left h5
  have s3 := sz_step t2 b.size g0 (by clear s1 s2; omega) hb
  by_cases h6 : t2 - (b.size : Int) < 0
  · exact ⟨-1, main _ (by rw [if_neg h5, s3, if_pos h6]), .inl (by clear s1 s2 s3; omega)⟩
  · exact ⟨_, main _ (by rw [if_neg h5, s3, if_neg h6]), .inr (by clear s1 s2 s3 main; exact ⟨by omega, by omega, by omega, by omega, by omega, d2, g2⟩)⟩

/-! ### the copy -/
def conv (x : S47) : S38 := ⟨x.f0, x.f1⟩
def convTo (l : List S47) (i : Nat) : List S38 := (l.take i).map conv ++ List.replicate (l.length - i) z38
theorem convTo_len (l : List S47) (i : Nat) (hi : i ≤ l.length) : (convTo l i).length = l.length := by
  unfold convTo; rw [List.length_append, List.length_map, List.length_take, List.length_replicate]; omega
theorem convTo_set (l : List S47) (i : Nat) (hi : i < l.length) : (convTo l i).set i (conv (rd_T47 l (i : Int))) = convTo l (i + 1) := by
  have e : rd_T47 l (i : Int) = l[i] := by
    unfold rd_T47
    rw [Int.toNat_natCast, List.getD_eq_getElem?_getD, List.getElem?_eq_getElem hi]; rfl
  unfold convTo
  have hlen : ((l.take i).map conv).length = i := by rw [List.length_map, List.length_take]; omega
  rw [List.set_append_right _ _ (by omega), hlen, Nat.sub_self, List.take_succ_eq_append_getElem hi, List.map_append, List.append_assoc]
  congr 1
  obtain ⟨n, hn⟩ : ∃ n, l.length - i = n + 1 := ⟨l.length - i - 1, by omega⟩
  rw [hn, List.replicate_succ, List.set_cons_zero, e, show l.length - (i + 1) = n by omega]
  rfl
theorem toPairS_l0 (l : List S47) (hl : l.length ≤ 1048576) : ∀ d i : Nat, i + d = l.length → Evn (fun k => laws_toPairS.l0 k l (convTo l i) (i : Int)) (l.map conv)
  | 0, i, hi => by
    obtain rfl : i = l.length := by omega
    refine (Evn.const _).step fun k => ?_
    rw [laws_toPairS.l0, if_neg (by omega)]
    unfold convTo
    simp
  | d + 1, i, hi => by
    have ih := toPairS_l0 l hl d (i + 1) (by omega)
    rw [← convTo_set l i (by omega)] at ih
    refine ih.step fun k => ?_
    rw [laws_toPairS.l0, if_pos (by omega), if_pos (by omega), wn1 i (by omega)]
    unfold laws_toPair.f
    rw [Option.bind_some, if_pos (by rw [convTo_len l i (by omega)]; omega), Int.toNat_natCast]
    rfl
theorem toPairS_ev (l : List S47) (hl : l.length ≤ 1048576) : Evn (fun k => laws_toPairS.f k l) (l.map conv) := by
  refine (toPairS_l0 l hl l.length 0 (by omega)).of_eq fun k => ?_
  unfold laws_toPairS.f
  rw [if_pos (by omega), Int.toNat_natCast, if_pos (by omega)]
  rfl
theorem toRequest_ev (m p : ByteArray) (q h : List S47) (b : ByteArray) (hq : q.length ≤ 1048576) (hh : h.length ≤ 1048576) : Evn (fun k => laws_toRequest.f k m p q h b) (m, p, q.map conv, h.map conv, b) := by
  refine (Evn.bind (H := fun t k => (laws_toPairS.f k h).bind fun t136 => (some (m, p, t, t136, b))) (toPairS_ev q hq) (b := (m, p, q.map conv, h.map conv, b)) ?_).of_eq fun k => rfl
  exact Evn.bind (H := fun t136 k => some (m, p, q.map conv, t136, b)) (toPairS_ev h hh) (Evn.const _)

/-! ### the comparison with itself -/
theorem eqPairS_l0 (l : List S38) (hl : l.length ≤ 1048576) : ∀ d i : Nat, i + d = l.length → Evn (fun k => laws_eqPairS.l0 k l l (i : Int)) true
  | 0, i, hi => (Evn.const _).step fun k => by rw [laws_eqPairS.l0, if_neg (by omega)]
  | d + 1, i, hi => by
    refine (eqPairS_l0 l hl d (i + 1) (by omega)).step fun k => ?_
    rw [laws_eqPairS.l0, if_pos (by omega), if_pos (by omega), if_pos (by omega), wn1 i (by omega)]
    unfold laws_eqPair.f
    rw [if_pos rfl, if_pos rfl, Option.bind_some, if_pos rfl]
theorem eqPairS_ev (l : List S38) (hl : l.length ≤ 1048576) : Evn (fun k => laws_eqPairS.f k l l) true :=
  (eqPairS_l0 l hl l.length 0 (by omega)).of_eq fun k => by unfold laws_eqPairS.f; rw [if_pos rfl]; rfl
theorem eqRequest_ev (m p : ByteArray) (q h : List S38) (b : ByteArray) (hq : q.length ≤ 1048576) (hh : h.length ≤ 1048576) : Evn (fun k => laws_eqRequest.f k m p q h b m p q h b) true := by
  obtain ⟨ka, e1⟩ := eqPairS_ev q hq
  obtain ⟨kb, e2⟩ := eqPairS_ev h hh
  refine ⟨ka + kb, fun k hk => ?_⟩
  show laws_eqRequest.f k m p q h b m p q h b = some true
  unfold laws_eqRequest.f
  rw [if_pos rfl, if_pos rfl]
  refine bind_step (e1 k (by omega)) ?_
  rw [if_pos rfl]
  refine bind_step (e2 k (by omega)) ?_
  rw [if_pos rfl, if_pos rfl]
theorem rd_conv (l : List S47) (i : Nat) (hi : i < l.length) : rd_T38 (l.map conv) (i : Int) = conv (rd_T47 l (i : Int)) := by
  unfold rd_T38 rd_T47
  rw [Int.toNat_natCast, List.getD_eq_getElem?_getD, List.getD_eq_getElem?_getD, List.getElem?_map, List.getElem?_eq_getElem hi]
  rfl
end Go.Proofs.YthcijamlaeeonaaDoor.QA
namespace Go.Proofs.YthcijamlaeeonaaDoor.QA
open Go.RowKit Go.Proofs.YthcijamlaeeonaaDoorW.PrintWords Go.Proofs.YthcijamlaeeonaaDoorW.PrintLast Go.Proofs.YthcijamlaeeonaaDoorW.PrintMore
set_option linter.unusedVariables false

theorem fit_sm {l : List S47} (h : Fit47 l) : smS (l.map conv) := by
  refine ⟨by rw [List.length_map]; have := h.1; omega, fun i hi => ?_⟩
  rw [List.length_map] at hi
  have := h.2 i hi
  rw [rd_conv l i hi]
  unfold conv
  exact ⟨by show (rd_T47 l (i : Int)).f0.size ≤ _; omega, by show (rd_T47 l (i : Int)).f1.size ≤ _; omega⟩
theorem fit_sz {l : List S47} (h : Fit47 l) : szB (l.map conv) = true := by
  unfold szB
  rw [Bool.and_eq_true, List.all_eq_true]
  refine ⟨decide_eq_true (by rw [List.length_map]; have := h.1; omega), fun x hx => ?_⟩
  obtain ⟨i, hi, rfl⟩ := List.mem_iff_getElem.1 hx
  rw [List.length_map] at hi
  have hb := h.2 i hi
  have e : rd_T47 l (i : Int) = l[i] := by
    unfold rd_T47
    rw [Int.toNat_natCast, List.getD_eq_getElem?_getD, List.getElem?_eq_getElem hi]; rfl
  rw [e] at hb
  rw [List.getElem_map]
  unfold conv
  rw [Bool.and_eq_true]
  exact ⟨decide_eq_true (by show l[i].f0.size ≤ _; omega), decide_eq_true (by show l[i].f1.size ≤ _; omega)⟩
theorem max_int {n : Nat} (h : n ≤ maxLen) : (n : Int) ≤ 9223372036854775807 := by unfold maxLen at h; omega
theorem q47_int {l : List S47} (h : ∀ y ∈ l, Q47 y) : ∀ x ∈ l, (x.f0.size : Int) ≤ 9223372036854775807 ∧ (x.f1.size : Int) ≤ 9223372036854775807 := fun x hx => ⟨max_int (h x hx).1, max_int (h x hx).2⟩
theorem FnExactRequestFault : FnExactRequestFaultPure := by
  intro m p q h b hP
  obtain ⟨p1, p2, ⟨p3, p4⟩, ⟨p5, p6⟩, p7⟩ := hP
  obtain ⟨t, ht, hc⟩ := szRequest_ex m p q h b (max_int p1) (max_int p2) (max_int p7) (max_int p3) (max_int p5) (q47_int p4) (q47_int p6) 1048576 (by omega) (by omega)
  obtain ⟨ka, ea⟩ := ht
  by_cases hneg : t < 0
  · refine ⟨ka, ?_⟩
    unfold laws_FnExactRequestFault.f
    exact bind_step (ea ka (Nat.le_refl _)) (by rw [if_pos hneg])
  · obtain ⟨_, _, hm, hp, hb, hq, hh⟩ := hc.resolve_left hneg
    obtain ⟨kb, eb⟩ := toRequest_ev m p q h b hq.1 hh.1
    obtain ⟨kc, ec⟩ := req_ev m p (q.map conv) (h.map conv) b (by omega) (fit_sm hq) (fit_sm hh)
    obtain ⟨kd, ed⟩ := eqRequest_ev m p (q.map conv) (h.map conv) b (by rw [List.length_map]; exact hq.1) (by rw [List.length_map]; exact hh.1)
    have hi : ∀ k, impl_RequestFault.f k m p (q.map conv) (h.map conv) b = some (faultI m p (q.map conv) (h.map conv) b) := fun k => by
      unfold impl_RequestFault.f
      rw [if_pos ⟨by omega, fit_sz hq, fit_sz hh⟩]
    refine ⟨ka + kb + kc + kd, ?_⟩
    have b1 := eb (ka + kb + kc + kd) (by omega)
    unfold laws_FnExactRequestFault.f
    refine bind_step (ea _ (by omega)) ?_
    rw [if_neg hneg]
    refine bind_step b1 (bind_step (ec _ (by omega)) (bind_step b1 (bind_step (hi _) ?_)))
    rw [if_pos rfl]
    exact bind_step b1 (bind_step (ed _ (by omega)) (by rw [if_pos rfl]))

end Go.Proofs.YthcijamlaeeonaaDoor.QA
