/- FnExactRangeReads: what is left of the law, over numbers and lists. Conditions: none. -/
import Derived.Test.YthollhmhcnpfiaaGateFnExactRangeReads
namespace Go.Proofs.Ythollhmhcnpfiaa.QA
open Go.RowKit Go.Proofs.YthollhmhcnpfiaaW.PrintWords Go.Proofs.YthollhmhcnpfiaaW.PrintLast Go.Proofs.YthollhmhcnpfiaaW.PrintMore

theorem w64 {x : Int} (h0 : -9223372036854775808 ≤ x) (h1 : x ≤ 9223372036854775807) : wrap64 x = x := by
  unfold wrap64
  omega

/-! ### the two counts of stripes -/
theorem code_same (K M G : Int) : spec_CodeFault.f K M G = impl_CodeFault.f K M G := rfl
theorem stripej_same : ∀ (k : Nat) (u s : Int) (b : Bool) (K M G : Int), spec_StripeCount.j0 k u s b K M G = impl_StripeCount.j0 k u s b K M G
  | 0, _, _, _, _, _, _ => rfl
  | _ + 1, _, _, _, _, _, _ => rfl
theorem stripe_same (k : Nat) (K M G u s : Int) : spec_StripeCount.f k K M G u s = impl_StripeCount.f k K M G u s := by
  unfold spec_StripeCount.f impl_StripeCount.f
  rw [code_same]
  simp only [stripej_same]

theorem code_ex (K M G : Int) : ∃ c, impl_CodeFault.f K M G = some c ∧ (c = 0 → 1 ≤ K ∧ K ≤ 32) := by
  unfold impl_CodeFault.f
  repeat' split
  all_goals exact ⟨_, rfl, by omega⟩
theorem stripe_ex (K M G u s : Int) : ∃ t, impl_StripeCount.f 1 K M G u s = some t := by
  obtain ⟨c, hc, hc0⟩ := code_ex K M G
  unfold impl_StripeCount.f
  rw [hc]
  simp only [Option.bind_some]
  have hb : ∀ (b : Bool), b = true ∨ (1 ≤ K ∧ K ≤ 32 ∧ 1 ≤ u ∧ u ≤ 4096) → ∃ t, impl_StripeCount.j0 1 u s b K M G = some t := by
    intro b h
    simp only [impl_StripeCount.j0]
    by_cases hb : b = true
    · exact ⟨_, by rw [if_pos hb]⟩
    · obtain ⟨h1, h2, h3, h4⟩ : 1 ≤ K ∧ K ≤ 32 ∧ 1 ≤ u ∧ u ≤ 4096 := h.resolve_left hb
      have a1 : 1 ≤ K * u := by have := Int.mul_le_mul h1 h3 (by omega) (by omega); omega
      have a2 : K * u ≤ 131072 := by have := Int.mul_le_mul h2 h4 (by omega) (by omega); omega
      rw [if_neg hb, w64 (x := K * u) (by omega) (by omega), if_neg (by omega)]
      split
      · exact ⟨_, rfl⟩
      · exact ⟨_, rfl⟩
  by_cases h0 : c = 0
  · rw [if_pos h0]
    by_cases h1 : u < 1
    · rw [if_pos h1]; exact hb true (.inl rfl)
    rw [if_neg h1]
    by_cases h2 : u > 4096
    · rw [if_pos h2]; exact hb true (.inl rfl)
    rw [if_neg h2]
    by_cases h3 : s < 0
    · rw [if_pos h3]; exact hb true (.inl rfl)
    rw [if_neg h3]
    have := hc0 h0
    exact hb _ (.inr (by omega))
  · rw [if_neg h0]; exact hb true (.inl rfl)

/-! ### the two lists of pieces -/
theorem one_same {K unit e a : Int} (hu : 1 ≤ unit) : sgOne K unit e a = rgOne K unit e a := by
  unfold sgOne rgOne mn
  have h : a / unit % K = a % (K * unit) / unit := by
    have h1 : a % (K * unit) = unit * (a / unit % K) + a % unit := by
      have e1 := Int.mul_ediv_add_emod a unit
      have e2 := Int.mul_ediv_add_emod (a / unit) K
      have e3 : a / unit / K = a / (unit * K) := Int.ediv_ediv_of_nonneg (by omega)
      have e4 := Int.mul_ediv_add_emod a (K * unit)
      rw [Int.mul_comm unit K] at e3
      rw [e3] at e2
      have e5 : unit * (K * (a / (K * unit)) + a / unit % K) = unit * (a / unit) := by rw [e2]
      rw [Int.mul_add, ← Int.mul_assoc, Int.mul_comm unit K] at e5
      omega
    rw [h1, Int.mul_add_ediv_left _ _ (by omega : unit ≠ 0), Int.ediv_eq_zero_of_lt (Int.emod_nonneg _ (by omega)) (Int.emod_lt_of_pos _ (by omega))]
    omega
  rw [h]
theorem list_same {K unit e : Int} (hu : 1 ≤ unit) : ∀ (d : Nat) (a : Int), 0 ≤ a → sgList K unit e d a = rgList K unit e d a
  | 0, _, _ => rfl
  | d + 1, a, ha => by
    unfold sgList rgList
    split
    · rename_i h
      rw [one_same hu]
      have : 0 ≤ (rgOne K unit e a).f3 := by
        unfold rgOne mn
        have := Int.emod_lt_of_pos a (show 0 < unit by omega)
        show 0 ≤ ite _ _ _
        split <;> omega
      rw [list_same hu d _ (by omega)]
    · rfl
theorem all_same {K unit size fr count : Int} (hu : 1 ≤ unit) (hf : 0 ≤ fr) : sgAll K unit size fr count = rgAll K unit size fr count := by
  unfold sgAll rgAll sgEnd rgEnd sgFrom
  by_cases h1 : size < fr
  · rw [if_pos h1, if_pos (show fr ≥ size by omega)]
    refine sgList_stop _ _ _ _ _ ?_
    split <;> omega
  · rw [if_neg h1]
    by_cases h2 : fr ≥ size
    · rw [if_pos h2]
      refine sgList_stop _ _ _ _ _ ?_
      split <;> omega
    · rw [if_neg h2, list_same hu _ _ hf]
      have he : (if size - fr < count then fr + (size - fr) else fr + count) = (if count < size - fr then fr + count else size) := by
        split <;> split <;> omega
      rw [he]

/-! ### equal, marked, held -/
theorem rd43 {xs : List S43} {i : Nat} {x : S43} (h : xs[i]? = some x) : rd_T43 xs (i : Int) = x := by
  unfold rd_T43
  rw [Int.toNat_natCast, List.getD_eq_getElem?_getD, h]; rfl
theorem eq43_l0 (xs : List S43) (hl : xs.length ≤ 1000000) : ∀ (d i : Nat), xs.length ≤ i + d → ∃ k, laws_eqShardRangeS.l0 k xs xs (i : Int) = some true
  | 0, i, h => ⟨1, by simp only [laws_eqShardRangeS.l0]; rw [if_neg (by omega)]⟩
  | d + 1, i, h => by
    obtain ⟨k, hk⟩ := eq43_l0 xs hl d (i + 1) (by omega)
    by_cases hi : i < xs.length
    · refine ⟨k + 1, ?_⟩
      simp only [laws_eqShardRangeS.l0]
      rw [if_pos (by omega), if_pos (by omega), if_pos (by omega)]
      simp only [laws_eqShardRange.f, if_true, Option.bind_some]
      rw [w64 (by omega) (by omega)]
      exact hk
    · exact ⟨1, by simp only [laws_eqShardRangeS.l0]; rw [if_neg (by omega)]⟩
theorem eqRange_ev (n : Int) (xs : List S43) (hl : xs.length ≤ 1000000) : Ev (fun k => laws_eqRangeResult.f k n xs n xs) true := by
  obtain ⟨k, hk⟩ := eq43_l0 xs hl xs.length 0 (by omega)
  refine Ev.of (fun k => laws_eqRangeResult.mono _ _ _ _ k) (k := k) ?_
  show laws_eqRangeResult.f k n xs n xs = some true
  unfold laws_eqRangeResult.f laws_eqShardRangeS.f
  rw [if_pos rfl, if_pos rfl]
  have hk' : laws_eqShardRangeS.l0 k xs xs 0 = some true := hk
  rw [hk']
  rfl

def mk43 (j : Nat) : S43 := ⟨1 + 4 * (j : Int), 2 + 4 * (j : Int), 3 + 4 * (j : Int), 4 + 4 * (j : Int)⟩
theorem set43 (xs : List S43) (i : Nat) (x y : S43) : (xs.set i x).set i y = xs.set i y := List.set_set ..
theorem rdset43 (xs : List S43) (i : Nat) (hi : i < xs.length) (x : S43) : rd_T43 (xs.set i x) (i : Int) = x := rd43 (by rw [List.getElem?_set_self hi])
theorem mark43_l0 : ∀ (d i : Nat) (xs : List S43), xs.length ≤ 1000000 → i ≤ xs.length → xs.length ≤ i + d → (∀ j, j < i → xs[j]? = some (mk43 j)) →
    ∃ k ys, laws_markShardRangeS.l0 k xs (1 + 4 * (i : Int)) (i : Int) = some (1 + 4 * (xs.length : Int), ys) ∧ ys.length = xs.length ∧ ∀ j, j < xs.length → ys[j]? = some (mk43 j)
  | 0, i, xs, hl, hi, h, hj => by
    have he : i = xs.length := by omega
    subst he
    exact ⟨1, xs, by simp only [laws_markShardRangeS.l0]; rw [if_neg (by omega)], rfl, hj⟩
  | d + 1, i, xs, hl, hi, h, hj => by
    by_cases hlt : i < xs.length
    · obtain ⟨k, ys, hk, hy, hz⟩ := mark43_l0 d (i + 1) (xs.set i (mk43 i)) (by simpa using hl) (by simp; omega) (by simp; omega) (fun j h => by
        by_cases he : j = i
        · subst he; exact List.getElem?_set_self hlt
        · rw [List.getElem?_set_ne (Ne.symm he)]; exact hj j (by omega))
      refine ⟨k + 1, ys, ?_, by simpa using hy, by simpa using hz⟩
      simp only [laws_markShardRangeS.l0]
      rw [if_pos (by omega), if_pos (by omega)]
      simp only [Option.bind_some, Int.toNat_natCast]
      have q0 := rdset43 xs i hlt
      simp only [q0, set43 xs i]
      rw [w64 (x := 1 + 4 * (i : Int) + 1) (by omega) (by omega), w64 (x := 1 + 4 * (i : Int) + 1 + 1) (by omega) (by omega), w64 (x := 1 + 4 * (i : Int) + 1 + 1 + 1) (by omega) (by omega), w64 (x := 1 + 4 * (i : Int) + 1 + 1 + 1 + 1) (by omega) (by omega), w64 (x := (i : Int) + 1) (by omega) (by omega)]
      have e1 : (⟨1 + 4 * (i : Int), 1 + 4 * (i : Int) + 1, 1 + 4 * (i : Int) + 1 + 1, 1 + 4 * (i : Int) + 1 + 1 + 1⟩ : S43) = mk43 i := by
        unfold mk43; congr 1 <;> omega
      have e2 : 1 + 4 * (i : Int) + 1 + 1 + 1 + 1 = 1 + 4 * ((i + 1 : Nat) : Int) := by omega
      have e3 : (i : Int) + 1 = ((i + 1 : Nat) : Int) := by omega
      rw [e1, e2, e3]
      rw [List.length_set] at hk
      exact hk
    · have he : i = xs.length := by omega
      subst he
      exact ⟨1, xs, by simp only [laws_markShardRangeS.l0]; rw [if_neg (by omega)], rfl, hj⟩
theorem held43_l0 (ys : List S43) (hl : ys.length ≤ 1000000) (hy : ∀ j, j < ys.length → ys[j]? = some (mk43 j)) : ∀ (d i : Nat), i ≤ ys.length → ys.length ≤ i + d → ∃ k, laws_heldShardRangeS.l0 k ys (1 + 4 * (i : Int)) (i : Int) = some (1 + 4 * (ys.length : Int))
  | 0, i, hi, h => by
    have he : i = ys.length := by omega
    subst he
    exact ⟨1, by simp only [laws_heldShardRangeS.l0]; rw [if_neg (by omega)]⟩
  | d + 1, i, hi, h => by
    by_cases hlt : i < ys.length
    · obtain ⟨k, hk⟩ := held43_l0 ys hl hy d (i + 1) (by omega) (by omega)
      refine ⟨k + 1, ?_⟩
      simp only [laws_heldShardRangeS.l0]
      rw [if_pos (by omega), if_pos (by omega), rd43 (hy i hlt)]
      rw [w64 (x := 1 + 4 * (i : Int) + 1) (by omega) (by omega), w64 (x := 1 + 4 * (i : Int) + 1 + 1) (by omega) (by omega), w64 (x := 1 + 4 * (i : Int) + 1 + 1 + 1) (by omega) (by omega), w64 (x := 1 + 4 * (i : Int) + 1 + 1 + 1 + 1) (by omega) (by omega), w64 (x := (i : Int) + 1) (by omega) (by omega)]
      rw [if_pos (show (mk43 i).f0 = 1 + 4 * (i : Int) from rfl), if_pos (show (mk43 i).f1 = 1 + 4 * (i : Int) + 1 by show 2 + 4 * (i : Int) = _; omega), if_pos (show (mk43 i).f2 = 1 + 4 * (i : Int) + 1 + 1 by show 3 + 4 * (i : Int) = _; omega), if_pos (show (mk43 i).f3 = 1 + 4 * (i : Int) + 1 + 1 + 1 by show 4 + 4 * (i : Int) = _; omega)]
      have e2 : 1 + 4 * (i : Int) + 1 + 1 + 1 + 1 = 1 + 4 * ((i + 1 : Nat) : Int) := by omega
      have e3 : (i : Int) + 1 = ((i + 1 : Nat) : Int) := by omega
      rw [e2, e3]
      exact hk
    · have he : i = ys.length := by omega
      subst he
      exact ⟨1, by simp only [laws_heldShardRangeS.l0]; rw [if_neg (by omega)]⟩
theorem mark_held43 (n : Int) (xs : List S43) (hl : xs.length ≤ 1000000) : ∃ ys, Ev (fun k => laws_markRangeResult.f k n xs 1) (1 + 4 * (xs.length : Int), ys) ∧ Ev (fun k => laws_heldRangeResult.f k n ys 1) (1 + 4 * (xs.length : Int)) := by
  obtain ⟨k, ys, hk, hy, hz⟩ := mark43_l0 xs.length 0 xs hl (by omega) (by omega) (fun j h => by omega)
  obtain ⟨k', hk'⟩ := held43_l0 ys (by omega) (by rw [hy]; exact hz) ys.length 0 (by omega) (by omega)
  refine ⟨ys, Ev.of (fun k => laws_markRangeResult.mono _ _ _ k) (k := k) ?_, Ev.of (fun k => laws_heldRangeResult.mono _ _ _ k) (k := k') ?_⟩
  · show laws_markRangeResult.f k n xs 1 = _
    unfold laws_markRangeResult.f laws_markShardRangeS.f
    have hk2 : laws_markShardRangeS.l0 k xs 1 0 = some (1 + 4 * (xs.length : Int), ys) := hk
    rw [hk2]; rfl
  · show laws_heldRangeResult.f k' n ys 1 = _
    unfold laws_heldRangeResult.f laws_heldShardRangeS.f
    have hk2 : laws_heldShardRangeS.l0 k' ys 1 0 = some (1 + 4 * (ys.length : Int)) := hk'
    rw [hk2]; simp only [Option.bind_some]
    rw [if_neg (by omega), hy]

theorem FnExactRangeReads : FnExactRangeReadsPure := by
  intro K M G unit size fr count _ _ _ _ _
  obtain ⟨t, ht⟩ := stripe_ex K M G unit size
  have hsp : ∃ r, Ev (fun k => spec_RangeReads.f k K M G unit size fr count) r ∧ Ev (fun k => impl_RangeReads.f k K M G unit size fr count) r ∧ r.2.length ≤ 1000000 := by
    have h1 : ∀ r, spec_RangeReads.f 1 K M G unit size fr count = some r → Ev (fun k => spec_RangeReads.f k K M G unit size fr count) r := fun r h => Ev.of (fun k => spec_RangeReads.mono _ _ _ _ _ _ _ k) h
    have h2 : ∀ r, impl_RangeReads.f 1 K M G unit size fr count = some r → Ev (fun k => impl_RangeReads.f k K M G unit size fr count) r := fun r h => Ev.of (fun k => impl_RangeReads.mono _ _ _ _ _ _ _ k) h
    by_cases hbad : t < 0 ∨ fr < 0 ∨ count < 0
    · refine ⟨(1, []), h1 _ ?_, h2 _ ?_, by simp⟩
      · unfold spec_RangeReads.f; rw [stripe_same, ht]; simp only [Option.bind_some]; rw [if_pos hbad]
      · unfold impl_RangeReads.f; rw [ht]; simp only [Option.bind_some]; rw [if_pos hbad]
    · obtain ⟨g1, g2, g3, g4, g5, g6⟩ := stripe_some 1 _ _ _ _ _ t ht (by omega)
      refine ⟨(0, rgAll K unit size fr count), h1 _ ?_, h2 _ ?_, ?_⟩
      · unfold spec_RangeReads.f; rw [stripe_same, ht]; simp only [Option.bind_some]; rw [if_neg hbad, all_same g3 (by omega)]
      · unfold impl_RangeReads.f; rw [ht]; simp only [Option.bind_some]; rw [if_neg hbad]
      · have := rgAll_len K unit size fr count
        show (rgAll K unit size fr count).length ≤ 1000000
        omega
  obtain ⟨⟨n, xs⟩, hs, hi, hl⟩ := hsp
  obtain ⟨ys, hm, hh⟩ := mark_held43 n xs hl
  have he := eqRange_ev n xs hl
  refine Ev.rounds (r := true) (Ev.congr (g := fun k => laws_FnExactRangeReads.f k K M G unit size fr count) (f := fun k => (spec_RangeReads.f k K M G unit size fr count).bind _) (fun k => by simp only [laws_FnExactRangeReads.f, laws_toCode.f, Option.bind_some]; rfl) (Ev.bind hs ?_))
  refine Ev.bind hi (Ev.bind he ?_)
  simp only [if_true]
  refine Ev.bind hm (Ev.bind hh ?_)
  have h0 : ¬ (1 + 4 * (xs.length : Int)) < 0 := by omega
  simp only [h0, if_false, if_true]
  refine Ev.bind hi (Ev.bind he ?_)
  simp only [if_true]
  refine Ev.bind hh ?_
  simp only [h0, if_false, if_true]
  exact Ev.now true

end Go.Proofs.Ythollhmhcnpfiaa.QA
