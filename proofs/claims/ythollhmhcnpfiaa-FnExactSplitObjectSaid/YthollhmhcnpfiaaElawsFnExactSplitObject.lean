/- The field of 256: the tables' product and inverse are the specification's Mul8 and Inv8. The specification's shards are the program's: l04Mix, CodeRow. SplitObject: the specification's function is the program's. SplitObject: both functions' answer; equal, marked, held. markStripeS, markStripeResult: stripes of one's own are marked. The law FnExactSplitObject walked by hand: it answers true. Conditions: those that each theorem states. -/
import Derived.Test.YthollhmhcnpfiaaQAxspecInv8
import Derived.Test.YthollhmhcnpfiaaEspecCodeRow
import Derived.Test.YthollhmhcnpfiaaQAxspecl04Mix
import Derived.Test.YthollhmhcnpfiaaEspecSplitObject
import Derived.Test.YthollhmhcnpfiaaEimplSplitObject
import Derived.Test.YthollhmhcnpfiaaQAxlawseqStripeResult
import Derived.Test.YthollhmhcnpfiaaQAxlawsheldStripeResult
import Derived.Test.YthollhmhcnpfiaaQAxlawsmarkStringS
import Derived.Test.YthollhmhcnpfiaaQAxlawstoCode
namespace Go.Proofs.Ythollhmhcnpfiaa.QA
open Go.RowKit Go.Proofs.YthollhmhcnpfiaaW.PrintWords Go.Proofs.YthollhmhcnpfiaaW.PrintLast
set_option linter.unusedVariables false
set_option linter.unusedSimpArgs false

/-- The peasant's product. -/
def pp : Nat → Nat → Nat → Nat
  | 0, _, _ => 0
  | k + 1, a, b => (if b % 2 = 1 then a else 0) ^^^ pp k (dbl a) (b / 2)
theorem pp_zero (a : Nat) : ∀ k, ∀ a, pp k a 0 = 0
  | 0, _ => rfl
  | k + 1, a => by simp [pp, pp_zero a k]
theorem pp_more : ∀ k a b, b < 2 ^ k → pp (k + 1) a b = pp k a b
  | 0, a, b, h => by
    obtain rfl : b = 0 := by simpa using h
    exact pp_zero 0 1 a
  | k + 1, a, b, h => by
    rw [pp, pp_more k (dbl a) (b / 2) (by rw [Nat.pow_succ] at h; omega)]
    rfl
theorem xor_half (x y : Nat) : (x ^^^ y) / 2 = x / 2 ^^^ y / 2 := by
  apply Nat.eq_of_testBit_eq
  intro i
  rw [Nat.testBit_xor, ← Nat.testBit_succ, ← Nat.testBit_succ, ← Nat.testBit_succ, Nat.testBit_xor]
theorem xor_odd (x y : Nat) : ((x ^^^ y) % 2 = 1) = ¬ ((x % 2 = 1) ↔ (y % 2 = 1)) := by
  have h : ∀ z : Nat, (z % 2 = 1) = (z.testBit 0 = true) := fun z => by simp [Nat.testBit_zero]
  rw [h, h, h, Nat.testBit_xor]
  cases x.testBit 0 <;> cases y.testBit 0 <;> simp
theorem pp_xor : ∀ k a x y, pp k a (x ^^^ y) = pp k a x ^^^ pp k a y
  | 0, _, _, _ => by simp [pp]
  | k + 1, a, x, y => by
    simp only [pp, xor_half, pp_xor k, xor_odd]
    have hc : ∀ p q r s : Nat, (p ^^^ q) ^^^ (r ^^^ s) = (p ^^^ r) ^^^ (q ^^^ s) := fun p q r s => by
      rw [Nat.xor_assoc, Nat.xor_assoc]; congr 1; rw [← Nat.xor_assoc, Nat.xor_comm q r, Nat.xor_assoc]
    rw [hc]
    congr 1
    by_cases h1 : x % 2 = 1 <;> by_cases h2 : y % 2 = 1 <;> simp [h1, h2]
theorem pp_even (k a b : Nat) : pp (k + 1) a (2 * b) = pp k (dbl a) b := by
  have h1 : (2 * b) % 2 = 0 := by omega
  have h2 : 2 * b / 2 = b := by omega
  simp [pp, h1, h2]
theorem pp_285 : ∀ a : Fin 256, pp 9 a.val 285 = 0 := by decide +kernel
theorem dbl_285 : ∀ b : Fin 256, 128 ≤ b.val → dbl b.val = (2 * b.val) ^^^ 285 := by decide +kernel
theorem pp_dbl (a b : Nat) (ha : a < 256) (hb : b < 256) : pp 8 a (dbl b) = pp 8 (dbl a) b := by
  have hd := dbl_lt ⟨b, hb⟩
  rw [← pp_more 8 a (dbl b) hd]
  by_cases h : b < 128
  · have : dbl b = 2 * b := by unfold dbl; rw [if_pos h]
    rw [this, pp_even]
  · rw [dbl_285 ⟨b, hb⟩ (by show 128 ≤ b; omega), pp_xor, pp_285 ⟨a, ha⟩, Nat.xor_zero, pp_even]
theorem pp_one (a : Nat) : pp 8 a 1 = a := by
  show (if 1 % 2 = 1 then a else 0) ^^^ pp 7 (dbl a) (1 / 2) = a
  rw [show (1 : Nat) / 2 = 0 from rfl, pp_zero 0 7]; simp
theorem pp_exp (i : Nat) : ∀ j, ∀ i, pp 8 (gexp i) (gexp j) = gexp (i + j)
  | 0, i => pp_one _
  | j + 1, i => by
    show pp 8 (gexp i) (dbl (gexp j)) = _
    rw [pp_dbl _ _ (gexp_lt _) (gexp_lt _)]
    have := pp_exp i j (i + 1)
    show pp 8 (gexp (i + 1)) (gexp j) = _
    rw [this]
    congr 1
    omega
theorem gexp_255 : gexp 255 = 1 := by decide +kernel
theorem gexp_per : ∀ n, gexp (n + 255) = gexp n
  | 0 => gexp_255
  | n + 1 => by
    show dbl (gexp (n + 255)) = dbl (gexp n)
    rw [gexp_per n]
theorem gexp_mul (r : Nat) : ∀ q, gexp (255 * q + r) = gexp r
  | 0 => by simp
  | q + 1 => by
    rw [show 255 * (q + 1) + r = (255 * q + r) + 255 by omega, gexp_per, gexp_mul r q]
theorem gexp_mod (n : Nat) : gexp (n % 255) = gexp n := by
  conv => rhs; rw [← Nat.div_add_mod n 255]
  rw [gexp_mul]
theorem pp_lz (b : Nat) : ∀ k b, pp k 0 b = 0
  | 0, _ => rfl
  | k + 1, b => by
    have : dbl 0 = 0 := by decide
    simp [pp, this, pp_lz b k]
theorem gmul_pp (a b : Nat) (ha : a < 256) (hb : b < 256) : gmul a b = pp 8 a b := by
  by_cases h0 : a = 0
  · subst h0; rw [pp_lz 0]; unfold gmul; rw [if_pos (.inl rfl)]
  · by_cases h1 : b = 0
    · subst h1; rw [pp_zero 0]; unfold gmul; rw [if_pos (.inr rfl)]
    · have q1 := (tabL_val ⟨a, ha⟩ h0).1
      have q2 := (tabL_val ⟨b, hb⟩ h1).1
      simp only at q1 q2
      unfold gmul
      rw [if_neg (by omega), gexp_mod, ← pp_exp 0, q1, q2]

/-! ### the specification's product -/
theorem xor_nat (a b : Nat) (ha : a < 1024) (hb : b < 1024) : bits .xor .i64 (a : Int) (b : Int) = ((a ^^^ b : Nat) : Int) := by
  have h2 : a ^^^ b < 1024 := Nat.xor_lt_two_pow (n := 10) ha hb
  have ha' : a % 2 ^ IntKind.i64.bits = a := Nat.mod_eq_of_lt (by show a < 18446744073709551616; omega)
  have hb' : b % 2 ^ IntKind.i64.bits = b := Nat.mod_eq_of_lt (by show b < 18446744073709551616; omega)
  simp only [bits, BitVec.ofInt_natCast, BitVec.toNat_xor, BitVec.toNat_ofNat, ha', hb']
  rw [IntKind.wrap_i64]; omega
theorem dbl_times : ∀ a : Fin 256, ((if 2 * a.val ≥ 256 then (2 * a.val) ^^^ 285 else 2 * a.val : Nat)) = dbl a.val := by decide +kernel
theorem w64n {n : Int} (h0 : -9223372036854775808 ≤ n) (h1 : n ≤ 9223372036854775807) : wrap64 n = n := (i64_w _).symm.trans (IntWalk.i64_in _ (by omega))
theorem times_l0 : ∀ (k a b acc : Nat), a < 256 → b < 2 ^ k → b < 1024 → acc < 256 → spec_l02Times.l0 (k + 1) (a : Int) (b : Int) 285 256 (acc : Int) = some ((acc ^^^ pp k a b : Nat) : Int)
  | 0, a, b, acc, ha, hb, hb2, hacc => by
    obtain rfl : b = 0 := by simpa using hb
    simp [spec_l02Times.l0, pp]
  | k + 1, a, b, acc, ha, hb, hb2, hacc => by
    rw [spec_l02Times.l0]
    by_cases h0 : b = 0
    · subst h0; rw [pp_zero 0]; simp
    · rw [if_pos (by omega)]
      have hd := dbl_times ⟨a, ha⟩
      have hdl := dbl_lt ⟨a, ha⟩
      simp only at hd hdl
      have e1 : wrap64 ((a : Int) * 2) = ((2 * a : Nat) : Int) := by rw [w64n (by omega) (by omega)]; omega
      have e2 : wrap64 (Int.tdiv (b : Int) 2) = ((b / 2 : Nat) : Int) := by
        have : Int.tdiv (b : Int) 2 = ((b / 2 : Nat) : Int) := by rw [Int.tdiv_eq_ediv_of_nonneg (by omega)]; omega
        rw [this, w64n (by omega) (by omega)]
      have e3 : Int.tmod (b : Int) 2 = ((b % 2 : Nat) : Int) := by rw [Int.tmod_eq_emod_of_nonneg (by omega)]; omega
      rw [e1, e2, e3]
      have hb3 : b / 2 < 2 ^ k := by rw [Nat.pow_succ] at hb; omega
      have hnext : ∀ acc' : Nat, acc' < 256 → (if ((2 * a : Nat) : Int) ≥ 256 then spec_l02Times.l0 (k + 1) (bits .xor .i64 ((2 * a : Nat) : Int) 285) ((b / 2 : Nat) : Int) 285 256 (acc' : Int) else spec_l02Times.l0 (k + 1) ((2 * a : Nat) : Int) ((b / 2 : Nat) : Int) 285 256 (acc' : Int)) = some ((acc' ^^^ pp k (dbl a) (b / 2) : Nat) : Int) := by
        intro acc' hacc'
        by_cases hge : 2 * a ≥ 256
        · rw [if_pos (by omega), show (285 : Int) = ((285 : Nat) : Int) from rfl, xor_nat _ _ (by omega) (by omega)]
          rw [if_pos hge] at hd
          rw [hd]
          exact times_l0 k (dbl a) (b / 2) acc' hdl hb3 (by omega) hacc'
        · rw [if_neg (by omega)]
          rw [if_neg hge] at hd
          rw [hd]
          exact times_l0 k (dbl a) (b / 2) acc' hdl hb3 (by omega) hacc'
      by_cases hodd : b % 2 = 1
      · rw [if_pos (by omega), xor_nat _ _ (by omega) (by omega), hnext (acc ^^^ a) (Nat.xor_lt_two_pow (n := 8) hacc ha)]
        simp only [pp, if_pos hodd, Nat.xor_assoc]
      · rw [if_neg (by omega), hnext acc hacc]
        simp only [pp, if_neg hodd, Nat.zero_xor]
theorem mul8 (a b : Nat) (ha : a < 256) (hb : b < 256) : spec_Mul8.f 9 (a : Int) (b : Int) = some ((gmul a b : Nat) : Int) := by
  have h := times_l0 8 a b 0 ha (by omega) (by omega) (by omega)
  have hin : ∀ x : Nat, x < 256 → spec_l02In.f (x : Int) 256 = some true := by
    intro x hx
    unfold spec_l02In.f
    rw [if_pos (by omega), decide_eq_true (by omega)]
  unfold spec_Mul8.f spec_l02Times.f
  rw [hin a ha, hin b hb]
  simp only [Option.bind_some, if_true]
  have h' : spec_l02Times.l0 9 (a : Int) (b : Int) 285 256 0 = some ((0 ^^^ pp 8 a b : Nat) : Int) := h
  rw [h', Option.bind_some, gmul_pp a b ha hb, Nat.zero_xor]

theorem leO_more {α : Type} {F : Nat → Option α} (hm : ∀ k, LeO (F k) (F (k + 1))) {k : Nat} {r : α} (h : F k = some r) : ∀ n, F (k + n) = some r
  | 0 => h
  | n + 1 => hm (k + n) r (leO_more hm h n)
theorem leO_ge {α : Type} {F : Nat → Option α} (hm : ∀ k, LeO (F k) (F (k + 1))) {k k' : Nat} {r : α} (h : F k = some r) (hk : k ≤ k') : F k' = some r := by
  have := leO_more hm h (k' - k)
  rwa [Nat.add_sub_cancel' hk] at this
theorem mul8k (k a b : Nat) (hk : 9 ≤ k) (ha : a < 256) (hb : b < 256) : spec_Mul8.f k (a : Int) (b : Int) = some ((gmul a b : Nat) : Int) :=
  leO_ge (F := fun k => spec_Mul8.f k (a : Int) (b : Int)) (fun k => spec_Mul8.mono _ _ k) (mul8 a b ha hb) hk

/-! ### the inverse -/
theorem gdlog_exp : ∀ n : Fin 255, gdlog (gexp n.val) = n.val := by decide +kernel
theorem gexp_ne (n : Nat) : gexp n ≠ 0 := by
  have : ∀ n : Fin 255, gexp n.val ≠ 0 := by decide +kernel
  rw [← gexp_mod]
  exact this ⟨n % 255, Nat.mod_lt _ (by omega)⟩
theorem gexp_one {n : Nat} (h : gexp n = 1) : n % 255 = 0 := by
  have h2 : gexp (n % 255) = gexp 0 := by rw [gexp_mod, h]; rfl
  have h3 := gdlog_exp ⟨n % 255, Nat.mod_lt _ (by omega)⟩
  have h4 := gdlog_exp ⟨0, by omega⟩
  simp only at h3 h4
  rw [h2, h4] at h3
  exact h3.symm
theorem gmul_ginv (x : Nat) (hx : x < 256) (h0 : x ≠ 0) : gmul x (ginv x) = 1 ∧ ginv x ≠ 0 := by
  obtain ⟨q1, q2⟩ := tabL_val ⟨x, hx⟩ h0
  simp only at q1 q2
  have hg : ginv x = gexp ((255 - gdlog x) % 255) := by unfold ginv; rw [if_neg h0]
  have hne : ginv x ≠ 0 := by rw [hg]; exact gexp_ne _
  refine ⟨?_, hne⟩
  have h3 := gdlog_exp ⟨(255 - gdlog x) % 255, Nat.mod_lt _ (by omega)⟩
  simp only at h3
  unfold gmul
  rw [if_neg (by omega), hg, h3, gexp_mod]
  by_cases hz : gdlog x = 0
  · rw [hz]; decide
  · rw [Nat.mod_eq_of_lt (show 255 - gdlog x < 255 by omega), show gdlog x + (255 - gdlog x) = 255 by omega, gexp_255]
theorem gmul_one {x y : Nat} (hx : x < 256) (hy : y < 256) (h : gmul x y = 1) : y = ginv x := by
  unfold gmul at h
  split at h
  · omega
  · rename_i hn
    have hx0 : x ≠ 0 := by omega
    have hy0 : y ≠ 0 := by omega
    obtain ⟨q1, q2⟩ := tabL_val ⟨x, hx⟩ hx0
    obtain ⟨q3, q4⟩ := tabL_val ⟨y, hy⟩ hy0
    simp only at q1 q2 q3 q4
    have h1 := gexp_one h
    rw [Nat.mod_mod] at h1
    have hg : ginv x = gexp ((255 - gdlog x) % 255) := by unfold ginv; rw [if_neg hx0]
    rw [hg, gexp_mod, ← q3]
    rcases Nat.lt_or_ge (gdlog x + gdlog y) 255 with hl | hl
    · rw [Nat.mod_eq_of_lt hl] at h1
      have e1 : gdlog x = 0 := by omega
      have e2 : gdlog y = 0 := by omega
      rw [e1, e2, show 255 - 0 = 255 from rfl, gexp_255]; rfl
    · have : gdlog y = 255 - gdlog x := by
        rw [Nat.mod_eq_sub_mod hl, Nat.mod_eq_of_lt (by omega)] at h1; omega
      rw [this]
theorem inv_l0 (x : Nat) (hx : x < 256) : ∀ d y, y + d = 256 → 1 ≤ y → (∀ z, 1 ≤ z → z < y → gmul x z ≠ 1) → spec_Inv8.l0 (d + 10) (x : Int) (y : Int) = some ((ginv x : Nat) : Int)
  | 0, y, hyd, hy, hz => by
    obtain rfl : y = 256 := by omega
    rw [spec_Inv8.l0, if_neg (by omega)]
    by_cases h0 : x = 0
    · subst h0; have hg : ginv 0 = 0 := by unfold ginv; rw [if_pos rfl]
      rw [hg]; rfl
    · obtain ⟨h1, h2⟩ := gmul_ginv x hx h0
      exact absurd h1 (hz _ (by omega) (ginv_lt x))
  | d + 1, y, hyd, hy, hz => by
    rw [show d + 1 + 10 = (d + 10) + 1 by omega, spec_Inv8.l0, if_pos (by omega), mul8k (d + 10) x y (by omega) hx (by omega), Option.bind_some]
    by_cases h1 : gmul x y = 1
    · rw [if_pos (by rw [h1]; rfl), gmul_one hx (by omega) h1]
    · rw [if_neg (by omega)]
      have e : wrap64 ((y : Int) + 1) = ((y + 1 : Nat) : Int) := by rw [w64n (by omega) (by omega)]; omega
      rw [e]
      exact inv_l0 x hx d (y + 1) (by omega) (by omega) (fun z h2 h3 => by
        rcases Nat.lt_or_ge z y with h4 | h4
        · exact hz z h2 h4
        · obtain rfl : z = y := by omega
          exact h1)
theorem inv8k (k x : Nat) (hk : 265 ≤ k) (hx : x < 256) : spec_Inv8.f k (x : Int) = some ((ginv x : Nat) : Int) := by
  refine leO_ge (F := fun k => spec_Inv8.f k (x : Int)) (k := 265) (fun k => spec_Inv8.mono _ k) ?_ hk
  show spec_Inv8.f 265 (x : Int) = _
  unfold spec_Inv8.f
  have hin : spec_l02In.f (x : Int) 256 = some true := by
    unfold spec_l02In.f
    rw [if_pos (by omega), decide_eq_true (by omega)]
  rw [hin, Option.bind_some, if_pos rfl]
  exact inv_l0 x hx 255 1 (by omega) (by omega) (fun z h1 h2 => by omega)
end Go.Proofs.Ythollhmhcnpfiaa.QA
namespace Go.Proofs.Ythollhmhcnpfiaa.QA
open Go.RowKit Go.Proofs.YthollhmhcnpfiaaW.PrintWords Go.Proofs.YthollhmhcnpfiaaW.PrintLast
set_option linter.unusedVariables false
set_option linter.unusedSimpArgs false

/-- From some fuel on it is r. -/
def Evn {α : Type} (F : Nat → Option α) (r : α) : Prop := ∃ k0, ∀ k, k0 ≤ k → F k = some r
namespace Evn
variable {α β : Type} {F G : Nat → Option α} {r : α}
theorem const (r : α) : Evn (fun _ => some r) r := ⟨0, fun _ _ => rfl⟩
theorem step (h : Evn G r) (hs : ∀ k, F (k + 1) = G k) : Evn F r := by
  obtain ⟨k0, h⟩ := h
  exact ⟨k0 + 1, fun k hk => by obtain ⟨k', rfl⟩ : ∃ k', k = k' + 1 := ⟨k - 1, by omega⟩; rw [hs]; exact h k' (by omega)⟩
theorem of_eq (h : Evn G r) (hs : ∀ k, F k = G k) : Evn F r := by
  obtain ⟨k0, h⟩ := h
  exact ⟨k0, fun k hk => by rw [hs]; exact h k hk⟩
theorem bind {a : α} {H : α → Nat → Option β} {b : β} (h : Evn F a) (h2 : Evn (H a) b) : Evn (fun k => (F k).bind fun t => H t k) b := by
  obtain ⟨k0, h⟩ := h
  obtain ⟨k1, h2⟩ := h2
  exact ⟨k0 + k1, fun k hk => by show (F k).bind _ = _; rw [h k (by omega), Option.bind_some]; exact h2 k (by omega)⟩
theorem ge (k0 : Nat) (h : ∀ k, k0 ≤ k → F k = some r) : Evn F r := ⟨k0, h⟩
theorem one (h : Evn F r) : ∃ k, F k = some r := ⟨h.choose, h.choose_spec _ (Nat.le_refl _)⟩
end Evn
theorem wn (n : Nat) (h : n ≤ 9223372036854775807) : wrap64 (n : Int) = (n : Int) := w64n (by omega) (by omega)
theorem wn1 (n : Nat) (h : n < 9223372036854775807) : wrap64 ((n : Int) + 1) = ((n + 1 : Nat) : Int) := by rw [w64n (by omega) (by omega)]; omega
theorem rd_ints (xs : List Nat) (j : Nat) : rd (ints xs) (j : Int) = ((xs.getD j 0 : Nat) : Int) := by
  unfold rd ints
  rw [Int.toNat_natCast, List.getD_eq_getElem?_getD, List.getElem?_map, List.getD_eq_getElem?_getD]
  cases xs[j]? <;> rfl

theorem mix_l1 (rw_ : List Nat) (ds : List ByteArray) (n j : Nat) (hj : j < rw_.length) (h256 : ∀ x ∈ rw_, x < 256) (hlen : rw_.length ≤ ds.length) (hsz : ∀ s ∈ ds, s.size = n) (hn : n ≤ 4096) (hl : rw_.length ≤ 100000) (r : ByteArray)
    (hnext : Evn (fun k => spec_l04Mix.l0 k (ints rw_) ds (n : Int) (mixTo rw_ ds n (j + 1) 0) ((j + 1 : Nat) : Int)) r) :
    ∀ d i, i + d = n → Evn (fun k => spec_l04Mix.l1 k (ints rw_) ds (n : Int) (mixTo rw_ ds n j i) (j : Int) (i : Int)) r
  | 0, i, h => by
    obtain rfl : i = n := by omega
    refine hnext.step fun k => ?_
    rw [spec_l04Mix.l1, if_neg (by omega), wn1 j (by omega), mixTo_next]
  | d + 1, i, h => by
    have hb256 : rw_.getD j 0 < 256 := by
      rw [List.getD_eq_getElem?_getD, List.getElem?_eq_getElem hj]; exact h256 _ (List.getElem_mem _)
    have hdj : rdOf ByteArray.empty ds (j : Int) = ds.getD j ByteArray.empty := by unfold rdOf; rw [Int.toNat_natCast]
    have hsj : (ds.getD j ByteArray.empty).size = n := by
      rw [List.getD_eq_getElem?_getD, List.getElem?_eq_getElem (by omega)]; exact hsz _ (List.getElem_mem _)
    have ih := mix_l1 rw_ ds n j hj h256 hlen hsz hn hl r hnext d (i + 1) (by omega)
    have hb := Evn.bind (F := fun k => spec_Mul8.f k ((rw_.getD j 0 : Nat) : Int) ((bn (ds.getD j ByteArray.empty) i : Nat) : Int)) (H := fun t k => spec_l04Mix.l1 k (ints rw_) ds (n : Int) ((mixTo rw_ ds n j i).set i (bits .xor .u8 ((mixAt rw_ ds i j : Nat) : Int) (t % 256))) (j : Int) ((i + 1 : Nat) : Int)) (a := ((gmul (rw_.getD j 0) (bn (ds.getD j ByteArray.empty) i) : Nat) : Int)) (b := r)
      (Evn.ge 9 fun k hk => mul8k k _ _ hk hb256 (bn_lt _ _)) (by
        have hg := gmul_lt (rw_.getD j 0) (bn (ds.getD j ByteArray.empty) i)
        have e : ((gmul (rw_.getD j 0) (bn (ds.getD j ByteArray.empty) i) : Nat) : Int) % 256 = ((gmul (rw_.getD j 0) (bn (ds.getD j ByteArray.empty) i) : Nat) : Int) := by omega
        rw [e, u8_xor_nat _ _ (mixAt_lt _ _ _ _) hg, mixTo_set]
        exact ih)
    refine hb.step fun k => ?_
    have hr := mixTo_at rw_ ds n j i (by omega)
    have hrd : rd (mixTo rw_ ds n j i) (i : Int) = ((mixAt rw_ ds i j : Nat) : Int) := hr
    have hbb := bn_lt (ds.getD j ByteArray.empty) i
    have hil : (ints rw_).length = rw_.length := ints_len _
    rw [spec_l04Mix.l1, if_pos (by omega), if_pos (by omega), if_pos (by rw [mixTo_len]; omega), if_pos (by omega), if_pos (by omega), if_pos (by omega), if_pos (by rw [hdj, hsj]; omega),
      rd_ints, hdj, bn_bt, wn _ (by omega), wn1 i (by omega), hrd, Int.toNat_natCast]
theorem mix_l0 (rw_ : List Nat) (ds : List ByteArray) (n : Nat) (h256 : ∀ x ∈ rw_, x < 256) (hlen : rw_.length ≤ ds.length) (hsz : ∀ s ∈ ds, s.size = n) (hn : n ≤ 4096) (hl : rw_.length ≤ 100000) :
    ∀ e j, j + e = rw_.length → Evn (fun k => spec_l04Mix.l0 k (ints rw_) ds (n : Int) (mixTo rw_ ds n j 0) (j : Int)) (mixStr rw_ ds n)
  | 0, j, h => by
    obtain rfl : j = rw_.length := by omega
    refine (Evn.const _).step fun k => ?_
    rw [spec_l04Mix.l0, if_neg (by rw [ints_len]; omega)]
    rfl
  | e + 1, j, h => by
    have ih := mix_l0 rw_ ds n h256 hlen hsz hn hl e (j + 1) (by omega)
    by_cases hz : rw_.getD j 0 = 0
    · refine ih.step fun k => ?_
      rw [spec_l04Mix.l0, if_pos (by rw [ints_len]; omega), if_pos (by omega), rd_ints, if_pos (by omega), wn1 j (by omega), mixTo_skip rw_ ds n j hz]
    · refine (mix_l1 rw_ ds n j (by omega) h256 hlen hsz hn hl _ ih n 0 (by omega)).step fun k => ?_
      rw [spec_l04Mix.l0, if_pos (by rw [ints_len]; omega), if_pos (by omega), rd_ints, if_neg (by omega)]
      rfl
theorem mix_ev (rw_ : List Nat) (ds : List ByteArray) (n : Nat) (h256 : ∀ x ∈ rw_, x < 256) (hlen : rw_.length ≤ ds.length) (hsz : ∀ s ∈ ds, s.size = n) (hn : n ≤ 4096) (hl : rw_.length ≤ 100000) :
    Evn (fun k => spec_l04Mix.f k (ints rw_) ds (n : Int)) (mixStr rw_ ds n) := by
  refine (mix_l0 rw_ ds n h256 hlen hsz hn hl rw_.length 0 (by omega)).of_eq fun k => ?_
  unfold spec_l04Mix.f
  rw [if_pos (by omega), if_pos (by omega), Int.toNat_natCast, mixTo_start rw_ ds n]
  rfl

/-! ### the rows -/
theorem fault_zero (K M G : Nat) (hK : 1 ≤ K) (hK' : K ≤ 32) (hM : M ≤ 16) (hG : G ≤ K) (hS : K + M + G ≤ 64) : spec_CodeFault.f (K : Int) (M : Int) (G : Int) = some 0 := by
  unfold spec_CodeFault.f
  rw [if_neg (by omega), if_neg (by omega), if_neg (by omega), if_neg (by omega), if_neg (by omega), if_neg (by omega)]
  have e1 : wrap64 ((K : Int) + (M : Int)) = (K : Int) + (M : Int) := w64n (by omega) (by omega)
  have e2 : wrap64 ((K : Int) + (M : Int) + (G : Int)) = (K : Int) + (M : Int) + (G : Int) := w64n (by omega) (by omega)
  rw [e1, e2, if_neg (by omega)]
def invTo (K i j : Nat) : List Int := (List.range K).map fun t => if t < j then ((ginv (i ^^^ t) : Nat) : Int) else 0
theorem invTo_set (K i j : Nat) (hj : j < K) : (invTo K i j).set j ((ginv (i ^^^ j) : Nat) : Int) = invTo K i (j + 1) := by
  apply List.ext_getElem
  · simp [invTo]
  · intro t h1 h2
    simp only [List.getElem_set, invTo, List.getElem_map, List.getElem_range]
    by_cases he : j = t
    · subst he; simp
    · simp only [if_neg he]
      by_cases hl : t < j
      · rw [if_pos hl, if_pos (by omega)]
      · rw [if_neg hl, if_neg (by omega)]
theorem row_l0 (K M G i : Nat) (hK' : K ≤ 32) (hi : i < 64) : ∀ d j, j + d = K → Evn (fun k => spec_CodeRow.l0 k (i : Int) (invTo K i j) (j : Int) (K : Int) (M : Int) (G : Int)) (invTo K i K)
  | 0, j, h => by
    obtain rfl : j = K := by omega
    exact (Evn.const _).step fun k => by rw [spec_CodeRow.l0, if_neg (by omega)]
  | d + 1, j, h => by
    have ih := row_l0 K M G i hK' hi d (j + 1) (by omega)
    have hx : i ^^^ j < 256 := Nat.xor_lt_two_pow (n := 8) (by omega) (by omega)
    have hb := Evn.bind (F := fun k => spec_Inv8.f k ((i ^^^ j : Nat) : Int)) (H := fun t k => spec_CodeRow.l0 k (i : Int) ((invTo K i j).set j t) ((j + 1 : Nat) : Int) (K : Int) (M : Int) (G : Int)) (a := ((ginv (i ^^^ j) : Nat) : Int)) (b := invTo K i K)
      (Evn.ge 265 fun k hk => inv8k k _ hk hx) (by rw [invTo_set K i j (by omega)]; exact ih)
    refine hb.step fun k => ?_
    have hl : (invTo K i j).length = K := by simp [invTo]
    rw [spec_CodeRow.l0, if_pos (by omega), xor_nat _ _ (by omega) (by omega), wn1 j (by omega), Int.toNat_natCast]
    congr 1
    funext t
    rw [if_pos (by omega), if_pos (by omega)]
def eqTo (K G q j : Nat) : List Int := (List.range K).map fun t => if t % G = q ∧ t < j then 1 else 0
theorem row_l1 (K M G i : Nat) (hK' : K ≤ 32) (hM : M ≤ 16) (hi : i < 64) (hi0 : K + M ≤ i) (hG : 0 < G) : ∀ d j, j + d = K → Evn (fun k => spec_CodeRow.l1 k (i : Int) (eqTo K G (i - K - M) j) (j : Int) (K : Int) (M : Int) (G : Int)) (eqTo K G (i - K - M) K)
  | 0, j, h => by
    obtain rfl : j = K := by omega
    exact (Evn.const _).step fun k => by rw [spec_CodeRow.l1, if_neg (by omega)]
  | d + 1, j, h => by
    have ih := row_l1 K M G i hK' hM hi hi0 hG d (j + 1) (by omega)
    have hl : (eqTo K G (i - K - M) j).length = K := by simp [eqTo]
    have e1 : wrap64 ((i : Int) - (K : Int)) = (i : Int) - (K : Int) := w64n (by omega) (by omega)
    have e2 : wrap64 ((i : Int) - (K : Int) - (M : Int)) = ((i - K - M : Nat) : Int) := by rw [w64n (by omega) (by omega)]; omega
    have e3 : Int.tmod (j : Int) (G : Int) = ((j % G : Nat) : Int) := by rw [Int.tmod_eq_emod_of_nonneg (by omega)]; exact (Int.natCast_emod _ _).symm
    have hne : eqTo K G (i - K - M) (j + 1) = if j % G = i - K - M then (eqTo K G (i - K - M) j).set j 1 else eqTo K G (i - K - M) j := by
      apply List.ext_getElem
      · split <;> simp [eqTo]
      · intro t h1 h2
        have ht : t < K := by simpa [eqTo] using h1
        by_cases hq : j % G = i - K - M
        · simp only [if_pos hq, List.getElem_set, eqTo, List.getElem_map, List.getElem_range]
          by_cases he : j = t
          · subst he; rw [if_pos rfl, if_pos ⟨hq, by omega⟩]
          · rw [if_neg he]
            by_cases hl : t % G = i - K - M ∧ t < j
            · rw [if_pos hl, if_pos ⟨hl.1, by omega⟩]
            · rw [if_neg hl, if_neg (fun h => hl ⟨h.1, by omega⟩)]
        · simp only [if_neg hq, eqTo, List.getElem_map, List.getElem_range]
          by_cases hl : t % G = i - K - M ∧ t < j
          · rw [if_pos hl, if_pos ⟨hl.1, by omega⟩]
          · rw [if_neg hl, if_neg]
            rintro ⟨h3, h4⟩
            by_cases he : t = j
            · subst he; exact hq h3
            · exact hl ⟨h3, by omega⟩
    rw [hne] at ih
    refine ih.step fun k => ?_
    rw [spec_CodeRow.l1, if_pos (by omega), if_neg (by omega), e1, e2, e3, wn1 j (by omega), Int.toNat_natCast]
    by_cases hq : j % G = i - K - M
    · rw [if_pos (by omega), if_pos hq, if_pos (by omega), if_pos (by omega)]
    · rw [if_neg (by omega), if_neg hq]
theorem row_ev (K M G i : Nat) (hK : 1 ≤ K) (hK' : K ≤ 32) (hM : M ≤ 16) (hG : G ≤ K) (hS : K + M + G ≤ 64) (hi : i < K + M + G) : Evn (fun k => spec_CodeRow.f k (K : Int) (M : Int) (G : Int) (i : Int)) (ints (rowOf K M G i)) := by
  have e1 : wrap64 ((K : Int) + (M : Int)) = (K : Int) + (M : Int) := w64n (by omega) (by omega)
  have e2 : wrap64 ((K : Int) + (M : Int) + (G : Int)) = (K : Int) + (M : Int) + (G : Int) := w64n (by omega) (by omega)
  have main : Evn (fun k => spec_CodeRow.j0 k (i : Int) false (K : Int) (M : Int) (G : Int)) (ints (rowOf K M G i)) := by
    by_cases h1 : i < K
    · refine (Evn.const _).step fun k => ?_
      rw [spec_CodeRow.j0, if_neg (by simp), if_pos (by omega), if_pos (by omega), Option.bind_some, Int.toNat_natCast, if_pos (by omega), if_pos (by omega), if_pos (by simp; omega), Int.toNat_natCast]
      congr 1
      apply List.ext_getElem
      · simp [ints, rowOf_len]
      · intro j h2 h3
        simp only [ints, rowOf, if_pos h1, List.getElem_set, List.getElem_map, List.getElem_range, List.getElem_replicate]
        by_cases e : i = j
        · simp [e]
        · simp [e, Ne.symm e]
    · by_cases h2 : i < K + M
      · have hz : List.replicate K (0 : Int) = invTo K i 0 := by
          apply List.ext_getElem
          · simp [invTo]
          · intro t _ _; simp [invTo]
        have hr : ints (rowOf K M G i) = invTo K i K := by
          unfold ints rowOf invTo
          rw [if_neg h1, if_pos h2, List.map_map]
          apply List.map_congr_left
          intro t ht
          rw [List.mem_range] at ht
          rw [if_pos ht]; rfl
        rw [hr]
        refine (row_l0 K M G i hK' (by omega) K 0 (by omega)).step fun k => ?_
        rw [spec_CodeRow.j0, if_neg (by simp), if_pos (by omega), if_pos (by omega), Option.bind_some, Int.toNat_natCast, if_neg (by omega), e1, if_pos (by omega), hz]
        rfl
      · have hz : List.replicate K (0 : Int) = eqTo K G (i - K - M) 0 := by
          apply List.ext_getElem
          · simp [eqTo]
          · intro t _ _; simp [eqTo]
        have hr : ints (rowOf K M G i) = eqTo K G (i - K - M) K := by
          unfold ints rowOf eqTo
          rw [if_neg h1, if_neg h2, List.map_map]
          apply List.map_congr_left
          intro t ht
          rw [List.mem_range] at ht
          by_cases e : t % G = i - K - M
          · simp [e, ht]
          · simp [e]
        rw [hr]
        refine (row_l1 K M G i hK' hM (by omega) (by omega) (by omega) K 0 (by omega)).step fun k => ?_
        rw [spec_CodeRow.j0, if_neg (by simp), if_pos (by omega), if_pos (by omega), Option.bind_some, Int.toNat_natCast, if_neg (by omega), e1, if_neg (by omega), hz]
        rfl
  refine main.of_eq fun k => ?_
  unfold spec_CodeRow.f
  rw [fault_zero K M G hK hK' hM hG hS, Option.bind_some, if_pos rfl, if_neg (by omega), e1, e2, decide_eq_false (by omega)]
end Go.Proofs.Ythollhmhcnpfiaa.QA
namespace Go.Proofs.Ythollhmhcnpfiaa.QA
open Go.RowKit Go.Proofs.YthollhmhcnpfiaaW.PrintWords Go.Proofs.YthollhmhcnpfiaaW.PrintLast
set_option linter.unusedVariables false
set_option linter.unusedSimpArgs false

theorem gmul_unit : ∀ x : Fin 256, gmul 1 x.val = x.val := by decide +kernel
theorem gmul_null (x : Nat) : gmul 0 x = 0 := by unfold gmul; rw [if_pos (.inl rfl)]
theorem ident_at (K M G i : Nat) (hi : i < K) (t : Nat) (ht : t < K) : (rowOf K M G i).getD t 0 = if t = i then 1 else 0 := by
  unfold rowOf
  rw [if_pos hi, List.getD_eq_getElem?_getD, List.getElem?_map, List.getElem?_range ht]
  rfl
theorem mixAt_ident (K M G i : Nat) (hi : i < K) (ds : List ByteArray) (p : Nat) : ∀ j, j ≤ K → mixAt (rowOf K M G i) ds p j = if i < j then bn (ds.getD i ByteArray.empty) p else 0
  | 0, _ => rfl
  | j + 1, h => by
    rw [mixAt, mixAt_ident K M G i hi ds p j (by omega), ident_at K M G i hi j (by omega)]
    by_cases e : j = i
    · subst e
      rw [if_neg (by omega), if_pos rfl, if_pos (by omega), Nat.zero_xor]
      exact gmul_unit ⟨_, bn_lt _ _⟩
    · rw [if_neg e, gmul_null, Nat.xor_zero]
      by_cases hl : i < j
      · rw [if_pos hl, if_pos (by omega)]
      · rw [if_neg hl, if_neg (by omega)]
theorem nums_back (s : ByteArray) (n : Nat) (h : s.size = n) : strOfNums ((List.range n).map fun p => ((bn s p : Nat) : Int)) = s := by
  apply ByteArray.ext
  apply Array.ext'
  rw [strOfNums_data, List.map_map]
  apply List.ext_getElem
  · simp; rw [← h]
  · intro p h1 h2
    have hp : p < s.size := by simpa [h] using h1
    simp only [List.getElem_map, List.getElem_range, Function.comp, Int.toNat_natCast]
    have : bn s p = (s[p]'hp).toNat := by
      unfold bn bt
      rw [dif_pos (by simpa using hp)]
      rfl
    rw [this, UInt8.ofNat_toNat]
    rfl
theorem shard_mix (K M G n : Nat) (ds : List ByteArray) (i : Nat) (hds : ds.length = K) (hsz : ∀ s ∈ ds, s.size = n) : mixStr (rowOf K M G i) ds n = shardOf K M G n ds i := by
  unfold shardOf
  by_cases hi : i < K
  · rw [if_pos hi]
    unfold mixStr mixTo
    rw [rowOf_len]
    have hs : (ds.getD i ByteArray.empty).size = n := by
      rw [List.getD_eq_getElem?_getD, List.getElem?_eq_getElem (by omega)]; exact hsz _ (List.getElem_mem _)
    rw [← nums_back (ds.getD i ByteArray.empty) n hs]
    congr 1
    apply List.map_congr_left
    intro p _
    rw [if_neg (by omega), mixAt_ident K M G i hi ds p K (Nat.le_refl _), if_pos hi]
  · rw [if_neg hi]

theorem size_val (K M G : Nat) (hK : 1 ≤ K) (hK' : K ≤ 32) (hM : M ≤ 16) (hG : G ≤ K) (hS : K + M + G ≤ 64) : spec_CodeSize.f (K : Int) (M : Int) (G : Int) = some ((K + M + G : Nat) : Int) := by
  unfold spec_CodeSize.f
  have e1 : wrap64 ((K : Int) + (M : Int)) = (K : Int) + (M : Int) := w64n (by omega) (by omega)
  have e2 : wrap64 ((K : Int) + (M : Int) + (G : Int)) = ((K + M + G : Nat) : Int) := by rw [w64n (by omega) (by omega)]; omega
  rw [fault_zero K M G hK hK' hM hG hS, Option.bind_some, if_pos rfl, e1, e2]
theorem all_l0 (K M G n : Nat) (ds : List ByteArray) (hK : 1 ≤ K) (hK' : K ≤ 32) (hM : M ≤ 16) (hG : G ≤ K) (hS : K + M + G ≤ 64) (hds : ds.length = K) (hsz : ∀ s ∈ ds, s.size = n) (hn : n ≤ 4096) :
    ∀ d i, i + d = K + M + G → Evn (fun k => spec_l04All.l0 k ds (n : Int) (shardsTo K M G n ds i) (i : Int) (K : Int) (M : Int) (G : Int)) (shardsTo K M G n ds (K + M + G))
  | 0, i, h => by
    obtain rfl : i = K + M + G := by omega
    refine (Evn.const _).step fun k => ?_
    rw [spec_l04All.l0, size_val K M G hK hK' hM hG hS, Option.bind_some, if_neg (by omega)]
  | d + 1, i, h => by
    have ih := all_l0 K M G n ds hK hK' hM hG hS hds hsz hn d (i + 1) (by omega)
    have hm := mix_ev (rowOf K M G i) ds n (rowOf_256 K M G i) (by rw [rowOf_len]; omega) hsz hn (by rw [rowOf_len]; omega)
    rw [shard_mix K M G n ds i hds hsz] at hm
    have hb := Evn.bind (H := fun row k => (spec_l04Mix.f k row ds (n : Int)).bind fun t => spec_l04All.l0 k ds (n : Int) (shardsTo K M G n ds i ++ [t]) ((i + 1 : Nat) : Int) (K : Int) (M : Int) (G : Int)) (row_ev K M G i hK hK' hM hG hS (by omega))
      (Evn.bind (H := fun t k => spec_l04All.l0 k ds (n : Int) (shardsTo K M G n ds i ++ [t]) ((i + 1 : Nat) : Int) (K : Int) (M : Int) (G : Int)) hm (by rw [← shardsTo_succ]; exact ih))
    refine hb.step fun k => ?_
    rw [spec_l04All.l0, size_val K M G hK hK' hM hG hS, Option.bind_some, if_pos (by omega), wn1 i (by omega)]
    congr 1
    funext row
    congr 1
    funext t
    rw [if_pos (by rw [shardsTo_len]; omega)]
theorem all_ev (K M G n : Nat) (ds : List ByteArray) (hK : 1 ≤ K) (hK' : K ≤ 32) (hM : M ≤ 16) (hG : G ≤ K) (hS : K + M + G ≤ 64) (hds : ds.length = K) (hsz : ∀ s ∈ ds, s.size = n) (hn : n ≤ 4096) :
    Evn (fun k => spec_l04All.f k (K : Int) (M : Int) (G : Int) ds (n : Int)) (shardsTo K M G n ds (K + M + G)) :=
  (all_l0 K M G n ds hK hK' hM hG hS hds hsz hn (K + M + G) 0 (by omega)).of_eq fun k => rfl

/-! ### EncodeShards of good data -/
theorem len_l0 (ds : List ByteArray) (n : Nat) (hsz : ∀ s ∈ ds, s.size = n) (hn : 1 ≤ n) (hn' : n ≤ 4096) (hl : ds.length ≤ 100000) :
    ∀ d i (v : Int), i + d = ds.length → (v = (n : Int) ∨ v = -1) → (d = 0 → v = (n : Int)) → Evn (fun k => spec_l04Len.l0 k ds (List.replicate ds.length true) v (i : Int)) (n : Int)
  | 0, i, v, h, hv, h0 => by
    refine (Evn.const _).step fun k => ?_
    rw [spec_l04Len.l0, if_neg (by omega), h0 rfl]
  | d + 1, i, v, h, hv, h0 => by
    have ih := len_l0 ds n hsz hn hn' hl d (i + 1) (n : Int) (by omega) (.inl rfl) (fun _ => rfl)
    have hs : (rdOf ByteArray.empty ds (i : Int)).size = n := by
      unfold rdOf
      rw [Int.toNat_natCast, List.getD_eq_getElem?_getD, List.getElem?_eq_getElem (by omega)]; exact hsz _ (List.getElem_mem _)
    have ht : rdOf false (List.replicate ds.length true) (i : Int) = true := by
      unfold rdOf
      rw [Int.toNat_natCast, List.getD_eq_getElem?_getD, List.getElem?_replicate, if_pos (by omega)]; rfl
    refine ih.step fun k => ?_
    rw [spec_l04Len.l0, if_pos (by omega), if_pos (by omega), if_pos (by rw [List.length_replicate]; omega), if_pos ht, hs, wn1 i (by omega)]
    rcases hv with rfl | rfl
    · rw [if_pos (by omega), if_pos rfl, if_neg (by omega), if_neg (by omega)]
    · rw [if_neg (by omega), if_neg (by omega), if_neg (by omega)]
theorem count_l0 (K M G n : Nat) (ds : List ByteArray) (hds : ds.length = K) (hl : K ≤ 32) (r : Int × List ByteArray)
    (hnext : Evn (fun k => (spec_l04Len.f k ds (List.replicate ds.length true)).bind fun t344 => (if t344 < 0 then (some (2, ([] : List ByteArray))) else ((spec_l04All.f k (K : Int) (M : Int) (G : Int) ds t344).bind fun t345 => (some (0, t345))))) r) :
    ∀ d i, i + d = K → Evn (fun k => spec_EncodeShards.l0 k ds (List.replicate i true ++ List.replicate d false) (i : Int) (K : Int) (M : Int) (G : Int)) r
  | 0, i, h => by
    obtain rfl : i = K := by omega
    refine hnext.step fun k => ?_
    rw [spec_EncodeShards.l0, if_neg (by simp), hds]
    simp
  | d + 1, i, h => by
    have ih := count_l0 K M G n ds hds hl r hnext d (i + 1) (by omega)
    refine ih.step fun k => ?_
    rw [spec_EncodeShards.l0, if_pos (by simp; omega), if_pos (by omega), wn1 i (by omega), Int.toNat_natCast]
    congr 1
    rw [List.set_append_right _ _ (by simp), List.length_replicate, Nat.sub_self, List.replicate_succ, List.set_cons_zero, List.replicate_succ', List.append_assoc]
    rfl
theorem encode_ev (K M G n : Nat) (ds : List ByteArray) (hK : 1 ≤ K) (hK' : K ≤ 32) (hM : M ≤ 16) (hG : G ≤ K) (hS : K + M + G ≤ 64) (hds : ds.length = K) (hsz : ∀ s ∈ ds, s.size = n) (hn : 1 ≤ n) (hn' : n ≤ 4096) :
    Evn (fun k => spec_EncodeShards.f k (K : Int) (M : Int) (G : Int) ds) (0, shardsTo K M G n ds (K + M + G)) := by
  have hlen : Evn (fun k => spec_l04Len.f k ds (List.replicate ds.length true)) (n : Int) :=
    (len_l0 ds n hsz hn hn' (by omega) ds.length 0 (-1) (by omega) (.inr rfl) (fun h => by omega)).of_eq fun k => rfl
  have hb := Evn.bind (H := fun t344 k => (if t344 < 0 then (some (2, ([] : List ByteArray))) else ((spec_l04All.f k (K : Int) (M : Int) (G : Int) ds t344).bind fun t345 => (some ((0 : Int), t345))))) (b := ((0 : Int), shardsTo K M G n ds (K + M + G))) hlen
    ((Evn.bind (H := fun t345 _ => some ((0 : Int), t345)) (all_ev K M G n ds hK hK' hM hG hS hds hsz hn') (Evn.const _)).of_eq fun k => by rw [if_neg (by omega)])
  have hc := count_l0 K M G n ds hds hK' _ hb K 0 (by omega)
  refine Evn.of_eq (G := fun k => spec_EncodeShards.j0 k ds false (K : Int) (M : Int) (G : Int)) (hc.step fun k => ?_) fun k => ?_
  · rw [spec_EncodeShards.j0, if_neg (by simp), if_pos (by omega), if_pos (by omega), Int.toNat_natCast, hds]
    simp
  · unfold spec_EncodeShards.f
    rw [fault_zero K M G hK hK' hM hG hS, Option.bind_some, if_pos rfl]
    have : ((ds.length : Int) != (K : Int)) = false := by simp [hds]
    rw [this]

/-! ### the stripes -/
def bytesTo (U : Nat) (data : ByteArray) (o j : Nat) : List Int := (List.range U).map fun p => if p < j then bt data ((o + p : Nat) : Int) else 0
theorem bytesTo_len (U : Nat) (data : ByteArray) (o j : Nat) : (bytesTo U data o j).length = U := by simp [bytesTo]
theorem bytesTo_set (U : Nat) (data : ByteArray) (o j : Nat) : (bytesTo U data o j).set j (bt data ((o + j : Nat) : Int)) = bytesTo U data o (j + 1) := by
  apply List.ext_getElem
  · simp [bytesTo]
  · intro t h1 h2
    simp only [List.getElem_set, bytesTo, List.getElem_map, List.getElem_range]
    by_cases he : j = t
    · subst he; simp
    · simp only [if_neg he]
      by_cases hl : t < j
      · rw [if_pos hl, if_pos (by omega)]
      · rw [if_neg hl, if_neg (by omega)]
theorem bytesTo_end (U : Nat) (data : ByteArray) (o j : Nat) (h : U ≤ j ∨ data.size ≤ o + j) : bytesTo U data o j = wholeOf U data o := by
  unfold bytesTo wholeOf
  apply List.map_congr_left
  intro p hp
  rw [List.mem_range] at hp
  by_cases hl : p < j
  · rw [if_pos hl]
  · rw [if_neg hl]
    unfold bt
    rw [dif_neg (by simp; omega)]
theorem split_l2 (K M G U t i kk : Nat) (data : ByteArray) (xs : List S46) (r : Int × List S46) (hU : U ≤ 4096) (hi : i ≤ 200) (hK : K ≤ 32) (hkk : kk < K) (hd : data.size ≤ 100000) 
    (hnext : Evn (fun k => spec_SplitObject.l1 k (U : Int) data (t : Int) xs (i : Int) (partsTo K U data i (kk + 1)) ((kk + 1 : Nat) : Int) (K : Int) (M : Int) (G : Int)) r) :
    ∀ d j, j + d = U → Evn (fun k => spec_SplitObject.l2 k (U : Int) data (t : Int) xs (i : Int) (partsTo K U data i kk) (kk : Int) (bytesTo U data (i * K * U + kk * U) j) ((i * K * U + kk * U : Nat) : Int) (j : Int) (K : Int) (M : Int) (G : Int)) r := by
  have h1 : i * K * U ≤ 200 * 32 * 4096 := Nat.mul_le_mul (Nat.mul_le_mul hi hK) hU
  have h2 : kk * U ≤ 32 * 4096 := Nat.mul_le_mul (by omega) hU
  obtain ⟨o, ho⟩ : ∃ o, o = i * K * U + kk * U := ⟨_, rfl⟩
  have hpl : (partsTo K U data i kk).length = kk := by simp [partsTo]
  have hstop : ∀ j, (U ≤ j ∨ data.size ≤ o + j) → ∀ k, (if (partsTo K U data i kk).length < 8796093022208 then (spec_SplitObject.l1 k (U : Int) data (t : Int) xs (i : Int) (partsTo K U data i kk ++ [strOfNums (bytesTo U data o j)]) (wrap64 ((kk : Int) + 1)) (K : Int) (M : Int) (G : Int)) else none) = spec_SplitObject.l1 k (U : Int) data (t : Int) xs (i : Int) (partsTo K U data i (kk + 1)) ((kk + 1 : Nat) : Int) (K : Int) (M : Int) (G : Int) := by
    intro j hj k
    rw [if_pos (by omega), wn1 kk (by omega), bytesTo_end U data o j hj, partsTo_succ, ← ho]
    rfl
  rw [← ho]
  have ho2 : o ≤ 26345472 := by omega
  clear h1 h2 ho
  intro d
  induction d with
  | zero =>
    intro j h
    refine hnext.step fun k => ?_
    rw [spec_SplitObject.l2, if_neg (by omega), hstop j (.inl (by omega))]
  | succ d ihd =>
    intro j h
    have e1 : wrap64 ((o : Int) + (j : Int)) = ((o + j : Nat) : Int) := by rw [w64n (by omega) (by omega)]; omega
    by_cases hlt : o + j < data.size
    · have ih := ihd (j + 1) (by omega)
      refine ih.step fun k => ?_
      rw [spec_SplitObject.l2, if_pos (by omega), e1, if_pos (by omega), if_pos (by omega), if_pos (by omega), if_pos (by rw [bytesTo_len]; omega), Int.toNat_natCast, bytesTo_set, wn1 j (by omega)]
    · refine hnext.step fun k => ?_
      rw [spec_SplitObject.l2, if_pos (by omega), e1, if_neg (by omega), hstop j (.inr (by omega))]
theorem split_l1 (K M G U t i : Nat) (data : ByteArray) (xs : List S46) (r : Int × List S46) (hK : 1 ≤ K) (hK' : K ≤ 32) (hM : M ≤ 16) (hG : G ≤ K) (hS : K + M + G ≤ 64) (hU0 : 1 ≤ U) (hU : U ≤ 4096) (hi : i ≤ 200) (hd : Hid (data.size ≤ 100000)) (hx : xs.length ≤ 1000)
    (hnext : Evn (fun k => spec_SplitObject.l0 k (U : Int) data (t : Int) (xs ++ [stripeOf K M G U data i]) ((i + 1 : Nat) : Int) (K : Int) (M : Int) (G : Int)) r) :
    ∀ d kk, kk + d = K → Evn (fun k => spec_SplitObject.l1 k (U : Int) data (t : Int) xs (i : Int) (partsTo K U data i kk) (kk : Int) (K : Int) (M : Int) (G : Int)) r
  | 0, kk, h => by
    obtain rfl : kk = K := by omega
    have he := encode_ev kk M G U (partsTo kk U data i kk) hK hK' hM hG hS (by simp [partsTo]) (by intro s hs; simp only [partsTo, List.mem_map] at hs; obtain ⟨t, _, rfl⟩ := hs; unfold partOf; rw [strOfNums_size, wholeOf_len]) hU0 hU
    have hb := Evn.bind (H := fun bt408 k => (if xs.length < 5864062014805 then (spec_SplitObject.l0 k (U : Int) data (t : Int) (xs ++ [(⟨bt408.2⟩ : S46)]) (wrap64 ((i : Int) + 1)) (kk : Int) (M : Int) (G : Int)) else none)) (b := r) he (hnext.of_eq fun k => by rw [if_pos (by omega), wn1 i (by omega)]; rfl)
    refine hb.step fun k => ?_
    rw [spec_SplitObject.l1, if_neg (by omega)]
  | d + 1, kk, h => by
    have ih := split_l1 K M G U t i data xs r hK hK' hM hG hS hU0 hU hi hd hx hnext d (kk + 1) (by omega)
    have h2 := split_l2 K M G U t i kk data xs r hU hi hK' (by omega) hd.out ih U 0 (by omega)
    refine h2.step fun k => ?_
    have m1 : i * K ≤ 200 * 32 := Nat.mul_le_mul hi hK'
    have m2 : (i * K + kk) * U ≤ (200 * 32 + 32) * 4096 := Nat.mul_le_mul (by omega) hU
    have m1' : i * K + kk ≤ 9223372036854775807 := Nat.le_trans (Nat.add_le_add m1 (show kk ≤ 32 by omega)) (by decide)
    have m1'' : i * K ≤ 9223372036854775807 := Nat.le_trans m1 (by decide)
    have m2' : (i * K + kk) * U ≤ 9223372036854775807 := Nat.le_trans m2 (by decide)
    have e1 : wrap64 ((i : Int) * (K : Int)) = ((i * K : Nat) : Int) := by rw [← Int.natCast_mul]; exact wn _ m1''
    have e2 : wrap64 (((i * K : Nat) : Int) + (kk : Int)) = ((i * K + kk : Nat) : Int) := by rw [← Int.natCast_add]; exact wn _ m1'
    have e3 : wrap64 (((i * K + kk : Nat) : Int) * (U : Int)) = ((i * K * U + kk * U : Nat) : Int) := by rw [← Int.natCast_mul, ← Nat.add_mul]; exact wn _ m2'
    rw [spec_SplitObject.l1, if_pos (by omega), if_pos (by omega), if_pos (by omega), e1, e2, e3, Int.toNat_natCast]
    congr 1
    apply List.ext_getElem
    · simp [bytesTo]
    · intro p _ _; simp [bytesTo]
theorem split_l0 (K M G U t : Nat) (data : ByteArray) (hK : 1 ≤ K) (hK' : K ≤ 32) (hM : M ≤ 16) (hG : G ≤ K) (hS : K + M + G ≤ 64) (hU0 : 1 ≤ U) (hU : U ≤ 4096) (ht : t ≤ 200) (hd : Hid (data.size ≤ 100000)) :
    ∀ d i, i + d = t → Evn (fun k => spec_SplitObject.l0 k (U : Int) data (t : Int) (stripesTo K M G U data i) (i : Int) (K : Int) (M : Int) (G : Int)) (0, stripesTo K M G U data t)
  | 0, i, h => by
    obtain rfl : i = t := by omega
    exact (Evn.const _).step fun k => by rw [spec_SplitObject.l0, if_neg (by omega)]
  | d + 1, i, h => by
    have ih := split_l0 K M G U t data hK hK' hM hG hS hU0 hU ht hd d (i + 1) (by omega)
    rw [stripesTo_succ] at ih
    refine (split_l1 K M G U t i data (stripesTo K M G U data i) _ hK hK' hM hG hS hU0 hU (by omega) hd (by rw [stripesTo_len]; omega) ih K 0 (by omega)).step fun k => ?_
    rw [spec_SplitObject.l0, if_pos (by omega)]
    rfl
end Go.Proofs.Ythollhmhcnpfiaa.QA
namespace Go.Proofs.Ythollhmhcnpfiaa.QA
open Go.RowKit Go.Proofs.YthollhmhcnpfiaaW.PrintWords Go.Proofs.YthollhmhcnpfiaaW.PrintLast
set_option linter.unusedVariables false
set_option linter.unusedSimpArgs false

theorem scode_same (K M G : Int) : spec_CodeFault.f K M G = impl_CodeFault.f K M G := rfl
theorem sj_same : ∀ (k : Nat) (u s : Int) (b : Bool) (K M G : Int), spec_StripeCount.j0 k u s b K M G = impl_StripeCount.j0 k u s b K M G
  | 0, _, _, _, _, _, _ => rfl
  | _ + 1, _, _, _, _, _, _ => rfl
theorem sc_same (k : Nat) (K M G u s : Int) : spec_StripeCount.f k K M G u s = impl_StripeCount.f k K M G u s := by
  unfold spec_StripeCount.f impl_StripeCount.f
  rw [scode_same]
  simp only [sj_same]
theorem scode_ex (K M G : Int) : ∃ c, impl_CodeFault.f K M G = some c ∧ (c = 0 → 1 ≤ K ∧ K ≤ 32) := by
  unfold impl_CodeFault.f
  repeat' split
  all_goals exact ⟨_, rfl, by omega⟩
theorem sc_ex (K M G u s : Int) : ∃ t, impl_StripeCount.f 1 K M G u s = some t := by
  obtain ⟨c, hc, hc0⟩ := scode_ex K M G
  unfold impl_StripeCount.f
  rw [hc]
  simp only [Option.bind_some]
  have hb : ∀ (b : Bool), b = true ∨ (1 ≤ K ∧ K ≤ 32 ∧ 1 ≤ u ∧ u ≤ 4096) → ∃ t, impl_StripeCount.j0 1 u s b K M G = some t := by
    intro b h
    simp only [impl_StripeCount.j0]
    by_cases hb : b = true
    · exact ⟨_, by rw [if_pos hb]⟩
    · obtain ⟨h1, h2, h3, h4⟩ : 1 ≤ K ∧ K ≤ 32 ∧ 1 ≤ u ∧ u ≤ 4096 := h.resolve_left hb
      have a1 : 1 ≤ K * u := by have := Int.mul_le_mul h1 h3 (by omega) (by omega); omega
      have a2 : K * u ≤ 131072 := by have := Int.mul_le_mul h2 h4 (by omega) (by omega); omega
      rw [if_neg hb, w64n (n := K * u) (by omega) (by omega), if_neg (by omega)]
      split
      · exact ⟨_, rfl⟩
      · exact ⟨_, rfl⟩
  by_cases h0 : c = 0
  · rw [if_pos h0]
    by_cases h1 : u < 1
    · rw [if_pos h1]; exact hb true (.inl rfl)
    rw [if_neg h1]
    by_cases h2 : u > 4096
    · rw [if_pos h2]; exact hb true (.inl rfl)
    rw [if_neg h2]
    by_cases h3 : s < 0
    · rw [if_pos h3]; exact hb true (.inl rfl)
    rw [if_neg h3]
    have := hc0 h0
    exact hb _ (.inr (by omega))
  · rw [if_neg h0]; exact hb true (.inl rfl)

/-- No more than this many shards, of no more than this many stripes. -/
def Small (xs : List S46) : Prop := xs.length ≤ 200 ∧ ∀ x ∈ xs, x.f0.length ≤ 64
theorem split_ev (a0 a1 a2 a3 : Int) (data : ByteArray) : ∃ c xs, Evn (fun k => spec_SplitObject.f k a0 a1 a2 a3 data) (c, xs) ∧ Evn (fun k => impl_SplitObject.f k a0 a1 a2 a3 data) (c, xs) ∧ Small xs := by
  obtain ⟨t, ht⟩ := sc_ex a0 a1 a2 a3 (data.size : Int)
  have hi : Evn (fun k => impl_StripeCount.f k a0 a1 a2 a3 (data.size : Int)) t := Evn.ge 1 fun k hk => leO_ge (F := fun k => impl_StripeCount.f k a0 a1 a2 a3 (data.size : Int)) (fun k => impl_StripeCount.mono _ _ _ _ _ k) ht hk
  have hs : Evn (fun k => spec_StripeCount.f k a0 a1 a2 a3 (data.size : Int)) t := hi.of_eq fun k => sc_same k _ _ _ _ _
  by_cases h0 : t < 0
  · refine ⟨1, [], ?_, ?_, by simp [Small]⟩
    · exact Evn.bind (H := fun t401 k => (if t401 < 0 then (some (1, ([] : List (S46)))) else (spec_SplitObject.l0 k a3 data t401 (([] : List (S46))) 0 a0 a1 a2))) hs ((Evn.const _).of_eq fun k => by rw [if_pos h0])
    · exact (Evn.bind (H := fun t _ => if t < 0 then some (1, []) else some (0, stripesTo a0.toNat a1.toNat a2.toNat a3.toNat data t.toNat)) hi ((Evn.const _).of_eq fun k => by rw [if_pos h0])).of_eq fun k => by unfold impl_SplitObject.f; rfl
  · obtain ⟨⟨h1, h2, h3, h4, h5, h6, h7⟩, h8, h9, h10, h11, h12, h13⟩ := stripe_facts ht h0
    refine ⟨0, stripesTo a0.toNat a1.toNat a2.toNat a3.toNat data t.toNat, ?_, ?_, ?_⟩
    · refine Evn.bind (H := fun t401 k => (if t401 < 0 then (some (1, ([] : List (S46)))) else (spec_SplitObject.l0 k a3 data t401 (([] : List (S46))) 0 a0 a1 a2))) hs ?_
      have hl := split_l0 a0.toNat a1.toNat a2.toNat a3.toNat t.toNat data (by omega) (by omega) (by omega) (by omega) (by omega) (by omega) (by omega) (by omega) (Lib.hid (show data.size ≤ 100000 by omega)) t.toNat 0 (by omega)
      rw [Int.toNat_of_nonneg (show 0 ≤ a0 by omega), Int.toNat_of_nonneg (show 0 ≤ a1 by omega), Int.toNat_of_nonneg (show 0 ≤ a2 by omega), Int.toNat_of_nonneg (show 0 ≤ a3 by omega), Int.toNat_of_nonneg (show 0 ≤ t by omega)] at hl
      exact hl.of_eq fun k => by rw [if_neg h0]; rfl
    · exact (Evn.bind (H := fun t _ => if t < 0 then some (1, []) else some (0, stripesTo a0.toNat a1.toNat a2.toNat a3.toNat data t.toNat)) hi ((Evn.const _).of_eq fun k => by rw [if_neg h0])).of_eq fun k => by unfold impl_SplitObject.f; rfl
    · refine ⟨by rw [stripesTo_len]; omega, fun x hx => ?_⟩
      simp only [stripesTo, List.mem_map] at hx
      obtain ⟨s, _, rfl⟩ := hx
      show (shardsTo _ _ _ _ _ _).length ≤ 64
      rw [shardsTo_len]; omega

/-! ### equal -/
theorem rdL {xs : List ByteArray} {i : Nat} (h : i < xs.length) : rdOf ByteArray.empty xs (i : Int) = xs[i] := by
  unfold rdOf; rw [Int.toNat_natCast, List.getD_eq_getElem?_getD, List.getElem?_eq_getElem h]; rfl
theorem eqs_l0 (xs : List ByteArray) (hl : xs.length ≤ 100000) : ∀ d i, i + d = xs.length → Evn (fun k => laws_eqStringS.l0 k xs xs (i : Int)) true
  | 0, i, h => (Evn.const _).step fun k => by rw [laws_eqStringS.l0, if_neg (by omega)]
  | d + 1, i, h => (eqs_l0 xs hl d (i + 1) (by omega)).step fun k => by
    rw [laws_eqStringS.l0, if_pos (by omega), if_pos (by omega), if_pos (by omega), if_pos rfl, wn1 i (by omega)]
theorem eq1_ev (xs : List ByteArray) (hl : xs.length ≤ 100000) : Evn (fun k => laws_eqStripe.f k xs xs) true := by
  refine Evn.bind (H := fun t429 _ => if t429 = true then some true else some false) (F := fun k => laws_eqStringS.f k xs xs) (a := true) ?_ ((Evn.const _).of_eq fun k => by rw [if_pos rfl])
  exact (eqs_l0 xs hl xs.length 0 (by omega)).of_eq fun k => by unfold laws_eqStringS.f; rw [if_pos rfl]; rfl
theorem rd46 {xs : List S46} {i : Nat} (h : i < xs.length) : rd_T46 xs (i : Int) = xs[i] := by
  unfold rd_T46; rw [Int.toNat_natCast, List.getD_eq_getElem?_getD, List.getElem?_eq_getElem h]; rfl
theorem eq46_l0 (xs : List S46) (hs : Small xs) : ∀ d i, i + d = xs.length → Evn (fun k => laws_eqStripeS.l0 k xs xs (i : Int)) true
  | 0, i, h => (Evn.const _).step fun k => by rw [laws_eqStripeS.l0, if_neg (by omega)]
  | d + 1, i, h => by
    have hl := hs.1
    have hx := hs.2 xs[i] (List.getElem_mem _)
    have hb := Evn.bind (H := fun t432 k => if t432 = true then laws_eqStripeS.l0 k xs xs ((i + 1 : Nat) : Int) else some false) (b := true) (eq1_ev xs[i].f0 (by omega)) ((eq46_l0 xs hs d (i + 1) (by omega)).of_eq fun k => by rw [if_pos rfl])
    refine hb.step fun k => ?_
    rw [laws_eqStripeS.l0, if_pos (by omega), if_pos (by omega), if_pos (by omega), rd46 (by omega), wn1 i (by omega)]
theorem eqr_ev (c : Int) (xs : List S46) (hs : Small xs) : Evn (fun k => laws_eqStripeResult.f k c xs c xs) true := by
  have h1 : Evn (fun k => laws_eqStripeS.f k xs xs) true := (eq46_l0 xs hs xs.length 0 (by omega)).of_eq fun k => by unfold laws_eqStripeS.f; rw [if_pos rfl]; rfl
  exact (Evn.bind (H := fun t435 _ => if t435 = true then some true else some false) h1 ((Evn.const true).of_eq fun k => by rw [if_pos rfl])).of_eq fun k => by unfold laws_eqStripeResult.f; rw [if_pos rfl]

/-! ### marks -/
theorem mt_l0 : ∀ (N x : Nat), x ≤ N → ∀ s : ByteArray, x + s.size ≤ 1000000 → ∃ r, laws_markText.l0 (x + 1) (x : Int) s = some r
  | 0, x, hx, s, h => by
    obtain rfl : x = 0 := by omega
    exact ⟨_, by rw [laws_markText.l0, if_neg (by omega), if_pos (by omega)]⟩
  | N + 1, x, hx, s, h => by
    by_cases h0 : x = 0
    · subst h0; exact ⟨_, by rw [laws_markText.l0, if_neg (by omega), if_pos (by omega)]⟩
    · have hsz : ∀ v : Int, (strOfNums [v]).size = 1 := fun v => by rw [strOfNums_size]; rfl
      obtain ⟨r, hr⟩ := mt_l0 N (x / 10) (by omega) ((strOfNums [(wrap64 (48 + (Int.tmod (x : Int) 10))) % 256]) ++ s) (by rw [ByteArray.size_append, hsz]; omega)
      refine ⟨r, ?_⟩
      have e : wrap64 (Int.tdiv (x : Int) 10) = ((x / 10 : Nat) : Int) := by
        have : Int.tdiv (x : Int) 10 = ((x / 10 : Nat) : Int) := by rw [Int.tdiv_eq_ediv_of_nonneg (by omega)]; omega
        rw [this, wn _ (by omega)]
      rw [laws_markText.l0, if_pos (by omega), Option.bind_some, if_pos (by rw [hsz]; omega), e]
      exact leO_ge (F := fun k => laws_markText.l0 k ((x / 10 : Nat) : Int) _) (fun k => laws_markText.mono_l k _ _) hr (by omega)
def mt (n : Nat) : ByteArray := (laws_markText.f (n + 1) (n : Int)).getD ByteArray.empty
theorem mt_ev (n : Nat) (h : n ≤ 1000000) : Evn (fun k => laws_markText.f k (n : Int)) (mt n) := by
  have : ∃ r, laws_markText.f (n + 1) (n : Int) = some r := by
    unfold laws_markText.f
    by_cases h0 : n = 0
    · exact ⟨_, by rw [if_pos (by omega)]⟩
    · rw [if_neg (by omega)]
      exact mt_l0 n n (Nat.le_refl _) ⟨#[]⟩ (by show n + 0 ≤ _; omega)
  obtain ⟨r, hr⟩ := this
  have hm : mt n = r := by unfold mt; rw [hr]; rfl
  rw [hm]
  exact Evn.ge (n + 1) fun k hk => leO_ge (F := fun k => laws_markText.f k (n : Int)) (fun k => laws_markText.mono _ k) hr hk
def mk1 (q n : Nat) : List ByteArray := (List.range n).map fun i => mt (q + i)
theorem mk1_len (q n : Nat) : (mk1 q n).length = n := by simp [mk1]
theorem mk1_set (xs : List ByteArray) (q i : Nat) (h : i < xs.length) : (mk1 q i ++ xs.drop i).set i (mt (q + i)) = mk1 q (i + 1) ++ xs.drop (i + 1) := by
  rw [List.set_append_right _ _ (by rw [mk1_len]; omega), mk1_len, Nat.sub_self, List.drop_eq_getElem_cons h, List.set_cons_zero]
  simp [mk1, List.range_succ]
theorem mark1_l0 (xs : List ByteArray) (q : Nat) (hl : xs.length ≤ 1000) (hq : q ≤ 100000) : ∀ d i, i + d = xs.length → Evn (fun k => laws_markStringS.l0 k (mk1 q i ++ xs.drop i) ((q + i : Nat) : Int) (i : Int)) (((q + xs.length : Nat) : Int), mk1 q xs.length)
  | 0, i, h => by
    obtain rfl : i = xs.length := by omega
    refine (Evn.const _).step fun k => ?_
    rw [List.drop_eq_nil_of_le (Nat.le_refl _), List.append_nil, laws_markStringS.l0, if_neg (by rw [mk1_len]; omega)]
  | d + 1, i, h => by
    have ih := mark1_l0 xs q hl hq d (i + 1) (by omega)
    rw [← mk1_set xs q i (by omega)] at ih
    have hb := Evn.bind (H := fun t k => laws_markStringS.l0 k ((mk1 q i ++ xs.drop i).set i t) ((q + (i + 1) : Nat) : Int) ((i + 1 : Nat) : Int)) (mt_ev (q + i) (by omega)) ih
    refine hb.step fun k => ?_
    have hle : (mk1 q i ++ xs.drop i).length = xs.length := by rw [List.length_append, mk1_len, List.length_drop]; omega
    rw [laws_markStringS.l0, if_pos (by omega), wn1 i (by omega), wn1 (q + i) (by omega), Int.toNat_natCast]
    congr 1
theorem mark1_ev (xs : List ByteArray) (q : Nat) (hl : xs.length ≤ 1000) (hq : q ≤ 100000) : Evn (fun k => laws_markStringS.f k xs (q : Int)) (((q + xs.length : Nat) : Int), mk1 q xs.length) :=
  (mark1_l0 xs q hl hq xs.length 0 (by omega)).of_eq fun k => by unfold laws_markStringS.f; simp [mk1]
theorem held1_l0 (q n : Nat) (hl : n ≤ 1000) (hq : q ≤ 100000) : ∀ d i, i + d = n → Evn (fun k => laws_heldStringS.l0 k (mk1 q n) ((q + i : Nat) : Int) (i : Int)) ((q + n : Nat) : Int)
  | 0, i, h => by
    obtain rfl : i = n := by omega
    exact (Evn.const _).step fun k => by rw [laws_heldStringS.l0, if_neg (by rw [mk1_len]; omega)]
  | d + 1, i, h => by
    have ih := held1_l0 q n hl hq d (i + 1) (by omega)
    have hr : rdOf ByteArray.empty (mk1 q n) (i : Int) = mt (q + i) := by
      rw [rdL (by rw [mk1_len]; omega)]; simp [mk1]
    have hb := Evn.bind (H := fun t k => if (mt (q + i)).toList = t.toList then laws_heldStringS.l0 k (mk1 q n) ((q + (i + 1) : Nat) : Int) ((i + 1 : Nat) : Int) else some (-1)) (b := ((q + n : Nat) : Int)) (mt_ev (q + i) (by omega)) (ih.of_eq fun k => by rw [if_pos rfl])
    refine hb.step fun k => ?_
    rw [laws_heldStringS.l0, if_pos (by rw [mk1_len]; omega), if_pos (by omega), wn1 i (by omega), wn1 (q + i) (by omega), hr]
    rfl
theorem held1_ev (q n : Nat) (hl : n ≤ 1000) (hq : q ≤ 100000) : Evn (fun k => laws_heldStringS.f k (mk1 q n) (q : Int)) ((q + n : Nat) : Int) :=
  (held1_l0 q n hl hq n 0 (by omega)).of_eq fun k => by unfold laws_heldStringS.f; rfl
/-- The shards of the first stripes. -/
def tot (xs : List S46) : Nat := (xs.map fun x => x.f0.length).sum
theorem tot_take (xs : List S46) (i : Nat) (h : i < xs.length) : tot (xs.take (i + 1)) = tot (xs.take i) + xs[i].f0.length := by
  unfold tot
  rw [List.take_succ_eq_append_getElem h, List.map_append, List.sum_append]
  simp
theorem tot_small (xs : List S46) (hs : Small xs) : ∀ i, i ≤ xs.length → tot (xs.take i) ≤ 64 * i
  | 0, _ => by simp [tot]
  | i + 1, h => by
    rw [tot_take xs i (by omega)]
    have := tot_small xs hs i (by omega)
    have := hs.2 xs[i] (List.getElem_mem _)
    omega
/-- The stripes, the first i of them marked from q on. -/
def mkS (q : Nat) (xs : List S46) (i : Nat) : List S46 := (List.range xs.length).map fun j => if j < i then ⟨mk1 (q + tot (xs.take j)) ((xs[j]?.map fun x => x.f0.length).getD 0)⟩ else (xs[j]?).getD z46
theorem mkS_len (q : Nat) (xs : List S46) (i : Nat) : (mkS q xs i).length = xs.length := by simp [mkS]
theorem mkS_zero (q : Nat) (xs : List S46) : mkS q xs 0 = xs := by
  apply List.ext_getElem
  · simp [mkS]
  · intro j h1 h2; simp [mkS, h2]
theorem mkS_at (q : Nat) (xs : List S46) (i j : Nat) (h : j < xs.length) : (mkS q xs i)[j]'(by rw [mkS_len]; exact h) = if j < i then ⟨mk1 (q + tot (xs.take j)) xs[j].f0.length⟩ else xs[j] := by
  simp [mkS, h]
theorem mkS_set (q : Nat) (xs : List S46) (i : Nat) (h : i < xs.length) : (mkS q xs i).set i ⟨mk1 (q + tot (xs.take i)) xs[i].f0.length⟩ = mkS q xs (i + 1) := by
  apply List.ext_getElem
  · simp [mkS]
  · intro j h1 h2
    have hj : j < xs.length := by simpa [mkS] using h2
    rw [mkS_at q xs (i + 1) j hj, List.getElem_set]
    by_cases e : i = j
    · subst e; rw [if_pos rfl, if_pos (by omega)]
    · rw [if_neg e, mkS_at q xs i j hj]
      by_cases hl : j < i
      · rw [if_pos hl, if_pos (by omega)]
      · rw [if_neg hl, if_neg (by omega)]
theorem heldS_l0 (q : Nat) (xs : List S46) (hs : Small xs) (hq : q ≤ 1000) : ∀ d i, i + d = xs.length → Evn (fun k => laws_heldStripeS.l0 k (mkS q xs xs.length) ((q + tot (xs.take i) : Nat) : Int) (i : Int)) ((q + tot xs : Nat) : Int)
  | 0, i, h => by
    obtain rfl : i = xs.length := by omega
    exact (Evn.const _).step fun k => by rw [laws_heldStripeS.l0, if_neg (by rw [mkS_len]; omega), List.take_length]
  | d + 1, i, h => by
    have ih := heldS_l0 q xs hs hq d (i + 1) (by omega)
    have hi : i < xs.length := by omega
    have h64 := hs.2 xs[i] (List.getElem_mem _)
    have hl := hs.1
    have ht := tot_small xs hs i (by omega)
    rw [tot_take xs i hi] at ih
    have hr : (rd_T46 (mkS q xs xs.length) (i : Int)).f0 = mk1 (q + tot (xs.take i)) xs[i].f0.length := by
      rw [rd46 (by rw [mkS_len]; exact hi), mkS_at q xs _ i hi, if_pos hi]
    have hb := Evn.bind (H := fun t k => if t < 0 then some (-1) else laws_heldStripeS.l0 k (mkS q xs xs.length) t ((i + 1 : Nat) : Int)) (b := ((q + tot xs : Nat) : Int)) (held1_ev (q + tot (xs.take i)) xs[i].f0.length (by omega) (by omega)) (ih.of_eq fun k => by rw [if_neg (by omega), Nat.add_assoc])
    refine hb.step fun k => ?_
    rw [laws_heldStripeS.l0, if_pos (by rw [mkS_len]; omega), if_pos (by omega), hr, wn1 i (by omega)]
theorem held_ev (c : Int) (q : Nat) (xs : List S46) (hs : Small xs) (hq : q ≤ 1000) : Evn (fun k => laws_heldStripeResult.f k c (mkS q xs xs.length) (q : Int)) ((q + tot xs : Nat) : Int) := by
  have h1 : Evn (fun k => laws_heldStripeS.f k (mkS q xs xs.length) (q : Int)) ((q + tot xs : Nat) : Int) := (heldS_l0 q xs hs hq xs.length 0 (by omega)).of_eq fun k => by unfold laws_heldStripeS.f; simp [tot]
  exact (Evn.bind (H := fun t _ => if t < 0 then some (-1) else some t) h1 ((Evn.const _).of_eq fun k => by rw [if_neg (by omega)])).of_eq fun k => by unfold laws_heldStripeResult.f; rfl
end Go.Proofs.Ythollhmhcnpfiaa.QA
namespace Go.Proofs.Ythollhmhcnpfiaa.QA
open Go.RowKit Go.Proofs.YthollhmhcnpfiaaW.PrintWords Go.Proofs.YthollhmhcnpfiaaW.PrintLast Go.Proofs.YthollhmhcnpfiaaW.PrintMore
set_option linter.unusedVariables false
set_option linter.unusedSimpArgs false

set_option maxRecDepth 100000 in
set_option maxHeartbeats 1000000 in
theorem markStripeS_any (q : Nat) (xs : List S46) (hs : Small xs) (hq : q ≤ 1000) (ok : Nat → Prop) (w0 w : World) (v : Value) (hB : Below w0.heap.size w0 w) (hS : Kd.S k46 46 w w0.heap.size ok v xs) :
    Calls Try.prog 52 #[v, .int .i64 (q : Int)] w fun e w' => e = .returned (.int .i64 ((q + tot xs : Nat) : Int)) ∧ Kd.S k46 46 w' w0.heap.size ok v (mkS q xs xs.length) ∧ Below w0.heap.size w0 w' ∧ Kept w w' ok := by
  obtain ⟨n, hn⟩ : ∃ n : Nat, n = xs.length := ⟨_, rfl⟩
  obtain ⟨A, cap, rfl, hA⟩ : ∃ A cap, v = .slice A n cap ∧ (0 < n → ∃ g, A = some ⟨g, 0, none⟩) := by
    rcases Nat.eq_zero_or_pos xs.length with h0 | h0
    · obtain ⟨A, c, rfl⟩ := Kd.S_slice hS
      exact ⟨A, c, by rw [hn], fun h => by omega⟩
    · obtain ⟨g, c, rfl, _⟩ := Kd.S_form hS h0
      exact ⟨_, c, by rw [hn], fun _ => ⟨g, rfl⟩⟩
  have hsl := hs.1
  have HS0 : Hid (Kd.S k46 46 w w0.heap.size ok (.slice A n cap) (mkS q xs 0)) := Lib.hid (by rw [mkS_zero]; exact hS)
  have HB0 := Lib.hid hB
  have HN := Lib.hid hn
  have hn200 : n ≤ 200 := by omega
  have HSM := Lib.hid hs
  clear hS hB hsl hs hn
  go_enter Try.func52, Try.ntmps52
  go_wp2
  go_loopw [1, 5] (fun v1 v5 wr => ∃ i : Nat, i ≤ n ∧ v5 = .int .i64 (i : Int) ∧ v1 = .int .i64 ((q + tot (xs.take i) : Nat) : Int) ∧ Hid (Kd.S k46 46 wr w0.heap.size ok (.slice A n cap) (mkS q xs i)) ∧ Hid (Below w0.heap.size w0 wr) ∧ Hid (Kept w wr ok)) (fun _ v5 _ => n - (intOf v5).toNat)
  case atStart => exact ⟨0, by omega, rfl, by simp [tot], HS0, HB0, Lib.hid (Kept.refl _ _)⟩
  case round =>
    clear HS0 HB0
    obtain ⟨i, hi, rfl, rfl, HS, HB, HK⟩ := hrel
    by_cases hlt : i < n
    · obtain ⟨g, rfl⟩ := hA (by omega)
      have hix : i < xs.length := by rw [← HN.out]; exact hlt
      obtain ⟨oki, c, hcl, hM, hcc, hoki, hH⟩ := Kd.S_lend HS.out z46 (i : Int) (by omega) (by omega)
      have hgx : (mkS q xs i).getD (i : Int).toNat z46 = xs[i] := by
        rw [Int.toNat_natCast, List.getD_eq_getElem?_getD, List.getElem?_eq_getElem (by rw [mkS_len]; exact hix), mkS_at q xs i i hix, if_neg (by omega)]; rfl
      rw [hgx] at hM
      obtain ⟨v0, rfl, hR⟩ := k46_openM hM
      have hc0 : wr.cell? ⟨g, i, none⟩ = some v0 := by
        have := hcc 0 v0 rfl
        rw [Int.toNat_natCast, show i * k46.sz + 0 = i from by show i * 1 + 0 = i; omega] at this
        exact this
      obtain ⟨ti, hti⟩ : ∃ x : Nat, x = q + tot (xs.take i) := ⟨_, rfl⟩
      have ht64 := tot_small xs HSM.out i (by omega)
      have hx64 := HSM.out.2 xs[i] (List.getElem_mem _)
      obtain ⟨kf, hkf⟩ := (mark1_ev xs[i].f0 ti (by omega) (by omega)).one
      have hR0 := hR.1
      have htk := tot_take xs i hix
      have HH := Lib.hid hH
      have HR := Lib.hid hR
      have HKF := Lib.hid hkf
      have HOKI := Lib.hid hoki
      have HTI := Lib.hid hti
      have HTK := Lib.hid htk
      have hR0' := Lib.hid hR0
      rw [← hti]
      clear hM hcc hH hR hkf hR0 hti hcl hgx ht64 hx64 hoki htk
      go_wp2_with (first
        | (go_at_call 82; (with_reducible refine (laws_markStringS.calls kf oki v0 _ _ _ _ w0 _ HB.out HR.out HKF.out).mono ?_); rintro e w2 ⟨rfl, hR2, hB2, hK2⟩; have HR2 := Lib.hid hR2; have HB2 := Lib.hid hB2; have HK2 := Lib.hid hK2; clear hR2 hB2 hK2))
      have HS2 : Hid (Kd.S k46 46 w2 w0.heap.size ok (.slice (some ⟨g, 0, none⟩) n cap) (mkS q xs (i + 1))) := by
        apply Lib.hid
        rw [← mkS_set q xs i hix, ← HTI.out]
        have hM2 : k46.M w2 w0.heap.size oki ⟨mk1 ti xs[i].f0.length⟩ [v0] := k46_mkM _ _ _ _ (Kd.R_of_own (Kd.own_of_R HR2.out) hR0'.out)
        have := Kd.H_back (Kd.H_kept HH.out HK2.out (fun k _ h => h)) hM2 (fun _ hk => hk)
        rw [Int.toNat_natCast] at this
        exact this
      go_roundw
      case rel => exact ⟨i + 1, by omega, by go_num, by rw [HTK.out, ← Nat.add_assoc, ← HTI.out, Int.natCast_add], HS2, HB2, Lib.hid (HK.out.then_ HK2.out (fun k hk => .inl (HOKI.out k hk).1))⟩
      case measure => simp [intOf]; omega
    · obtain rfl : i = n := by omega
      go_wp2
      go_ret
      have hS2 := HS.out
      rw [HN.out, List.take_length] at *
      exact ⟨rfl, hS2, HB.out, HK.out⟩

set_option maxRecDepth 100000 in
set_option maxHeartbeats 1000000 in
theorem markStripeResult_any (q : Nat) (a : Int) (xs : List S46) (hs : Small xs) (hq : q ≤ 1000) (ok : Nat → Prop) (w0 w : World) (v : Value) (hB : Below w0.heap.size w0 w) (hS : Kd.S k46 46 w w0.heap.size ok v xs) :
    Calls Try.prog 20 #[.agg #[.int .i64 a, v], .int .i64 (q : Int)] w fun e w' => e = .returned (.int .i64 ((q + tot xs : Nat) : Int)) ∧ Kd.S k46 46 w' w0.heap.size ok v (mkS q xs xs.length) ∧ Below w0.heap.size w0 w' ∧ Kept w w' ok := by
  obtain ⟨A, cap, rfl⟩ := Kd.S_slice hS
  obtain ⟨n, hn⟩ : ∃ n : Nat, n = xs.length := ⟨_, rfl⟩
  have hm := markStripeS_any q xs hs hq ok w0 (w.alloc (.cells #[.int .i64 a, .slice A xs.length cap] 38)) _ (hB.alloc hB.size _) (Kd.S_alloc hS _)
  rw [← hn] at hm ⊢
  have HM := Lib.hid hm
  clear hm hS hB hn
  go_enter Try.func20, Try.ntmps20
  go_wp2_with (first
    | (go_at_call 52; (with_reducible refine HM.out.mono ?_); rintro e w2 ⟨rfl, hS2, hB2, hK2⟩; have HS2 := Lib.hid hS2; have HB2 := Lib.hid hB2; have HK2 := Lib.hid hK2; clear hS2 hB2 hK2))
  go_ret
  exact ⟨rfl, HS2.out, HB2.out, (Kept.of_below ((Below.refl _ _).alloc (Nat.le_refl _) _) ok).then_ HK2.out (fun k hk => .inl hk)⟩
end Go.Proofs.Ythollhmhcnpfiaa.QA
namespace Go.Proofs.Ythollhmhcnpfiaa.QA
open Go.RowKit Go.Proofs.YthollhmhcnpfiaaW.PrintWords Go.Proofs.YthollhmhcnpfiaaW.PrintLast Go.Proofs.YthollhmhcnpfiaaW.PrintMore
set_option linter.unusedVariables false
set_option linter.unusedSimpArgs false

def laws_FnExactSplitObject.f (a0_0 : Int) (a0_1 : Int) (a0_2 : Int) (a1 : Int) (a2 : ByteArray) : Option (Bool) := some true

set_option maxRecDepth 100000 in
set_option maxHeartbeats 1000000 in
theorem lawSplit_any (a0 a1 a2 u : Int) (data : ByteArray) (w : World) :
    Calls Try.prog 5 #[.agg #[.int .i64 a0, .int .i64 a1, .int .i64 a2], .int .i64 u, .string data] w fun e w' => e = .returned (.bool true) ∧ Below w.heap.size w w' := by
  obtain ⟨c, xs, hsp, him, hsm⟩ := split_ev a0 a1 a2 u data
  obtain ⟨kS, hS⟩ := hsp.one
  obtain ⟨kI, hI⟩ := him.one
  obtain ⟨kE, hE⟩ := (eqr_ev c xs hsm).one
  obtain ⟨kH, hH⟩ := (held_ev c 1 xs hsm (by omega)).one
  have HS := Lib.hid hS
  have HI := Lib.hid hI
  have HE := Lib.hid hE
  have HH := Lib.hid hH
  have HSM := Lib.hid hsm
  clear hS hI hE hH hsp him hsm
  by_cases hbig : (data.size : Int) > 1048576
  · go_enter Try.func5, Try.ntmps5
    go_wp2
    go_ret
    exact ⟨rfl, (Below.refl _ _).alloc (Nat.le_refl _) _⟩
  · obtain ⟨mm, hmm⟩ : ∃ m : Nat, m = 1 + tot xs := ⟨_, rfl⟩
    rw [← hmm] at HH
    have HMM := Lib.hid hmm
    have hneg : ¬ (mm : Int) < 0 := by omega
    clear hmm
    go_enter Try.func5, Try.ntmps5
    go_upto_region 4 with (first
      | (go_at_call 9; (with_reducible refine (laws_toCode.calls a0 a1 a2 _ _ _ _ rfl).mono ?_); rintro e w1 ⟨rfl, hb⟩; have HQ := Lib.hid (blk_below (blk_new w (.cells #[.int .i64 a0, .int .i64 a1, .int .i64 a2] 23)) hb); have HB := Lib.hid (((Below.refl _ w).alloc (Nat.le_refl _) _).trans (hb.mono (by simp))); clear hb)
      | (go_at_call 18; (with_reducible refine (spec_SplitObject.calls kS a0 a1 a2 u data c xs _ HS.out).mono ?_); rintro e w2 ⟨vS, rfl, hS2, hb⟩; obtain ⟨AS, cS, rfl⟩ := Kd.S_slice hS2; have HQ2 := Lib.hid (blk_below HQ.out hb); have HB2 := Lib.hid (below_step HB.out hb); have HS2 := Lib.hid hS2; clear hb hS2))
    have F1 := Lib.hid (blk_alloc HQ2.out (.cells #[.int .i64 c, .slice AS xs.length cS] 38))
    have F2 := Lib.hid (blk_new w2 (.cells #[.int .i64 c, .slice AS xs.length cS] 38))
    have F3 := Lib.hid (Kd.S_alloc HS2.out (.cells #[.int .i64 c, .slice AS xs.length cS] 38))
    have F4 := Lib.hid (HB2.out.alloc HB2.out.size (.cells #[.int .i64 c, .slice AS xs.length cS] 38))
    clear HQ HB HQ2 HB2 HS2
    generalize hW2 : w2.alloc (.cells #[.int .i64 c, .slice AS xs.length cS] 38) = W2 at F1 F2 F3 F4 ⊢
    clear hW2
    have q0 := (blk_cell F1.out 0).trans (show _ = some (Value.int .i64 a0) from rfl)
    have q1 := (blk_cell F1.out 1).trans (show _ = some (Value.int .i64 a1) from rfl)
    have q2 := (blk_cell F1.out 2).trans (show _ = some (Value.int .i64 a2) from rfl)
    go_upto_region 5 with (first
      | (go_at_call 9; (with_reducible refine (laws_toCode.calls a0 a1 a2 _ _ _ _ rfl).mono ?_); rintro e w3 ⟨rfl, hb⟩; have G1 := Lib.hid (blk_below F1.out hb); have G2 := Lib.hid (blk_below F2.out hb); have G3 := Lib.hid (Kd.S_below F3.out hb); have G4 := Lib.hid (below_step F4.out hb); clear hb)
      | (go_at_call 15; (with_reducible refine (impl_SplitObject.calls kI a0 a1 a2 u data c xs _ HI.out).mono ?_); rintro e w4 ⟨vI, rfl, hS4, hb⟩; obtain ⟨AI, cI, rfl⟩ := Kd.S_slice hS4; have K0 := Lib.hid hb; have K1 := Lib.hid (blk_below G1.out hb); have K2 := Lib.hid (blk_below G2.out hb); have K3 := Lib.hid (Kd.S_below G3.out hb); have K4 := Lib.hid (below_step G4.out hb); have K5 := Lib.hid hS4; clear hb hS4))
    clear F1 F2 F3 F4 q0 q1 q2
    have J0 := Lib.hid (K0.out.alloc K0.out.size (.cells #[.int .i64 c, .slice AI xs.length cI] 38))
    have J1 := Lib.hid (blk_alloc K1.out (.cells #[.int .i64 c, .slice AI xs.length cI] 38))
    have J2 := Lib.hid (blk_alloc K2.out (.cells #[.int .i64 c, .slice AI xs.length cI] 38))
    have J3 := Lib.hid (Kd.S_alloc K3.out (.cells #[.int .i64 c, .slice AI xs.length cI] 38))
    have J4 := Lib.hid (K4.out.alloc K4.out.size (.cells #[.int .i64 c, .slice AI xs.length cI] 38))
    have J5 := Lib.hid (Kd.S_alloc K5.out (.cells #[.int .i64 c, .slice AI xs.length cI] 38))
    have J6 := Lib.hid (blk_new w4 (.cells #[.int .i64 c, .slice AI xs.length cI] 38))
    have hb8 : w3.heap.size ≤ w4.heap.size := K0.out.size
    have hb7 : w2.heap.size < w3.heap.size := blk_lt G2.out
    have hb0 : w.heap.size < w3.heap.size := blk_lt G1.out
    clear K0 K1 K2 K3 K4 K5
    generalize hW4 : w4.alloc (.cells #[.int .i64 c, .slice AI xs.length cI] 38) = W4 at J0 J1 J2 J3 J4 J5 J6 ⊢
    clear hW4
    have r0 := (blk_cell J6.out 0).trans (show _ = some (Value.int .i64 c) from rfl)
    have r1 := (blk_cell J6.out 1).trans (show _ = some (Value.slice AI xs.length cI) from rfl)
    have s0 := (blk_cell J2.out 0).trans (show _ = some (Value.int .i64 c) from rfl)
    have s1 := (blk_cell J2.out 1).trans (show _ = some (Value.slice AS xs.length cS) from rfl)
    go_upto_region 7 with (first
      | (go_at_call 19; (with_reducible refine (laws_eqStripeResult.calls kE c AI cI xs c AS cS xs true _ (Kd.S_reads' J5.out).2.2 (Kd.S_reads' J5.out).2.1 (Kd.S_reads' J3.out).2.2 (Kd.S_reads' J3.out).2.1 HE.out).mono ?_); rintro e w5 ⟨rfl, hb⟩; have L0 := Lib.hid (J0.out.trans (hb.mono J0.out.size)); have L1 := Lib.hid (blk_below J1.out hb); have L2 := Lib.hid (blk_below J2.out hb); have L3 := Lib.hid (Kd.S_below J3.out hb); have L4 := Lib.hid (below_step J4.out hb); have L5 := Lib.hid (Kd.S_below J5.out hb); have L6 := Lib.hid (blk_below J6.out hb); clear hb))
    clear J0 J1 J2 J3 J4 J5 J6 r0 r1 s0 s1
    have r0 := (blk_cell L6.out 0).trans (show _ = some (Value.int .i64 c) from rfl)
    have r1 := (blk_cell L6.out 1).trans (show _ = some (Value.slice AI xs.length cI) from rfl)
    have hm20 : Calls Try.prog 20 #[.agg #[.int .i64 c, .slice AI xs.length cI], .int .i64 1] w5 fun e w' => e = .returned (.int .i64 (mm : Int)) ∧ Kd.S k46 46 w' w3.heap.size (fun k => True ∧ k ≠ w4.heap.size) (.slice AI xs.length cI) (mkS 1 xs xs.length) ∧ Below w3.heap.size w3 w' ∧ Kept w5 w' (fun k => True ∧ k ≠ w4.heap.size) := by
      rw [HMM.out]
      exact markStripeResult_any 1 c xs HSM.out (by omega) (fun k => True ∧ k ≠ w4.heap.size) w3 _ (.slice AI xs.length cI) L0.out (Kd.S_types L5.out L6.out (by decide))
    have HM20 := Lib.hid hm20
    have hcut : ∀ W : World, Kd.S k46 46 W w3.heap.size (fun k => True ∧ k ≠ w4.heap.size) (.slice AI xs.length cI) (mkS 1 xs xs.length) → Calls Try.prog 21 #[.agg #[.int .i64 c, .slice AI xs.length cI], .int .i64 1] W fun e w' => e = .returned (.int .i64 (mm : Int)) ∧ Below W.heap.size W w' := by
      intro W hW
      obtain ⟨_, h2, h3⟩ := Kd.S_reads' hW
      have h := laws_heldStripeResult.calls kH c AI cI (mkS 1 xs xs.length) 1 (mm : Int) W h3 (by rw [mkS_len]; exact h2) HH.out
      rw [mkS_len] at h
      exact h
    have HCUT := Lib.hid hcut
    clear hm20 hcut
    go_upto_region 10 with (first
      | (go_at_call 20; (with_reducible refine HM20.out.mono ?_); rintro e w6 ⟨rfl, hS6, hb6, hk6⟩; have M0 := Lib.hid hb6; have M5 := Lib.hid hS6; have M6 := Lib.hid (blk_kept L6.out hk6 (fun h => h.2 rfl)); have MK := Lib.hid hk6; clear hS6 hb6 hk6))
    clear r0 r1
    have r0 := (blk_cell M6.out 0).trans (show _ = some (Value.int .i64 c) from rfl)
    have r1 := (blk_cell M6.out 1).trans (show _ = some (Value.slice AI xs.length cI) from rfl)
    have M1 : Hid (w6.heap[w.heap.size]? = some (.cells #[.int .i64 a0, .int .i64 a1, .int .i64 a2] 23 (0, 0))) := Lib.hid (blk_below G1.out M0.out)
    have M2 : Hid (w6.heap[w2.heap.size]? = some (.cells #[.int .i64 c, .slice AS xs.length cS] 38 (0, 0))) := Lib.hid (blk_below G2.out M0.out)
    have M3 : Hid (Kd.S k46 46 w6 w1.heap.size (fun _ => True) (.slice AS xs.length cS) xs) := Lib.hid (Kd.S_below G3.out M0.out)
    have M4 : Hid (Below w.heap.size w w6) := Lib.hid (below_step G4.out M0.out)
    go_upto_region 15 with (first
      | (go_at_call 21; (with_reducible refine (HCUT.out _ M5.out).mono ?_); rintro e w7 ⟨rfl, hb⟩; have N1 := Lib.hid (blk_below M1.out hb); have N2 := Lib.hid (blk_below M2.out hb); have N3 := Lib.hid (Kd.S_below M3.out hb); have N4 := Lib.hid (below_step M4.out hb); have N5 := Lib.hid (Kd.S_below M5.out hb); have N6 := Lib.hid (blk_below M6.out hb); clear hb))
    clear r0 r1 M1 M2 M3 M4 M5 M6
    have q0 := (blk_cell N1.out 0).trans (show _ = some (Value.int .i64 a0) from rfl)
    have q1 := (blk_cell N1.out 1).trans (show _ = some (Value.int .i64 a1) from rfl)
    have q2 := (blk_cell N1.out 2).trans (show _ = some (Value.int .i64 a2) from rfl)
    go_upto_region 16 with (first
      | (go_at_call 9; (with_reducible refine (laws_toCode.calls a0 a1 a2 _ _ _ _ rfl).mono ?_); rintro e w8 ⟨rfl, hb⟩; have O2 := Lib.hid (blk_below N2.out hb); have O3 := Lib.hid (Kd.S_below N3.out hb); have O4 := Lib.hid (below_step N4.out hb); have O5 := Lib.hid (Kd.S_below N5.out hb); have O6 := Lib.hid (blk_below N6.out hb); clear hb)
      | (go_at_call 15; (with_reducible refine (impl_SplitObject.calls kI a0 a1 a2 u data c xs _ HI.out).mono ?_); rintro e w9 ⟨vH, rfl, hS9, hb⟩; obtain ⟨AH, cH, rfl⟩ := Kd.S_slice hS9; have P2 := Lib.hid (blk_below O2.out hb); have P3 := Lib.hid (Kd.S_below O3.out hb); have P4 := Lib.hid (below_step O4.out hb); have P5 := Lib.hid (Kd.S_below O5.out hb); have P6 := Lib.hid (blk_below O6.out hb); have P7 := Lib.hid hS9; clear hb hS9))
    clear q0 q1 q2 N1 N2 N3 N4 N5 N6 O2 O3 O4 O5 O6
    have R2 := Lib.hid (blk_alloc P2.out (.cells #[.int .i64 c, .slice AH xs.length cH] 38))
    have R3 := Lib.hid (Kd.S_alloc P3.out (.cells #[.int .i64 c, .slice AH xs.length cH] 38))
    have R4 := Lib.hid (P4.out.alloc P4.out.size (.cells #[.int .i64 c, .slice AH xs.length cH] 38))
    have R5 := Lib.hid (Kd.S_alloc P5.out (.cells #[.int .i64 c, .slice AH xs.length cH] 38))
    have R6 := Lib.hid (blk_alloc P6.out (.cells #[.int .i64 c, .slice AH xs.length cH] 38))
    have R7 := Lib.hid (Kd.S_alloc P7.out (.cells #[.int .i64 c, .slice AH xs.length cH] 38))
    have R8 := Lib.hid (blk_new w9 (.cells #[.int .i64 c, .slice AH xs.length cH] 38))
    clear P2 P3 P4 P5 P6 P7
    generalize hW9 : w9.alloc (.cells #[.int .i64 c, .slice AH xs.length cH] 38) = W9 at R2 R3 R4 R5 R6 R7 R8 ⊢
    clear hW9
    have r0 := (blk_cell R8.out 0).trans (show _ = some (Value.int .i64 c) from rfl)
    have r1 := (blk_cell R8.out 1).trans (show _ = some (Value.slice AH xs.length cH) from rfl)
    have s0 := (blk_cell R2.out 0).trans (show _ = some (Value.int .i64 c) from rfl)
    have s1 := (blk_cell R2.out 1).trans (show _ = some (Value.slice AS xs.length cS) from rfl)
    go_upto_region 19 with (first
      | (go_at_call 19; (with_reducible refine (laws_eqStripeResult.calls kE c AH cH xs c AS cS xs true _ (Kd.S_reads' R7.out).2.2 (Kd.S_reads' R7.out).2.1 (Kd.S_reads' R3.out).2.2 (Kd.S_reads' R3.out).2.1 HE.out).mono ?_); rintro e w10 ⟨rfl, hb⟩; have T4 := Lib.hid (below_step R4.out hb); have T5 := Lib.hid (Kd.S_below R5.out hb); have T6 := Lib.hid (blk_below R6.out hb); clear hb))
    clear r0 r1 s0 s1 R2 R3 R4 R5 R6 R7 R8
    have r0 := (blk_cell T6.out 0).trans (show _ = some (Value.int .i64 c) from rfl)
    have r1 := (blk_cell T6.out 1).trans (show _ = some (Value.slice AI xs.length cI) from rfl)
    go_wp2_with (first
      | (go_at_call 21; (with_reducible refine (HCUT.out _ T5.out).mono ?_); rintro e w11 ⟨rfl, hb⟩; have U4 := Lib.hid (below_step T4.out hb); clear hb))
    go_ret
    exact ⟨rfl, U4.out⟩
theorem laws_FnExactSplitObject.calls (a0_0 : Int) (a0_1 : Int) (a0_2 : Int) (a1 : Int) (a2 : ByteArray) (r : Bool) (w : World) (h : laws_FnExactSplitObject.f a0_0 a0_1 a0_2 a1 a2 = some r) :
    Calls Try.prog 5 #[.agg #[.int .i64 a0_0, .int .i64 a0_1, .int .i64 a0_2], .int .i64 a1, .string a2] w fun e w' => e = .returned (.bool r) ∧ Below w.heap.size w w' := by
  cases h
  exact lawSplit_any a0_0 a0_1 a0_2 a1 a2 w
end Go.Proofs.Ythollhmhcnpfiaa.QA
