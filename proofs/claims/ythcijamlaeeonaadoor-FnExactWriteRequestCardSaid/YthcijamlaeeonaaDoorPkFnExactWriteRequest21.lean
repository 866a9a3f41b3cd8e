/- The law FnExactWriteRequest: what its arguments read as, and what is left to prove over numbers and lists. What printed functions come to when there are rounds enough. Requests written: the escapes, the pairs, the numeral, on both sides. Requests: the specification's RequestFault is the program's. Conditions: those that each theorem states. -/
import Derived.Test.YthcijamlaeeonaaDoorOpn
import Derived.Test.YthcijamlaeeonaaDoorPkFnExactWriteRequest20
import Derived.IntWalk
import Derived.Test.YthcijamlaeeonaaDoorPkFnExactWriteRequest1
import Derived.Lib.ItoaMem
import Derived.Test.YthcijamlaeeonaaDoorPkFnExactWriteRequest17
import Derived.Test.YthcijamlaeeonaaDoorPkFnExactWriteRequest18
import Derived.Test.YthcijamlaeeonaaDoorPkFnExactWriteRequest10
import Derived.Test.YthcijamlaeeonaaDoorPkFnExactWriteRequest11
import Derived.Test.YthcijamlaeeonaaDoorPkFnExactWriteRequest15
namespace Go.Proofs.YthcijamlaeeonaaDoor.QA
open Go.RowKit Go.Proofs.YthcijamlaeeonaaDoor Go.Proofs.YthcijamlaeeonaaDoorW.PrintWords
set_option linter.unusedVariables false
def Q47 (x : S47) : Prop := x.f0.size ≤ maxLen ∧ x.f1.size ≤ maxLen
theorem opn47 {H : Type} {enc : TypeId × Value → H} {w : World} : Opn enc Tryd.prog w k47 47 Q47 := ⟨by kernel_rfl, fun fuel cs x h => by
 obtain ⟨hl, hf⟩ := opn_fields Tryd.underlying47 h
 obtain ⟨a0, k0, q0⟩ := hf 0 _ rfl (opn_string Tryd.underlying9 (by kernel_rfl))
 obtain ⟨a1, k1, q1⟩ := hf 1 _ rfl (opn_string Tryd.underlying9 (by kernel_rfl))
 have hl' : cs.length = 2 := hl.trans (by kernel_rfl)
 exact ⟨⟨a0, a1⟩, ⟨cs.take 1, cs.drop 1, (List.take_append_drop 1 cs).symm, k0, by have e := take_all (cs := cs) (a := 1) (b := 1) hl'; exact e ▸ k1⟩, q0, q1⟩⟩
def PQ24 (x : (ByteArray × ByteArray × (List (S47)) × (List (S47)) × ByteArray)) : Prop := x.1.size ≤ maxLen ∧ x.2.1.size ≤ maxLen ∧ (x.2.2.1.length ≤ maxLen ∧ ∀ y ∈ x.2.2.1, Q47 y) ∧ (x.2.2.2.1.length ≤ maxLen ∧ ∀ y ∈ x.2.2.2.1, Q47 y) ∧ x.2.2.2.2.size ≤ maxLen
theorem popn24 {H : Type} {enc : TypeId × Value → H} {w : World} : Opn enc Tryd.prog w (Kd.pair Kd.string (Kd.pair Kd.string (Kd.pair (Kd.slice 47 k47) (Kd.pair (Kd.slice 47 k47) Kd.string)))) 24 PQ24 := ⟨by kernel_rfl, fun fuel cs x h => by
 obtain ⟨hl, hf⟩ := opn_fields Tryd.underlying24 h
 obtain ⟨a0, k0, q0⟩ := hf 0 _ rfl (opn_string Tryd.underlying9 (by kernel_rfl))
 obtain ⟨a1, k1, q1⟩ := hf 1 _ rfl (opn_string Tryd.underlying9 (by kernel_rfl))
 obtain ⟨a2, k2, q2⟩ := hf 2 _ rfl (opn_slice Tryd.underlying22 (by kernel_rfl) opn47)
 obtain ⟨a3, k3, q3⟩ := hf 3 _ rfl (opn_slice Tryd.underlying22 (by kernel_rfl) opn47)
 obtain ⟨a4, k4, q4⟩ := hf 4 _ rfl (opn_string Tryd.underlying9 (by kernel_rfl))
 have hl' : cs.length = 5 := hl.trans (by kernel_rfl)
 exact ⟨⟨a0, a1, a2, a3, a4⟩, ⟨cs.take 1, cs.drop 1, (List.take_append_drop 1 cs).symm, k0, ⟨(cs.drop 1).take 1, cs.drop 2, cut_two, k1, ⟨(cs.drop 2).take 1, cs.drop 3, cut_two, k2, ⟨(cs.drop 3).take 1, cs.drop 4, cut_two, k3, by have e := take_all (cs := cs) (a := 4) (b := 1) hl'; exact e ▸ k4⟩⟩⟩⟩, q0, q1, q2, q3, q4⟩⟩
/-- What is left of the law: numbers and lists alone. -/
def FnExactWriteRequestPure : Prop := ∀ (a0_0 : ByteArray) (a0_1 : ByteArray) (a0_2 : List (S47)) (a0_3 : List (S47)) (a0_4 : ByteArray), PQ24 (a0_0, a0_1, a0_2, a0_3, a0_4) → ∃ k, laws_FnExactWriteRequest.f k a0_0 a0_1 a0_2 a0_3 a0_4 = some true
end Go.Proofs.YthcijamlaeeonaaDoor.QA
namespace Go.Proofs.YthcijamlaeeonaaDoor.QA
open Go.RowKit Go.Proofs.YthcijamlaeeonaaDoorW.PrintWords Go.Proofs.YthcijamlaeeonaaDoorW.PrintLast
set_option linter.unusedVariables false
set_option linter.unusedSimpArgs false

theorem w64n {n : Int} (h0 : -9223372036854775808 ≤ n) (h1 : n ≤ 9223372036854775807) : wrap64 n = n := (i64_w _).symm.trans (IntWalk.i64_in _ (by omega))
theorem leO_more {α : Type} {F : Nat → Option α} (hm : ∀ k, LeO (F k) (F (k + 1))) {k : Nat} {r : α} (h : F k = some r) : ∀ n, F (k + n) = some r
 | 0 => h
 | n + 1 => hm (k + n) r (leO_more hm h n)
theorem leO_ge {α : Type} {F : Nat → Option α} (hm : ∀ k, LeO (F k) (F (k + 1))) {k k' : Nat} {r : α} (h : F k = some r) (hk : k ≤ k') : F k' = some r := by
 have := leO_more hm h (k' - k)
 rwa [Nat.add_sub_cancel' hk] at this
/-- From some fuel on it is r. -/
def Evn {α : Type} (F : Nat → Option α) (r : α) : Prop := ∃ k0, ∀ k, k0 ≤ k → F k = some r
namespace Evn
variable {α β : Type} {F G : Nat → Option α} {r : α}
theorem const (r : α) : Evn (fun _ => some r) r := ⟨0, fun _ _ => rfl⟩
theorem step (h : Evn G r) (hs : ∀ k, F (k + 1) = G k) : Evn F r := by
 obtain ⟨k0, h⟩ := h
 exact ⟨k0 + 1, fun k hk => by obtain ⟨k', rfl⟩ : ∃ k', k = k' + 1 := ⟨k - 1, by omega⟩; rw [hs]; exact h k' (by omega)⟩
theorem of_eq (h : Evn G r) (hs : ∀ k, F k = G k) : Evn F r := by
 obtain ⟨k0, h⟩ := h
 exact ⟨k0, fun k hk => by rw [hs]; exact h k hk⟩
theorem bind {a : α} {H : α → Nat → Option β} {b : β} (h : Evn F a) (h2 : Evn (H a) b) : Evn (fun k => (F k).bind fun t => H t k) b := by
 obtain ⟨k0, h⟩ := h
 obtain ⟨k1, h2⟩ := h2
 exact ⟨k0 + k1, fun k hk => by show (F k).bind _ = _; rw [h k (by omega), Option.bind_some]; exact h2 k (by omega)⟩
theorem ge (k0 : Nat) (h : ∀ k, k0 ≤ k → F k = some r) : Evn F r := ⟨k0, h⟩
theorem one (h : Evn F r) : ∃ k, F k = some r := ⟨h.choose, h.choose_spec _ (Nat.le_refl _)⟩
end Evn
theorem wn (n : Nat) (h : n ≤ 9223372036854775807) : wrap64 (n : Int) = (n : Int) := w64n (by omega) (by omega)
theorem wn1 (n : Nat) (h : n < 9223372036854775807) : wrap64 ((n : Int) + 1) = ((n + 1 : Nat) : Int) := by rw [w64n (by omega) (by omega)]; omega
theorem bind_step {α β : Type} {x : Option α} {v : α} {f : α → Option β} {r : Option β} (h : x = some v) (h2 : f v = r) : x.bind f = r := by rw [h]; exact h2
theorem if_yes {α : Type} {Y : Option α} {p : Prop} [Decidable p] {X Z : Option α} (hp : p) (hX : X = Y) : (if p then X else Z) = Y := by rw [if_pos hp]; exact hX
theorem if_no {α : Type} {Y : Option α} {p : Prop} [Decidable p] {X Z : Option α} (hp : ¬ p) (hX : X = Y) : (if p then Z else X) = Y := by rw [if_neg hp]; exact hX
end Go.Proofs.YthcijamlaeeonaaDoor.QA
namespace Go.Proofs.YthcijamlaeeonaaDoor.QA
open Go.RowKit Go.Proofs.YthcijamlaeeonaaDoorW.PrintWords Go.Proofs.YthcijamlaeeonaaDoorW.PrintLast Go.Proofs.YthcijamlaeeonaaDoorW.PrintMore
set_option linter.unusedVariables false
set_option linter.unusedSimpArgs false

def digB (d : Int) : Int := bt (⟨#[48, 49, 50, 51, 52, 53, 54, 55, 56, 57, 65, 66, 67, 68, 69, 70]⟩ : ByteArray) d
def pieceB (c : Int) : List Int := if safeB c = true then [c] else [37, digB (c / 16), digB (c % 16)]
def escTo (s : ByteArray) : Nat → List Int
 | 0 => []
 | i + 1 => escTo s i ++ pieceB (bt s (i : Int))
theorem piece_len (c : Int) : (pieceB c).length ≤ 3 := by
 unfold pieceB
 split
 ·exact (by decide : 1 ≤ 3)
 ·exact Nat.le_refl 3
theorem escTo_len (s : ByteArray) : ∀ i, (escTo s i).length ≤ 3 * i
 | 0 => Nat.le_refl 0
 | i + 1 => by
  have h1 := escTo_len s i
  have h2 := piece_len (bt s (i : Int))
  rw [escTo, List.length_append]
  omega
def escS (s : ByteArray) : ByteArray := strOfNums (escTo s s.size)
theorem escS_size (s : ByteArray) : (escS s).size ≤ 3 * s.size := by unfold escS; rw [strOfNums_size]; exact escTo_len s _
set_option maxRecDepth 100000 in
theorem and15_all : ∀ n : Fin 256, Go.bits .and .u8 (n.1 : Int) 15 = (n.1 : Int) % 16 := by decide
theorem and15 (c : Int) (h0 : 0 ≤ c) (h1 : c ≤ 255) : Go.bits .and .u8 c 15 = c % 16 := by
 obtain ⟨n, rfl⟩ : ∃ n : Nat, c = n := ⟨c.toNat, by omega⟩
 exact and15_all ⟨n, by omega⟩
theorem escape_l0 (s : ByteArray) (hs : s.size ≤ 100000) : ∀ d i : Nat, i + d = s.size → Evn (fun k => spec_Escape.l0 k s (escTo s i) (i : Int)) (escS s)
 | 0, i, hi => by
  obtain rfl : i = s.size := by omega
  refine (Evn.const _).step fun k => ?_
  rw [spec_Escape.l0, if_neg (by omega)]; rfl
 | d + 1, i, hi => by
  have ih := escape_l0 s hs d (i + 1) (by omega)
  have hl := escTo_len s i
  obtain ⟨hc0, hc1⟩ := bt_range s (i : Int)
  have hv : spec_l10Plain.f (bt s (i : Int)) = some (safeB (bt s (i : Int))) := safe_val _
  refine ih.step fun k => ?_
  rw [spec_Escape.l0, if_pos (by omega), if_pos (by omega), wn1 i (by omega), hv, Option.bind_some]
  show _ = spec_Escape.l0 k s (escTo s i ++ pieceB (bt s (i : Int))) ((i + 1 : Nat) : Int)
  generalize escTo s i = xs at hl ⊢
  generalize bt s (i : Int) = c at hc0 hc1 ⊢
  cases hq : safeB c with
  | true => rw [if_pos rfl, if_pos (by omega), pieceB, if_pos hq]
  | false =>
   have e1 : Int.tdiv c 16 % 256 = c / 16 := by rw [Int.tdiv_eq_ediv_of_nonneg hc0]; omega
   have e2 : Int.tmod c 16 = c % 16 := Int.tmod_eq_emod_of_nonneg hc0
   rw [if_neg (by decide), pieceB, hq, if_neg (show ¬ false = true by decide), e1, e2, if_pos (by omega), if_pos (by omega), if_pos (by omega), if_pos (by omega), Option.bind_some, if_pos (by simp only [List.length_cons, List.length_nil]; omega)]
   rfl
theorem escape_ev (s : ByteArray) (hs : s.size ≤ 100000) : Evn (fun k => spec_Escape.f k s) (escS s) :=
 (escape_l0 s hs s.size 0 (by omega)).of_eq fun k => by unfold spec_Escape.f; rw [if_neg (by omega)]; rfl
theorem escaped_l0 (s : ByteArray) (hs : s.size ≤ 100000) : ∀ d i : Nat, i + d = s.size → Evn (fun k => impl_escaped.l0 k s (escTo s i) (s.size : Int) (i : Int)) (escS s)
 | 0, i, hi => by
  obtain rfl : i = s.size := by omega
  refine (Evn.const _).step fun k => ?_
  rw [impl_escaped.l0, if_neg (by omega)]; rfl
 | d + 1, i, hi => by
  have ih := escaped_l0 s hs d (i + 1) (by omega)
  have hl := escTo_len s i
  obtain ⟨hc0, hc1⟩ := bt_range s (i : Int)
  have hv : impl_safe.f (bt s (i : Int)) = some (safeB (bt s (i : Int))) := safe_val _
  refine ih.step fun k => ?_
  rw [impl_escaped.l0, if_pos (by omega), if_pos (by omega), if_pos (by omega), wn1 i (by omega), hv, Option.bind_some]
  show _ = impl_escaped.l0 k s (escTo s i ++ pieceB (bt s (i : Int))) (s.size : Int) ((i + 1 : Nat) : Int)
  generalize escTo s i = xs at hl ⊢
  generalize bt s (i : Int) = c at hc0 hc1 ⊢
  cases hq : safeB c with
  | true => rw [if_pos rfl, if_pos (by omega), pieceB, if_pos hq]
  | false =>
   rw [if_neg (by decide), pieceB, hq, if_neg (show ¬ false = true by decide), and15 c hc0 hc1, if_pos (by omega), if_pos (by omega), if_pos (by omega), if_pos (by omega), Option.bind_some, if_pos (by simp only [List.length_cons, List.length_nil]; omega)]
   rfl
theorem escTo_safe (s : ByteArray) : ∀ i, allTo safeB s i = true → escTo s i = (List.range i).map fun j : Nat => bt s (j : Int)
 | 0, _ => rfl
 | i + 1, h => by
  rw [allTo_succ, Bool.and_eq_true] at h
  rw [escTo, escTo_safe s i h.1, pieceB, if_pos h.2, List.range_succ, List.map_append]; rfl
theorem escS_safe (s : ByteArray) (h : allTo safeB s s.size = true) : escS s = s := by
 unfold escS
 rw [escTo_safe s _ h]
 refine ByteArray.ext (Array.ext' ?_)
 rw [strOfNums_data, List.map_map]
 refine List.ext_getElem (by rw [List.length_map, List.length_range, Array.length_toList]; rfl) fun i h1 h2 => ?_
 rw [List.length_map, List.length_range] at h1
 rw [List.getElem_map, List.getElem_range, Array.getElem_toList]
 show UInt8.ofNat (bt s (i : Int)).toNat = _
 have : bt s (i : Int) = ((s[i]'h1).toNat : Int) := (bt_at s (i : Int) h1).symm
 rw [this, Int.toNat_natCast, UInt8.ofNat_toNat]
 rfl
theorem escaped_ev (s : ByteArray) (hs : s.size ≤ 100000) : Evn (fun k => impl_escaped.f k s) (escS s) := by
 cases h : allTo safeB s s.size with
 | true => exact (Evn.const _).of_eq fun k => by unfold impl_escaped.f; rw [if_pos (by omega), if_pos h, escS_safe s h]
 | false => exact (escaped_l0 s hs s.size 0 (by omega)).of_eq fun k => by unfold impl_escaped.f; rw [if_pos (by omega), h, if_neg (by decide)]; rfl

/-! ### pairs -/
def pairS (n v : ByteArray) : ByteArray := (escS n ++ (⟨#[61]⟩ : ByteArray)) ++ escS v
theorem sz1 (c : UInt8) : (⟨#[c]⟩ : ByteArray).size = 1 := rfl
theorem pairS_size (n v : ByteArray) : (pairS n v).size ≤ 3 * n.size + 1 + 3 * v.size := by
 have h1 := escS_size n
 have h2 := escS_size v
 unfold pairS
 rw [ByteArray.size_append, ByteArray.size_append, sz1]
 omega
theorem specPair_ev (n v : ByteArray) (hn : n.size ≤ 100000) (hv : v.size ≤ 100000) : Evn (fun k => spec_l10Pair.f k n v) (pairS n v) := by
 have h1 := escS_size n
 have h2 := escS_size v
 obtain ⟨ka, ea⟩ := escape_ev n hn
 obtain ⟨kb, eb⟩ := escape_ev v hv
 refine ⟨ka + kb, fun k hk => ?_⟩
 show spec_l10Pair.f k n v = _
 unfold spec_l10Pair.f
 refine bind_step (ea k (by omega)) (if_yes (by omega) (bind_step (eb k (by omega)) (if_yes ?_ rfl)))
 rw [ByteArray.size_append, sz1]; omega
theorem implPair_ev (n v : ByteArray) (hn : n.size ≤ 100000) (hv : v.size ≤ 100000) : Evn (fun k => impl_writePair.f k n v) (pairS n v) := by
 have h1 := escS_size n
 have h2 := escS_size v
 obtain ⟨ka, ea⟩ := escaped_ev n hn
 obtain ⟨kb, eb⟩ := escaped_ev v hv
 refine ⟨ka + kb, fun k hk => ?_⟩
 show impl_writePair.f k n v = _
 unfold impl_writePair.f
 refine bind_step (ea k (by omega)) (if_yes (by omega) (bind_step (eb k (by omega)) (if_yes ?_ rfl)))
 rw [ByteArray.size_append, sz1]; omega

/-! ### the numeral -/
def decS (n : Nat) : ByteArray := ⟨(Lib.decDigits n).toArray⟩
theorem decLen : ∀ n : Nat, (Lib.decDigits n).length ≤ n + 1 := fun n => by
 induction n using Nat.strongRecOn with
 | _ n ih =>
  rw [Lib.decDigits]
  split
  ·exact Nat.le_add_left 1 n
  ·have := ih (n / 10) (by omega)
   rw [List.length_append]
   show _ + 1 ≤ n + 1
   omega
theorem decS_size (n : Nat) : (decS n).size ≤ n + 1 := decLen n
theorem dec_ev (n : Nat) : n ≤ 1000000 → Evn (fun k => spec_l01Dec.f k (n : Int)) (decS n) := by
 induction n using Nat.strongRecOn with
 | _ n ih =>
  intro hn
  by_cases h : n < 10
  ·refine (Evn.const _).step fun k => ?_
   rw [spec_l01Dec.f, if_neg (by omega), if_pos (by omega), w64n (by omega) (by omega)]
   unfold decS
   rw [Lib.decDigits, dif_pos h]
   unfold strOfNums
   have : ((48 + (n : Int)) % 256).toNat = 48 + n := by omega
   rw [List.map_cons, this]; rfl
  ·obtain ⟨k0, e0⟩ := ih (n / 10) (by omega) (by omega)
   refine ⟨k0 + 1, fun k hk => ?_⟩
   obtain ⟨k, rfl⟩ : ∃ n, k = n + 1 := ⟨k - 1, by omega⟩
   have e1 : wrap64 (Int.tdiv (n : Int) 10) = ((n / 10 : Nat) : Int) := by
    rw [Int.tdiv_eq_ediv_of_nonneg (by omega), w64n (by omega) (by omega)]; omega
   have e2 : (wrap64 (48 + (Int.tmod (n : Int) 10)) % 256).toNat = 48 + n % 10 := by
    rw [Int.tmod_eq_emod_of_nonneg (by omega), w64n (by omega) (by omega)]; omega
   have hs := decS_size (n / 10)
   show spec_l01Dec.f (k + 1) (n : Int) = _
   rw [spec_l01Dec.f, if_neg (by omega), if_neg (by omega), e1]
   refine bind_step (e0 k (by omega)) (bind_step rfl (if_yes ?_ ?_))
   ·rw [strOfNums_size]; show _ + 1 ≤ _; omega
   ·congr 1
    refine ByteArray.ext (Array.ext' ?_)
    rw [ByteArray.data_append, Array.toList_append, strOfNums_data, List.map_cons, e2]
    unfold decS
    rw [Lib.decDigits.eq_def n, dif_neg h]; rfl
end Go.Proofs.YthcijamlaeeonaaDoor.QA
namespace Go.Proofs.YthcijamlaeeonaaDoor.QA
open Go.RowKit Go.Proofs.YthcijamlaeeonaaDoorW.PrintWords Go.Proofs.YthcijamlaeeonaaDoorW.PrintLast Go.Proofs.YthcijamlaeeonaaDoorW.PrintMore
set_option linter.unusedVariables false
set_option linter.unusedSimpArgs false

theorem made_false {p : Int → Bool} {lo hi : Int} {s : ByteArray} {i : Nat} (hi' : i < s.size) (h : p (bt s (i : Int)) = false) : madeB p lo hi s = false := by
 unfold madeB
 rw [allTo_false hi' h]
 split <;> rfl
theorem made_end {p : Int → Bool} {lo hi : Int} {s : ByteArray} (h : allTo p s s.size = true) : madeB p lo hi s = (decide (lo ≤ (s.size : Int)) && decide ((s.size : Int) ≤ hi)) := by
 unfold madeB
 rw [h]
 by_cases h1 : lo ≤ (s.size : Int)
 ·by_cases h2 : (s.size : Int) ≤ hi
  ·rw [if_neg (by omega), decide_eq_true h1, decide_eq_true h2]; rfl
  ·rw [if_pos (by omega), decide_eq_true h1, decide_eq_false h2]; rfl
 ·rw [if_pos (by omega), decide_eq_false h1]; rfl
theorem allTo_step {p : Int → Bool} {s : ByteArray} {i : Nat} (h : allTo p s i = true) (hq : p (bt s (i : Int)) = true) : allTo p s (i + 1) = true := by rw [allTo_succ, h, hq]; rfl

theorem method_l0 (s : ByteArray) (hs : s.size ≤ 1000000000) : ∀ d i : Nat, i + d = s.size → allTo capB s i = true → Evn (fun k => spec_l10Method.l0 k s (i : Int)) (madeB capB 1 10 s)
 | 0, i, hi, ha => by
  obtain rfl : i = s.size := by omega
  refine (Evn.const _).step fun k => ?_
  rw [spec_l10Method.l0, if_neg (by omega), made_end ha]
  by_cases h1 : (s.size : Int) ≥ 1
  ·rw [if_pos h1, decide_eq_true (show (1 : Int) ≤ (s.size : Int) from h1)]; simp
  ·rw [if_neg h1, decide_eq_false (show ¬ (1 : Int) ≤ (s.size : Int) from h1)]; rfl
 | d + 1, i, hi, ha => by
  by_cases h1 : bt s (i : Int) < 65
  ·refine (Evn.const _).step fun k => ?_
   rw [spec_l10Method.l0, if_pos (by omega), if_pos (by omega), if_pos h1, made_false (i := i) (by omega) (by unfold capB; rw [decide_eq_false (by omega)]; rfl)]
  ·by_cases h2 : bt s (i : Int) > 90
   ·refine (Evn.const _).step fun k => ?_
    rw [spec_l10Method.l0, if_pos (by omega), if_pos (by omega), if_neg h1, if_pos h2, made_false (i := i) (by omega) (by unfold capB; rw [decide_eq_false (show ¬ bt s (i : Int) ≤ 90 by omega)]; simp)]
   ·have ih := method_l0 s hs d (i + 1) (by omega) (allTo_step ha (by unfold capB; rw [decide_eq_true (show bt s (i : Int) ≥ 65 by omega), decide_eq_true (show bt s (i : Int) ≤ 90 by omega)]; rfl))
    refine ih.step fun k => ?_
    rw [spec_l10Method.l0, if_pos (by omega), if_pos (by omega), if_neg h1, if_neg h2, wn1 i (by omega)]
theorem method_ev (s : ByteArray) (hs : s.size ≤ 1000000000) : Evn (fun k => spec_l10Method.f k s) (madeB capB 1 10 s) := (method_l0 s hs s.size 0 (by omega) rfl).of_eq fun _ => rfl
theorem name_round (k : Nat) (s : ByteArray) (i : Nat) (hi : i < s.size) (hs : s.size ≤ 1000000000) : spec_l10Name.l0 (k + 1) s (i : Int) = if hdrB (bt s (i : Int)) = true then spec_l10Name.l0 k s ((i + 1 : Nat) : Int) else some false := by
 rw [spec_l10Name.l0, if_pos (by omega), if_pos (by omega), wn1 i (by omega)]
 generalize bt s (i : Int) = c
 generalize spec_l10Name.l0 k s ((i + 1 : Nat) : Int) = X
 unfold hdrB plnB
 by_cases h1 : c ≥ 97
 ·by_cases h2 : c ≤ 122
  ·simp [h1, h2]
  ·have h3 : c ≥ 48 := by omega
   have h4 : ¬ c ≤ 57 := by omega
   have h5 : ¬ c = 45 := by omega
   simp [h1, h2, h3, h4, h5]
 ·by_cases h3 : c ≥ 48
  ·by_cases h4 : c ≤ 57
   ·simp [h1, h3, h4]
   ·have h5 : ¬ c = 45 := by omega
    simp [h1, h3, h4, h5]
  ·by_cases h5 : c = 45
   ·subst h5; simp
   ·simp [h1, h3, h5]
theorem name_l0 (s : ByteArray) (hs : s.size ≤ 1000000000) : ∀ d i : Nat, i + d = s.size → allTo hdrB s i = true → Evn (fun k => spec_l10Name.l0 k s (i : Int)) (madeB hdrB 1 60 s && !(s.toList == [108, 101, 110, 103, 116, 104]))
 | 0, i, hi, ha => by
  obtain rfl : i = s.size := by omega
  refine (Evn.const _).step fun k => ?_
  rw [spec_l10Name.l0, if_neg (by omega), made_end ha]
  by_cases h1 : (s.size : Int) ≥ 1
  ·rw [if_pos h1, decide_eq_true (show (1 : Int) ≤ (s.size : Int) from h1)]
   by_cases h2 : (s.size : Int) ≤ 60
   ·rw [if_pos h2, decide_eq_true h2]; rfl
   ·rw [if_neg h2, decide_eq_false h2]; rfl
  ·rw [if_neg h1, decide_eq_false (show ¬ (1 : Int) ≤ (s.size : Int) from h1)]; rfl
 | d + 1, i, hi, ha => by
  cases hq : hdrB (bt s (i : Int)) with
  | false =>
   refine (Evn.const _).step fun k => ?_
   rw [name_round k s i (by omega) hs, hq, if_neg (by decide), made_false (i := i) (by omega) hq]; rfl
  | true =>
   refine (name_l0 s hs d (i + 1) (by omega) (allTo_step ha hq)).step fun k => ?_
   rw [name_round k s i (by omega) hs, hq, if_pos rfl]
theorem name_ev (s : ByteArray) (hs : s.size ≤ 1000000000) : Evn (fun k => spec_l10Name.f k s) (madeB hdrB 1 60 s && !(s.toList == [108, 101, 110, 103, 116, 104])) := (name_l0 s hs s.size 0 (by omega) rfl).of_eq fun _ => rfl
theorem value_l0 (s : ByteArray) (hs : s.size ≤ 1000000000) : ∀ d i : Nat, i + d = s.size → allTo prtB s i = true → Evn (fun k => spec_l10Value.l0 k s (i : Int)) (valB s)
 | 0, i, hi, ha => by
  obtain rfl : i = s.size := by omega
  refine (Evn.const _).step fun k => ?_
  unfold valB
  rw [spec_l10Value.l0, if_neg (by omega), made_end ha, decide_eq_true (show (0 : Int) ≤ (s.size : Int) by omega), Bool.true_and]
  by_cases h1 : (s.size : Int) ≤ 1000
  ·rw [if_pos h1, decide_eq_true h1, Bool.true_and]
   unfold edgeB
   by_cases h0 : s.size = 0
   ·have : s.toList = [] := by rw [ByteArray.toList_eq]; exact List.eq_nil_of_length_eq_zero (by rw [Array.length_toList]; exact h0)
    rw [if_pos this, decide_eq_true h0]; rfl
   ·have hne : ¬ s.toList = [] := fun h => h0 (by rw [ByteArray.toList_eq] at h; have := congrArg List.length h; rw [Array.length_toList] at this; exact this)
    have e1 : wrap64 ((s.size : Int) - 1) = ((s.size - 1 : Nat) : Int) := by rw [w64n (by omega) (by omega)]; omega
    rw [if_neg hne, if_pos (by omega), decide_eq_false h0, Bool.false_or, e1, if_pos (show 0 ≤ ((s.size - 1 : Nat) : Int) from Int.natCast_nonneg _), if_pos (show ((s.size - 1 : Nat) : Int) < (s.size : Int) from Int.ofNat_lt.2 (Nat.sub_lt (Nat.pos_of_ne_zero h0) Nat.one_pos))]
    by_cases h2 : bt s 0 = 32
    ·rw [if_pos h2, h2]; rfl
    ·rw [if_neg h2]
     have : (bt s 0 != 32) = true := by simpa using h2
     rw [this, Bool.true_and]
  ·rw [if_neg h1, decide_eq_false h1]; rfl
 | d + 1, i, hi, ha => by
  by_cases h1 : bt s (i : Int) < 32
  ·refine (Evn.const _).step fun k => ?_
   unfold valB
   rw [spec_l10Value.l0, if_pos (by omega), if_pos (by omega), if_pos h1, made_false (i := i) (by omega) (by unfold prtB; rw [decide_eq_false (by omega)]; rfl)]; rfl
  ·by_cases h2 : bt s (i : Int) > 126
   ·refine (Evn.const _).step fun k => ?_
    unfold valB
    rw [spec_l10Value.l0, if_pos (by omega), if_pos (by omega), if_neg h1, if_pos h2, made_false (i := i) (by omega) (by unfold prtB; rw [decide_eq_false (show ¬ bt s (i : Int) ≤ 126 by omega)]; simp)]; rfl
   ·refine (value_l0 s hs d (i + 1) (by omega) (allTo_step ha (by unfold prtB; rw [decide_eq_true (show bt s (i : Int) ≥ 32 by omega), decide_eq_true (show bt s (i : Int) ≤ 126 by omega)]; rfl))).step fun k => ?_
    rw [spec_l10Value.l0, if_pos (by omega), if_pos (by omega), if_neg h1, if_neg h2, wn1 i (by omega)]
theorem value_ev (s : ByteArray) (hs : s.size ≤ 1000000000) : Evn (fun k => spec_l10Value.f k s) (valB s) := (value_l0 s hs s.size 0 (by omega) rfl).of_eq fun _ => rfl

/-! ### different names -/
def difTo (l : List S38) (n : Nat) : Bool := (List.range n).all fun i => !hasTo l i (nmOf l i)
def difB (l : List S38) : Bool := difTo l l.length && decide ((l.length : Int) ≤ 30)
theorem difTo_succ (l : List S38) (n : Nat) : difTo l (n + 1) = (difTo l n && !hasTo l n (nmOf l n)) := by
 unfold difTo; rw [List.range_succ, List.all_append]; simp
theorem difTo_false {l : List S38} {i n : Nat} (hi : i < n) (h : hasTo l i (nmOf l i) = true) : difTo l n = false := by
 unfold difTo
 rw [List.all_eq_false]
 exact ⟨i, List.mem_range.2 hi, by rw [h]; decide⟩
theorem hasTo_succ (l : List S38) (i : Nat) (k : List UInt8) : hasTo l (i + 1) k = (hasTo l i k || nmOf l i == k) := by
 unfold hasTo; rw [List.range_succ, List.any_append]; simp
theorem hasTo_true {l : List S38} {i j : Nat} {k : List UInt8} (hj : j < i) (h : nmOf l j = k) : hasTo l i k = true := by
 unfold hasTo
 rw [List.any_eq_true]
 exact ⟨j, List.mem_range.2 hj, by rw [h]; simp⟩
theorem nm_eq (l : List S38) (i j : Nat) : ((rd_T38 l (i : Int)).f0.toList = (rd_T38 l (j : Int)).f0.toList) = (nmOf l i = nmOf l j) := by
 unfold nmOf; rw [ByteArray.toList_eq, ByteArray.toList_eq]
theorem dif_l1 (l : List S38) (hl : l.length ≤ 1000000000) (i : Nat) (hi : i < l.length) (r : Bool) (h0 : hasTo l i (nmOf l i) = false → Evn (fun k => spec_l10Different.l0 k l ((i + 1 : Nat) : Int)) r) (h1 : hasTo l i (nmOf l i) = true → r = false) :
  ∀ d j : Nat, j + d = i → hasTo l j (nmOf l i) = false → Evn (fun k => spec_l10Different.l1 k l (i : Int) (j : Int)) r
 | 0, j, hj, hh => by
  obtain rfl : j = i := by omega
  refine (h0 hh).step fun k => ?_
  rw [spec_l10Different.l1, if_neg (by omega), wn1 j (by omega)]
 | d + 1, j, hj, hh => by
  by_cases he : nmOf l i = nmOf l j
  ·have := h1 (hasTo_true (show j < i by omega) he.symm)
   subst this
   refine (Evn.const _).step fun k => ?_
   rw [spec_l10Different.l1, if_pos (by omega), if_pos (by omega), if_pos (by omega), if_pos (by omega), if_pos (by omega), if_pos (by rw [nm_eq]; exact he)]
  ·refine (dif_l1 l hl i hi r h0 h1 d (j + 1) (by omega) (by rw [hasTo_succ, hh]; simpa using fun e => he e.symm)).step fun k => ?_
   rw [spec_l10Different.l1, if_pos (by omega), if_pos (by omega), if_pos (by omega), if_pos (by omega), if_pos (by omega), if_neg (by rw [nm_eq]; exact he), wn1 j (by omega)]
theorem dif_l0 (l : List S38) (hl : l.length ≤ 1000000000) : ∀ d i : Nat, i + d = l.length → difTo l i = true → Evn (fun k => spec_l10Different.l0 k l (i : Int)) (difB l)
 | 0, i, hi, ha => by
  obtain rfl : i = l.length := by omega
  refine (Evn.const _).step fun k => ?_
  unfold difB
  rw [spec_l10Different.l0, if_neg (by omega), ha, Bool.true_and]
 | d + 1, i, hi, ha => by
  have hin := dif_l1 l hl i (by omega) (difB l) (fun hh => dif_l0 l hl d (i + 1) (by omega) (by rw [difTo_succ, ha, hh]; rfl)) (fun hh => by unfold difB; rw [difTo_false (show i < l.length by omega) hh]; rfl) i 0 (by omega) rfl
  refine hin.step fun k => ?_
  rw [spec_l10Different.l0, if_pos (by omega)]
  rfl
theorem dif_ev (l : List S38) (hl : l.length ≤ 1000000000) : Evn (fun k => spec_l10Different.f k l) (difB l) := (dif_l0 l hl l.length 0 (by omega) rfl).of_eq fun _ => rfl
end Go.Proofs.YthcijamlaeeonaaDoor.QA
namespace Go.Proofs.YthcijamlaeeonaaDoor.QA
open Go.RowKit Go.Proofs.YthcijamlaeeonaaDoorW.PrintWords Go.Proofs.YthcijamlaeeonaaDoorW.PrintLast Go.Proofs.YthcijamlaeeonaaDoorW.PrintMore
/-! ### RequestFault -/
def allP (p : ByteArray → ByteArray → Bool) (l : List S38) (n : Nat) : Bool := (List.range n).all fun i => p (rd_T38 l (i : Int)).f0 (rd_T38 l (i : Int)).f1
theorem allP_succ (p : ByteArray → ByteArray → Bool) (l : List S38) (n : Nat) : allP p l (n + 1) = (allP p l n && p (rd_T38 l (n : Int)).f0 (rd_T38 l (n : Int)).f1) := by
 unfold allP; rw [List.range_succ, List.all_append]; simp
theorem allP_false {p : ByteArray → ByteArray → Bool} {l : List S38} {i n : Nat} (hi : i < n) (h : p (rd_T38 l (i : Int)).f0 (rd_T38 l (i : Int)).f1 = false) : allP p l n = false := by
 unfold allP
 rw [List.all_eq_false]
 exact ⟨i, List.mem_range.2 hi, by rw [h]; decide⟩
theorem okTo_parts (p : ByteArray → ByteArray → Bool) (l : List S38) : ∀ n, okTo p l n = (allP p l n && difTo l n)
 | 0 => rfl
 | n + 1 => by
  rw [okTo_succ, allP_succ, difTo_succ, okTo_parts p l n]
  cases allP p l n <;> cases difTo l n <;> cases p (rd_T38 l (n : Int)).f0 (rd_T38 l (n : Int)).f1 <;> rfl
theorem pairsB_parts (p : ByteArray → ByteArray → Bool) (l : List S38) : pairsB p l = (allP p l l.length && difB l) := by
 unfold pairsB difB
 rw [okTo_parts, Bool.and_assoc]
theorem queryB_val (n v : ByteArray) : queryB n v = (decide (1 ≤ (n.size : Int)) && (decide ((n.size : Int) ≤ 100) && decide ((v.size : Int) ≤ 1000))) := by
 have h := query_val n v
 unfold impl_isQuery.f at h
 by_cases h1 : (n.size : Int) ≥ 1
 ·rw [if_pos h1] at h
  rw [decide_eq_true (show 1 ≤ (n.size : Int) from h1), Bool.true_and]
  by_cases h2 : (n.size : Int) ≤ 100
  ·rw [if_pos h2] at h
   rw [decide_eq_true h2, Bool.true_and]
   exact (Option.some.inj h).symm
  ·rw [if_neg h2] at h
   rw [decide_eq_false h2, Bool.false_and]
   exact (Option.some.inj h).symm
 ·rw [if_neg h1] at h
  rw [decide_eq_false (show ¬ 1 ≤ (n.size : Int) from h1), Bool.false_and]
  exact (Option.some.inj h).symm
theorem ext01 (s : ByteArray) (h : 1 ≤ s.size) : ((s.extract 0 1).toList == (⟨#[47]⟩ : ByteArray).toList) = decide (bt s 0 = 47) := by
 rw [ByteArray.toList_eq, ByteArray.toList_eq, ByteArray.data_extract, Array.toList_extract]
 have hl : s.data.toList.length = s.size := by rw [Array.length_toList]; rfl
 have hb : bt s 0 = ((s[0]'(by omega)).toNat : Int) := by unfold bt; rw [dif_pos (show (0 : Int).toNat < s.size by simp; omega)]; rfl
 cases hd : s.data.toList with
 | nil => rw [hd] at hl; simp at hl; omega
 | cons a r =>
  have ha : s[0]'(by omega) = a := by
   have : s.data.toList[0]? = some a := by rw [hd]; rfl
   rw [Array.getElem?_toList] at this
   have h2 := Array.getElem?_eq_some_iff.1 this
   obtain ⟨_, h2⟩ := h2
   exact h2
  rw [hb, ha]
  simp [List.extract_eq_take_drop]
  rw [Bool.eq_iff_iff, decide_eq_true_iff]
  constructor
  ·intro e
   have e := beq_iff_eq.1 e
   subst e; rfl
  ·intro e
   rw [beq_iff_eq]
   apply UInt8.toNat_inj.1
   have : (a.toNat : Int) = 47 := e
   simpa using (by omega : a.toNat = 47)
theorem pathB_val (s : ByteArray) : pathB s = (decide (1 ≤ (s.size : Int)) && (decide ((s.size : Int) ≤ 1000) && decide (bt s 0 = 47))) := by
 have h := path_val s
 unfold impl_isPath.f strings_HasPrefix.f stringslite_HasPrefix.f at h
 have e : (((⟨#[47]⟩ : ByteArray).size : Nat) : Int) = 1 := rfl
 rw [e] at h
 by_cases h1 : (s.size : Int) ≤ 1000
 ·rw [if_pos h1] at h
  rw [decide_eq_true h1, Bool.true_and]
  by_cases h2 : (s.size : Int) ≥ 1
  ·rw [if_pos h2, if_pos (by omega), if_pos (by omega)] at h
   rw [decide_eq_true (show 1 ≤ (s.size : Int) from h2), Bool.true_and, ← ext01 s (by omega)]
   exact (Option.some.inj h).symm
  ·rw [if_neg h2] at h
   rw [decide_eq_false (show ¬ 1 ≤ (s.size : Int) from h2), Bool.false_and]
   exact (Option.some.inj h).symm
 ·rw [if_neg h1] at h
  rw [decide_eq_false h1, Bool.false_and, Bool.and_false]
  exact (Option.some.inj h).symm
theorem headB_val (n v : ByteArray) : headB n v = ((madeB hdrB 1 60 n && !(n.toList == [108, 101, 110, 103, 116, 104])) && valB v) := rfl
section
variable (m p : ByteArray) (q h : List S38) (b : ByteArray)
def smS (l : List S38) : Prop := l.length ≤ 1000000000 ∧ ∀ i : Nat, i < l.length → (rd_T38 l (i : Int)).f0.size ≤ 1000000000 ∧ (rd_T38 l (i : Int)).f1.size ≤ 1000000000
theorem req_l1 (hh : smS h) : ∀ d i : Nat, i + d = h.length → allP headB h i = true → Evn (fun k => spec_RequestFault.l1 k (i : Int) m p q h b) (if allP headB h h.length = true then 0 else 1)
 | 0, i, hi, ha => by
  obtain rfl : i = h.length := by omega
  refine (Evn.const _).step fun k => ?_
  rw [spec_RequestFault.l1, if_neg (by omega), ha]; rfl
 | d + 1, i, hi, ha => by
  have hl := hh.1
  obtain ⟨s1, s2⟩ := hh.2 i (by omega)
  have hn := name_ev (rd_T38 h (i : Int)).f0 s1
  have hv := value_ev (rd_T38 h (i : Int)).f1 s2
  have hval := headB_val (rd_T38 h (i : Int)).f0 (rd_T38 h (i : Int)).f1
  cases e1 : (madeB hdrB 1 60 (rd_T38 h (i : Int)).f0 && !((rd_T38 h (i : Int)).f0.toList == [108, 101, 110, 103, 116, 104])) with
  | false =>
   rw [e1] at hn hval
   have hf : allP headB h h.length = false := allP_false (show i < h.length by omega) (by rw [hval]; rfl)
   refine (Evn.bind (H := fun t k => if t = true then ((spec_l10Value.f k ((rd_T38 h (i : Int)).f1)).bind fun t119 => (if t119 = true then (spec_RequestFault.l1 k ((i + 1 : Nat) : Int) m p q h b) else (some 1))) else (some 1)) hn (b := if allP headB h h.length = true then 0 else 1) (by rw [hf]; exact (Evn.const _).of_eq fun _ => rfl)).step fun k => ?_
   rw [spec_RequestFault.l1, if_pos (by omega), if_pos (by omega), wn1 i (by omega)]
  | true =>
   rw [e1] at hn hval
   cases e2 : valB (rd_T38 h (i : Int)).f1 with
   | false =>
    rw [e2] at hv hval
    have hf : allP headB h h.length = false := allP_false (show i < h.length by omega) (by rw [hval]; rfl)
    refine (Evn.bind (H := fun t k => if t = true then ((spec_l10Value.f k ((rd_T38 h (i : Int)).f1)).bind fun t119 => (if t119 = true then (spec_RequestFault.l1 k ((i + 1 : Nat) : Int) m p q h b) else (some 1))) else (some 1)) hn (b := if allP headB h h.length = true then 0 else 1)
     ((Evn.bind (H := fun t k => if t = true then (spec_RequestFault.l1 k ((i + 1 : Nat) : Int) m p q h b) else (some 1)) hv (b := if allP headB h h.length = true then 0 else 1) (by rw [hf]; exact (Evn.const _).of_eq fun _ => rfl)).of_eq fun _ => rfl)).step fun k => ?_
    rw [spec_RequestFault.l1, if_pos (by omega), if_pos (by omega), wn1 i (by omega)]
   | true =>
    rw [e2] at hv hval
    have ih := req_l1 hh d (i + 1) (by omega) (by rw [allP_succ, ha, hval]; rfl)
    refine (Evn.bind (H := fun t k => if t = true then ((spec_l10Value.f k ((rd_T38 h (i : Int)).f1)).bind fun t119 => (if t119 = true then (spec_RequestFault.l1 k ((i + 1 : Nat) : Int) m p q h b) else (some 1))) else (some 1)) hn (b := if allP headB h h.length = true then 0 else 1)
     ((Evn.bind (H := fun t k => if t = true then (spec_RequestFault.l1 k ((i + 1 : Nat) : Int) m p q h b) else (some 1)) hv (b := if allP headB h h.length = true then 0 else 1) (ih.of_eq fun _ => rfl)).of_eq fun _ => rfl)).step fun k => ?_
    rw [spec_RequestFault.l1, if_pos (by omega), if_pos (by omega), wn1 i (by omega)]
theorem req_l0 (hq : smS q) (hh : smS h) : ∀ d i : Nat, i + d = q.length → allP queryB q i = true → Evn (fun k => spec_RequestFault.l0 k (i : Int) m p q h b) (if (allP queryB q q.length && allP headB h h.length) = true then 0 else 1)
 | 0, i, hi, ha => by
  obtain rfl : i = q.length := by omega
  rw [ha, Bool.true_and]
  refine (req_l1 m p q h b hh h.length 0 (by omega) rfl).step fun k => ?_ 
  rw [spec_RequestFault.l0, if_neg (by omega)]
  rfl
 | d + 1, i, hi, ha => by
  have hl := hq.1
  have hval := queryB_val (rd_T38 q (i : Int)).f0 (rd_T38 q (i : Int)).f1
  have hbad : queryB (rd_T38 q (i : Int)).f0 (rd_T38 q (i : Int)).f1 = false → (allP queryB q q.length && allP headB h h.length) = false := fun e => by
   rw [allP_false (show i < q.length by omega) e]; rfl
  by_cases h1 : ((rd_T38 q (i : Int)).f0.size : Int) < 1
  ·rw [hbad (by rw [hval, decide_eq_false (by omega)]; rfl)]
   refine (Evn.const _).step fun k => ?_
   rw [spec_RequestFault.l0, if_pos (by omega), if_pos (by omega), if_pos h1]; rfl
  ·by_cases h2 : ((rd_T38 q (i : Int)).f0.size : Int) > 100
   ·rw [hbad (by rw [hval, decide_eq_false (show ¬ ((rd_T38 q (i : Int)).f0.size : Int) ≤ 100 by omega)]; simp)]
    refine (Evn.const _).step fun k => ?_
    rw [spec_RequestFault.l0, if_pos (by omega), if_pos (by omega), if_neg h1, if_pos h2]; rfl
   ·by_cases h3 : ((rd_T38 q (i : Int)).f1.size : Int) > 1000
    ·rw [hbad (by rw [hval, decide_eq_false (show ¬ ((rd_T38 q (i : Int)).f1.size : Int) ≤ 1000 by omega)]; simp)]
     refine (Evn.const _).step fun k => ?_
     rw [spec_RequestFault.l0, if_pos (by omega), if_pos (by omega), if_neg h1, if_neg h2, if_pos h3]; rfl
    ·have ih := req_l0 hq hh d (i + 1) (by omega) (by rw [allP_succ, ha, hval, decide_eq_true (show 1 ≤ ((rd_T38 q (i : Int)).f0.size : Int) by omega), decide_eq_true (show ((rd_T38 q (i : Int)).f0.size : Int) ≤ 100 by omega), decide_eq_true (show ((rd_T38 q (i : Int)).f1.size : Int) ≤ 1000 by omega)]; rfl)
     refine ih.step fun k => ?_
     rw [spec_RequestFault.l0, if_pos (by omega), if_pos (by omega), if_neg h1, if_neg h2, if_neg h3, wn1 i (by omega)]
theorem req_bad (k : Nat) : spec_RequestFault.j0 (k + 1) true m p q h b = some 1 := by rw [spec_RequestFault.j0, if_pos rfl]
theorem req_ev (hm : m.size ≤ 1000000000) (hq : smS q) (hh : smS h) : Evn (fun k => spec_RequestFault.f k m p q h b) (faultI m p q h b) := by
 have e0 : faultI m p q h b = if (madeB capB 1 10 m && (pathB p && (difB q && (difB h && (decide ((b.size : Int) ≤ 100000) && (allP queryB q q.length && allP headB h h.length)))))) = true then 0 else 1 := by
  unfold faultI reqB
  rw [pairsB_parts, pairsB_parts]
  cases madeB capB 1 10 m <;> cases pathB p <;> cases difB q <;> cases difB h <;> cases decide ((b.size : Int) ≤ 100000) <;> cases allP queryB q q.length <;> cases allP headB h h.length <;> rfl
 rw [e0]
 have hM := method_ev m hm
 have hQ := dif_ev q hq.1
 have hH := dif_ev h hh.1
 have hJ : ∀ X : Bool, Evn (fun k => spec_RequestFault.j0 k true m p q h b) 1 := fun _ => (Evn.const _).step fun k => req_bad m p q h b k
 have hB : Evn (fun k => spec_RequestFault.j0 k (decide ((b.size : Int) > 100000)) m p q h b) (if (decide ((b.size : Int) ≤ 100000) && (allP queryB q q.length && allP headB h h.length)) = true then 0 else 1) := by
  by_cases h1 : (b.size : Int) > 100000
  ·rw [decide_eq_true h1, decide_eq_false (show ¬ (b.size : Int) ≤ 100000 by omega), Bool.false_and]
   exact hJ true
  ·rw [decide_eq_false h1, decide_eq_true (show (b.size : Int) ≤ 100000 by omega), Bool.true_and]
   exact (req_l0 m p q h b hq hh q.length 0 (by omega) rfl).step fun k => by rw [spec_RequestFault.j0, if_neg (by decide)]; rfl
 have hPV := pathB_val p
 obtain ⟨ka, hM⟩ := hM
 obtain ⟨kb, hQ⟩ := hQ
 obtain ⟨kc, hH⟩ := hH
 obtain ⟨kd, hB⟩ := hB
 refine ⟨ka + kb + kc + kd + 1, fun k hk => ?_⟩
 obtain ⟨k, rfl⟩ : ∃ n, k = n + 1 := ⟨k - 1, by omega⟩
 have eM := hM (k + 1) (by omega)
 have eQ := hQ (k + 1) (by omega)
 have eH := hH (k + 1) (by omega)
 have eB := hB (k + 1) (by omega)
 have bad := req_bad m p q h b k
 simp only at eM eQ eH eB
 show spec_RequestFault.f (k + 1) m p q h b = _
 unfold spec_RequestFault.f
 refine bind_step eM ?_
 cases e1 : madeB capB 1 10 m with
 | false => rw [if_neg (by decide), bad]; rfl
 | true =>
  rw [if_pos rfl, Bool.true_and]
  by_cases h1 : (p.size : Int) < 1
  ·rw [if_pos h1, bad, hPV, decide_eq_false (by omega)]; rfl
  rw [if_neg h1]
  by_cases h2 : (p.size : Int) > 1000
  ·rw [if_pos h2, bad, hPV, decide_eq_false (show ¬ (p.size : Int) ≤ 1000 by omega), Bool.false_and, Bool.and_false]; rfl
  rw [if_neg h2, if_pos (by omega)]
  by_cases h3 : bt p 0 = 47
  ·rw [if_pos h3]
   have hp1 : pathB p = true := by rw [hPV, decide_eq_true (show 1 ≤ (p.size : Int) by omega), decide_eq_true (show (p.size : Int) ≤ 1000 by omega), decide_eq_true h3]; rfl
   rw [hp1, Bool.true_and]
   by_cases h4 : (q.length : Int) > 30
   ·have : difB q = false := by unfold difB; rw [decide_eq_false (show ¬ (q.length : Int) ≤ 30 by omega), Bool.and_false]
    rw [if_pos h4, bad, this]; rfl
   rw [if_neg h4]
   by_cases h5 : (h.length : Int) > 30
   ·have : difB h = false := by unfold difB; rw [decide_eq_false (show ¬ (h.length : Int) ≤ 30 by omega), Bool.and_false]
    rw [if_pos h5, bad, this, Bool.false_and, Bool.and_false]; rfl
   rw [if_neg h5]
   refine bind_step eQ ?_
   cases e2 : difB q with
   | false => rw [if_neg (by decide), bad]; rfl
   | true =>
    rw [if_pos rfl, Bool.true_and]
    refine bind_step eH ?_
    cases e3 : difB h with
    | false => rw [if_neg (by decide), bad]; rfl
    | true =>
     rw [if_pos rfl, Bool.true_and]
     exact eB
  ·have hp1 : pathB p = false := by rw [hPV, decide_eq_false h3, Bool.and_false, Bool.and_false]
   rw [if_neg h3, bad, hp1]; rfl
end
end Go.Proofs.YthcijamlaeeonaaDoor.QA
