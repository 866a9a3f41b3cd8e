/- Contracts of the program's functions, written by standin.py, a program of the session's own, over the kit's printer; Lean checks them. What printed functions come to when there are rounds enough. testOf: what it returns. conditionFault, and plain's answers: the contract in the printer's form. Conditions: those that each theorem states. -/
import Derived.Test.YtpdgopabnihpiaaDoorPkFnExactWritePolicy1
import Derived.Test.YtpdgopabnihpiaaDoorPkFnExactWritePolicy12
import Derived.IntWalk
import Derived.Outline
import Derived.Shelf.Abstract
import Derived.Lib.Hide
namespace Go.Proofs.YtpdgopabnihpiaaDoor.QA
open Go.RowKit Go.Proofs.YtpdgopabnihpiaaDoorW.PrintWords Go.Proofs.YtpdgopabnihpiaaDoorW.PrintLast Go.Proofs.YtpdgopabnihpiaaDoorW.PrintMore
attribute [local go_sem] max2_int min2_int max_two min_two max_three min_three max_four min_four
set_option linter.unusedVariables false
set_option linter.unusedSimpArgs false

/-! ### impl_listFault: function 23 -/
def impl_listFault.l0 : Nat → List ByteArray → List ByteArray → Int → Int → Option (Bool)
 | 0, _, _, _, _ => none
 | k + 1, x0, x5, x6, x7 => if x7 < x6 then (if 0 ≤ x7 then (if x7 < (x5.length : Int) then ((impl_plain.f k (rdOf ByteArray.empty x5 x7) 44).bind fun t212 => (if t212 = true then (impl_listFault.l0 k x0 x5 x6 (wrap64 (x7 + 1))) else (some true))) else (none)) else (none)) else (if (x0.length : Int) < 1 then (some true) else (some (decide ((x0.length : Int) > 20))))
def impl_listFault.f (k : Nat) (l0 : List ByteArray) : Option (Bool) := impl_listFault.l0 k l0 l0 (l0.length : Int) 0
theorem impl_listFault.mono_l : ∀ k, (∀ y0 y1 y2 y3, LeO (impl_listFault.l0 k y0 y1 y2 y3) (impl_listFault.l0 (k + 1) y0 y1 y2 y3))
 | 0 => fun _ _ _ _ r h => by simp [impl_listFault.l0] at h
 | k + 1 => by
  have ih0 := impl_listFault.mono_l k
  ·intro y0 y1 y2 y3
   unfold impl_listFault.l0
   repeat' first
   | (with_reducible exact ih0 _ _ _ _)
   | (with_reducible exact impl_plain.mono _ _ _)
   | (with_reducible exact LeO.refl _)
   | (with_reducible exact LeO.none _)
   | (with_reducible refine LeO.ite ?_ ?_)
   | (with_reducible refine LeO.bind ?_ (fun _ => ?_))
   | exact ih0 _ _ _ _
   | exact impl_plain.mono _ _ _
   | exact LeO.none _
   | refine LeO.ite ?_ ?_
   | refine LeO.bind ?_ (fun _ => ?_)
theorem impl_listFault.mono : ∀ a0 k, LeO (impl_listFault.f k a0) (impl_listFault.f (k + 1) a0) := by
 intro a0 k
 have ih0 := impl_listFault.mono_l k
 unfold impl_listFault.f
 repeat' first
   | (with_reducible exact ih0 _ _ _ _)
   | (with_reducible exact impl_plain.mono _ _ _)
   | (with_reducible exact LeO.refl _)
   | (with_reducible exact LeO.none _)
   | (with_reducible refine LeO.ite ?_ ?_)
   | (with_reducible refine LeO.bind ?_ (fun _ => ?_))
   | exact ih0 _ _ _ _
   | exact impl_plain.mono _ _ _
   | exact LeO.none _
   | refine LeO.ite ?_ ?_
   | refine LeO.bind ?_ (fun _ => ?_)
set_option maxHeartbeats 8000000 in
set_option maxRecDepth 100000 in
theorem impl_listFault.calls (k : Nat) (A0 : Option Addr) (c0 : Nat) (l0 : List ByteArray) (r : Bool) (w : World) (hr0 : Kd.C Kd.string w A0 l0.length l0) (hc0 : l0.length ≤ c0) (h : impl_listFault.f k l0 = some r) :
  Calls Tryd.prog 23 #[.slice A0 l0.length c0] w fun e w' => e = .returned (.bool r) ∧ Drawn0 w w' := by
 have HR0 := Aside0.mk hr0
 have HC0 := Aside0.mk hc0
 clear hr0 hc0
 have H : (impl_listFault.l0 k l0 l0 (l0.length : Int) 0) = some r := h
 clear h
 have H' := Aside0.mk H
 clear H
 go_enter Tryd.func23, Tryd.ntmps23
 go_wp2
 go_loopg [7] k (fun kq v7 w' => ∃ (x7_1 : Int), v7 = .int .i64 x7_1 ∧ Aside0 (impl_listFault.l0 kq l0 l0 (l0.length : Int) x7_1 = some r) ∧ Aside0 (kq ≤ k) ∧ Drawn0 w w')
 case atStart => exact ⟨(0), (by first | rfl | (simp; done) | (simp [*]; done)), H', ⟨Nat.le_refl _⟩, by repeat (first | exact Drawn0.refl _ | apply Drawn0.step)⟩
 case round =>
  clear H'
  obtain ⟨x7_1, rfl, HA, HK1, ⟨m1, rfl⟩⟩ := hrel
  cases gk with
  | zero => exact absurd HA.out (by simp [impl_listFault.l0])
  | succ k1 =>
   have H := HA.out
   clear HA
   simp only [impl_listFault.l0] at H
   by_cases c2 : x7_1 < (l0.length : Int)
   ·rw [if_pos c2] at H
    have c2b0 : decide (x7_1 < (l0.length : Int)) = true := decide_eq_true c2
    clear c2
    by_cases c3 : 0 ≤ x7_1
    ·rw [if_pos c3] at H
     have c3b0 : decide (0 ≤ x7_1) = true := decide_eq_true c3
     clear c3
     by_cases c4 : x7_1 < (l0.length : Int)
     ·rw [if_pos c4] at H
      have c4b0 : decide (x7_1 < (l0.length : Int)) = true := decide_eq_true c4
      clear c4
      replace H := Option.bind_eq_some_iff.mp H
      obtain ⟨t212, A50, H⟩ := H
      replace H : (if t212 = true then (impl_listFault.l0 k1 l0 l0 (l0.length : Int) (wrap64 (x7_1 + 1))) else (some true)) = some r := H
      have A5 := Aside0.mk A50
      clear A50
      by_cases c6 : t212 = true
      ·subst c6
       have H1 : (impl_listFault.l0 k1 l0 l0 (l0.length : Int) (wrap64 (x7_1 + 1))) = some r := by rw [if_pos rfl] at H; exact H
       clear H
       have H := H1
       clear H1
       have H' := Aside0.mk H
       clear H
       have p211 : 0 ≤ (x7_1 : Int) := of_decide_eq_true (by first | (with_reducible assumption) | assumption)
       have q211 : x7_1 < (l0.length : Int) := of_decide_eq_true (by first | (with_reducible assumption) | assumption)
       obtain ⟨ad211, e211, hx211_0⟩ := Kd.at_string HR0.out x7_1 p211 q211
       cases e211
       replace p211 := eq_true p211
       replace q211 := eq_true q211
       go_wp2_with (first | ((with_reducible refine gate_callee (f := 35) rfl ?_); refine goesL_ (some 12) rfl rfl Tryd.func35 (by kernel_rfl) rfl #[.string (rdOf ByteArray.empty l0 x7_1), .int .u8 44] rfl (by (try simp only [List.map_toArray, List.map_cons, List.map_nil]); first | done | rfl | (simp only [List.length_drop, List.length_take]; rfl)) ?_; (with_reducible refine (impl_plain.calls k1 (rdOf ByteArray.empty l0 x7_1) 44 true _ A5.out).mono ?_); rintro e w' ⟨rfl, ⟨nd, rfl⟩⟩; refine ⟨_, rfl, ?_⟩))
       go_roundg k1
       case measure => have := HK1.out; omega
       case rel => exact ⟨(wrap64 (x7_1 + 1)), (by first | rfl | (simp; done) | (simp [*]; done)), H', ⟨by have := HK1.out; omega⟩, by repeat (first | exact Drawn0.refl _ | apply Drawn0.step)⟩
      ·replace c6 := Bool.eq_false_iff.mpr c6
       subst c6
       have H1 : (some true) = some r := by rw [if_neg (show ¬ (false = true) by decide)] at H; exact H
       clear H
       have H := H1
       clear H1
       obtain rfl := Option.some.inj H
       have p211 : 0 ≤ (x7_1 : Int) := of_decide_eq_true (by first | (with_reducible assumption) | assumption)
       have q211 : x7_1 < (l0.length : Int) := of_decide_eq_true (by first | (with_reducible assumption) | assumption)
       obtain ⟨ad211, e211, hx211_0⟩ := Kd.at_string HR0.out x7_1 p211 q211
       cases e211
       replace p211 := eq_true p211
       replace q211 := eq_true q211
       go_wp2_with (first | ((with_reducible refine gate_callee (f := 35) rfl ?_); refine goesL_ (some 12) rfl rfl Tryd.func35 (by kernel_rfl) rfl #[.string (rdOf ByteArray.empty l0 x7_1), .int .u8 44] rfl (by (try simp only [List.map_toArray, List.map_cons, List.map_nil]); first | done | rfl | (simp only [List.length_drop, List.length_take]; rfl)) ?_; (with_reducible refine (impl_plain.calls k1 (rdOf ByteArray.empty l0 x7_1) 44 false _ A5.out).mono ?_); rintro e w' ⟨rfl, ⟨nd, rfl⟩⟩; refine ⟨_, rfl, ?_⟩))
       go_ret
       exact ⟨by first | rfl | (simp; done) | (simp [*]; done), by repeat (first | exact Drawn0.refl _ | apply Drawn0.step)⟩
     ·rw [if_neg c4] at H
      exact absurd H (by simp)
    ·rw [if_neg c3] at H
     exact absurd H (by simp)
   ·rw [if_neg c2] at H
    have c2b0 : decide (x7_1 < (l0.length : Int)) = false := decide_eq_false c2
    clear c2
    by_cases c7 : (l0.length : Int) < 1
    ·rw [if_pos c7] at H
     have c7b0 : decide ((l0.length : Int) < 1) = true := decide_eq_true c7
     have c7b1 : decide (l0.length < 1) = true := decide_eq_true (by omega)
     clear c7
     obtain rfl := Option.some.inj H
     go_wp2
     go_ret
     exact ⟨by first | rfl | (simp; done) | (simp [*]; done), by repeat (first | exact Drawn0.refl _ | apply Drawn0.step)⟩
    ·rw [if_neg c7] at H
     have c7b0 : decide ((l0.length : Int) < 1) = false := decide_eq_false c7
     have c7b1 : decide (l0.length < 1) = false := decide_eq_false (by omega)
     clear c7
     obtain rfl := Option.some.inj H
     go_wp2
     go_ret
     exact ⟨by first | rfl | (simp; done) | (simp [*]; done), by repeat (first | exact Drawn0.refl _ | apply Drawn0.step)⟩

end Go.Proofs.YtpdgopabnihpiaaDoor.QA
namespace Go.Proofs.YtpdgopabnihpiaaDoor.QA
open Go.RowKit Go.Proofs.YtpdgopabnihpiaaDoorW.PrintWords Go.Proofs.YtpdgopabnihpiaaDoorW.PrintLast
set_option linter.unusedVariables false
set_option linter.unusedSimpArgs false

theorem w64n {n : Int} (h0 : -9223372036854775808 ≤ n) (h1 : n ≤ 9223372036854775807) : wrap64 n = n := (i64_w _).symm.trans (IntWalk.i64_in _ (by omega))
theorem leO_more {α : Type} {F : Nat → Option α} (hm : ∀ k, LeO (F k) (F (k + 1))) {k : Nat} {r : α} (h : F k = some r) : ∀ n, F (k + n) = some r
 | 0 => h
 | n + 1 => hm (k + n) r (leO_more hm h n)
theorem leO_ge {α : Type} {F : Nat → Option α} (hm : ∀ k, LeO (F k) (F (k + 1))) {k k' : Nat} {r : α} (h : F k = some r) (hk : k ≤ k') : F k' = some r := by
 have := leO_more hm h (k' - k)
 rwa [Nat.add_sub_cancel' hk] at this
/-- From some fuel on it is r. -/
def Evn {α : Type} (F : Nat → Option α) (r : α) : Prop := ∃ k0, ∀ k, k0 ≤ k → F k = some r
namespace Evn
variable {α β : Type} {F G : Nat → Option α} {r : α}
theorem const (r : α) : Evn (fun _ => some r) r := ⟨0, fun _ _ => rfl⟩
theorem step (h : Evn G r) (hs : ∀ k, F (k + 1) = G k) : Evn F r := by
 obtain ⟨k0, h⟩ := h
 exact ⟨k0 + 1, fun k hk => by obtain ⟨k', rfl⟩ : ∃ k', k = k' + 1 := ⟨k - 1, by omega⟩; rw [hs]; exact h k' (by omega)⟩
theorem of_eq (h : Evn G r) (hs : ∀ k, F k = G k) : Evn F r := by
 obtain ⟨k0, h⟩ := h
 exact ⟨k0, fun k hk => by rw [hs]; exact h k hk⟩
theorem bind {a : α} {H : α → Nat → Option β} {b : β} (h : Evn F a) (h2 : Evn (H a) b) : Evn (fun k => (F k).bind fun t => H t k) b := by
 obtain ⟨k0, h⟩ := h
 obtain ⟨k1, h2⟩ := h2
 exact ⟨k0 + k1, fun k hk => by show (F k).bind _ = _; rw [h k (by omega), Option.bind_some]; exact h2 k (by omega)⟩
theorem ge (k0 : Nat) (h : ∀ k, k0 ≤ k → F k = some r) : Evn F r := ⟨k0, h⟩
theorem one (h : Evn F r) : ∃ k, F k = some r := ⟨h.choose, h.choose_spec _ (Nat.le_refl _)⟩
end Evn
theorem wn (n : Nat) (h : n ≤ 9223372036854775807) : wrap64 (n : Int) = (n : Int) := w64n (by omega) (by omega)
theorem wn1 (n : Nat) (h : n < 9223372036854775807) : wrap64 ((n : Int) + 1) = ((n + 1 : Nat) : Int) := by rw [w64n (by omega) (by omega)]; omega
theorem bind_step {α β : Type} {x : Option α} {v : α} {f : α → Option β} {r : Option β} (h : x = some v) (h2 : f v = r) : x.bind f = r := by rw [h]; exact h2
theorem if_yes {α : Type} {Y : Option α} {p : Prop} [Decidable p] {X Z : Option α} (hp : p) (hX : X = Y) : (if p then X else Z) = Y := by rw [if_pos hp]; exact hX
theorem if_no {α : Type} {Y : Option α} {p : Prop} [Decidable p] {X Z : Option α} (hp : ¬ p) (hX : X = Y) : (if p then Z else X) = Y := by rw [if_neg hp]; exact hX
end Go.Proofs.YtpdgopabnihpiaaDoor.QA
namespace Go.Proofs.YtpdgopabnihpiaaDoor.QA
open Go.RowKit Go.Proofs.YtpdgopabnihpiaaDoorW.PrintWords Go.Proofs.YtpdgopabnihpiaaDoorW.PrintLast Go.Proofs.YtpdgopabnihpiaaDoorW.PrintMore
set_option linter.unusedVariables false
set_option linter.unusedSimpArgs false
def testV (k : Int) (t : ByteArray) (n : Int) : Value :=
 if k = 1 then .iface 75 (.agg #[.string t]) else if k = 2 then .iface 79 (.agg #[.int .i64 n, .bool false]) else if k = 3 then .iface 79 (.agg #[.int .i64 n, .bool true]) else if k = 4 then .iface 77 (.agg #[.string t]) else .nilIface
theorem testOf_any (k : Int) (t : ByteArray) (n : Int) (w : World) : Calls Tryd.prog 36 #[.agg #[.int .i64 k, .string t, .int .i64 n]] w fun e w' => e = .returned (testV k t n) ∧ Below w.heap.size w w' := by
 by_cases h1 : k = 1
 ·subst h1
  go_enter Tryd.func36, Tryd.ntmps36
  go_wp2
  go_ret
  exact ⟨rfl, below_alloc (Below.refl _ _) _⟩
 by_cases h2 : k = 2
 ·subst h2
  go_enter Tryd.func36, Tryd.ntmps36
  go_wp2
  go_ret
  exact ⟨rfl, below_alloc (Below.refl _ _) _⟩
 by_cases h3 : k = 3
 ·subst h3
  go_enter Tryd.func36, Tryd.ntmps36
  go_wp2
  go_ret
  exact ⟨rfl, below_alloc (Below.refl _ _) _⟩
 by_cases h4 : k = 4
 ·subst h4
  go_enter Tryd.func36, Tryd.ntmps36
  go_wp2
  go_ret
  exact ⟨rfl, below_alloc (Below.refl _ _) _⟩
 have e : testV k t n = .nilIface := by unfold testV; rw [if_neg h1, if_neg h2, if_neg h3, if_neg h4]
 rw [e]
 go_enter Tryd.func36, Tryd.ntmps36
 go_wp2
 go_ret
 exact ⟨rfl, below_alloc (Below.refl _ _) _⟩
def allTo (p : Int → Bool) (s : ByteArray) (n : Nat) : Bool := (List.range n).all fun i => p (bt s (i : Int))
theorem allTo_succ (p : Int → Bool) (s : ByteArray) (n : Nat) : allTo p s (n + 1) = (allTo p s n && p (bt s (n : Int))) := by
 unfold allTo
 rw [List.range_succ, List.all_append]
 simp
theorem allTo_false {p : Int → Bool} {s : ByteArray} {i n : Nat} (hi : i < n) (h : p (bt s (i : Int)) = false) : allTo p s n = false := by
 unfold allTo
 rw [List.all_eq_false]
 exact ⟨i, List.mem_range.2 hi, by rw [h]; decide⟩
theorem allTo_step {p : Int → Bool} {s : ByteArray} {i : Nat} (h : allTo p s i = true) (hq : p (bt s (i : Int)) = true) : allTo p s (i + 1) = true := by rw [allTo_succ, h, hq]; rfl
def wrdB (x c : Int) : Bool := decide (33 ≤ c) && (decide (c ≤ 126) && !decide (c = x))
def plainB (s : ByteArray) (x : Int) : Bool := decide (1 ≤ (s.size : Int)) && (decide ((s.size : Int) ≤ 200) && allTo (wrdB x) s s.size)
theorem plain_l0 (s : ByteArray) (x : Int) (hs : (s.size : Int) ≤ 200) : ∀ d i : Nat, i + d = s.size → allTo (wrdB x) s i = true → Evn (fun k => impl_plain.l0 k s x (s.size : Int) (i : Int)) (allTo (wrdB x) s s.size)
 | 0, i, hi, ha => by
  obtain rfl : i = s.size := by omega
  refine (Evn.const _).step fun k => ?_
  rw [impl_plain.l0, if_neg (by omega), ha]
 | d + 1, i, hi, ha => by
  cases hq : wrdB x (bt s (i : Int)) with
  | true =>
   have hq' := hq
   unfold wrdB at hq'
   rw [Bool.and_eq_true, Bool.and_eq_true] at hq'
   have q1 := of_decide_eq_true hq'.1
   have q2 := of_decide_eq_true hq'.2.1
   have q3 : ¬ bt s (i : Int) = x := by have := hq'.2.2; simpa using this
   refine (plain_l0 s x hs d (i + 1) (by omega) (allTo_step ha hq)).step fun k => ?_
   rw [impl_plain.l0, if_pos (by omega), if_pos (by omega), if_pos (by omega), if_neg (by omega), if_neg (by omega), if_neg q3, wn1 i (by omega)]
  | false =>
   have hf := allTo_false (s := s) (n := s.size) (show i < s.size by omega) hq
   rw [hf]
   unfold wrdB at hq
   refine (Evn.const _).step fun k => ?_
   rw [impl_plain.l0, if_pos (by omega), if_pos (by omega), if_pos (by omega)]
   by_cases h1 : bt s (i : Int) < 33
   ·rw [if_pos h1]
   rw [if_neg h1]
   by_cases h2 : bt s (i : Int) > 126
   ·rw [if_pos h2]
   rw [if_neg h2]
   rw [decide_eq_true (show 33 ≤ bt s (i : Int) by omega), decide_eq_true (show bt s (i : Int) ≤ 126 by omega), Bool.true_and, Bool.true_and] at hq
   have h3 : bt s (i : Int) = x := by simpa using hq
   rw [if_pos h3]
theorem plain_ev (s : ByteArray) (x : Int) : Evn (fun k => impl_plain.f k s x) (plainB s x) := by
 by_cases h1 : (s.size : Int) < 1
 ·refine (Evn.const _).step fun k => ?_
  unfold impl_plain.f plainB
  rw [if_pos h1, impl_plain.j0, if_pos rfl, decide_eq_false (by omega)]; rfl
 ·by_cases h2 : (s.size : Int) > 200
  ·refine (Evn.const _).step fun k => ?_
   unfold impl_plain.f plainB
   rw [if_neg h1, decide_eq_true h2, impl_plain.j0, if_pos rfl, decide_eq_false (show ¬ (s.size : Int) ≤ 200 by omega), Bool.false_and, Bool.and_false]
  ·have e : plainB s x = allTo (wrdB x) s s.size := by
    unfold plainB
    rw [decide_eq_true (show (s.size : Int) ≤ 200 by omega), decide_eq_true (show 1 ≤ (s.size : Int) by omega)]; rfl
   rw [e]
   refine (plain_l0 s x (by omega) s.size 0 (by omega) rfl).step fun k => ?_
   unfold impl_plain.f
   rw [if_neg h1, decide_eq_false h2, impl_plain.j0, if_neg (by decide)]; rfl
theorem plain_any (s : ByteArray) (x : Int) (W : World) : Calls Tryd.prog 35 #[.string s, .int .u8 x] W fun e w' => e = .returned (.bool (plainB s x)) ∧ Drawn0 W w' := by
 obtain ⟨k0, h⟩ := plain_ev s x
 exact impl_plain.calls k0 s x _ W (h k0 (Nat.le_refl _))
def condB (k : Int) (t : ByteArray) (n : Int) : Bool :=
 if k = 1 ∨ k = 4 then (if n = 0 then !plainB t 0 else true)
 else if k = 2 ∨ k = 3 then (if t = ⟨#[]⟩ then (if n < 0 then true else decide (n > 4102444800)) else true) else true
theorem box_keep {w w1 : World} {cs : Array Value} {t : TypeId} (hb : Below (w.alloc (.cells cs t)).heap.size (w.alloc (.cells cs t)) w1) (i : Nat) (v : Value) (hi : cs[i]? = some v) : w1.cell? ⟨w.heap.size, i, none⟩ = some v := by
 have h0 : (w.alloc (.cells cs t)).cell? ⟨w.heap.size, i, none⟩ = some v := (blk_cell (heap_alloc_new w _) i).trans hi
 exact (hb.cell (World.block_lt_of_cell? _ _ h0)).trans h0
theorem as_75_75 (v : Value) (w : World) : Sem.run Tryd.prog (Instr.typeAssert (.iface 75 v) 72 75 true) w = .ok (.tuple #[v, .bool true]) w := by
 simp [Instr.typeAssert, run_underlying Tryd.underlying75, go_sem, Result.andThen]
theorem as_75_77 (v : Value) (w : World) : Sem.run Tryd.prog (Instr.typeAssert (.iface 75 v) 72 77 true) w = .ok (.tuple #[.agg #[.string ⟨#[]⟩], .bool false]) w := by
 simp [Instr.typeAssert, run_underlying Tryd.underlying77, go_sem, Result.andThen]
theorem as_75_79 (v : Value) (w : World) : Sem.run Tryd.prog (Instr.typeAssert (.iface 75 v) 72 79 true) w = .ok (.tuple #[.agg #[.int .i64 0, .bool false], .bool false]) w := by
 simp [Instr.typeAssert, run_underlying Tryd.underlying79, go_sem, Result.andThen]
theorem as_77_75 (v : Value) (w : World) : Sem.run Tryd.prog (Instr.typeAssert (.iface 77 v) 72 75 true) w = .ok (.tuple #[.agg #[.string ⟨#[]⟩], .bool false]) w := by
 simp [Instr.typeAssert, run_underlying Tryd.underlying75, go_sem, Result.andThen]
theorem as_77_77 (v : Value) (w : World) : Sem.run Tryd.prog (Instr.typeAssert (.iface 77 v) 72 77 true) w = .ok (.tuple #[v, .bool true]) w := by
 simp [Instr.typeAssert, run_underlying Tryd.underlying77, go_sem, Result.andThen]
theorem as_77_79 (v : Value) (w : World) : Sem.run Tryd.prog (Instr.typeAssert (.iface 77 v) 72 79 true) w = .ok (.tuple #[.agg #[.int .i64 0, .bool false], .bool false]) w := by
 simp [Instr.typeAssert, run_underlying Tryd.underlying79, go_sem, Result.andThen]
theorem as_79_75 (v : Value) (w : World) : Sem.run Tryd.prog (Instr.typeAssert (.iface 79 v) 72 75 true) w = .ok (.tuple #[.agg #[.string ⟨#[]⟩], .bool false]) w := by
 simp [Instr.typeAssert, run_underlying Tryd.underlying75, go_sem, Result.andThen]
theorem as_79_77 (v : Value) (w : World) : Sem.run Tryd.prog (Instr.typeAssert (.iface 79 v) 72 77 true) w = .ok (.tuple #[.agg #[.string ⟨#[]⟩], .bool false]) w := by
 simp [Instr.typeAssert, run_underlying Tryd.underlying77, go_sem, Result.andThen]
theorem as_79_79 (v : Value) (w : World) : Sem.run Tryd.prog (Instr.typeAssert (.iface 79 v) 72 79 true) w = .ok (.tuple #[v, .bool true]) w := by
 simp [Instr.typeAssert, run_underlying Tryd.underlying79, go_sem, Result.andThen]
theorem as_nil_75 (w : World) : Sem.run Tryd.prog (Instr.typeAssert .nilIface 72 75 true) w = .ok (.tuple #[.agg #[.string ⟨#[]⟩], .bool false]) w := by
 simp [Instr.typeAssert, run_underlying Tryd.underlying75, go_sem, Result.andThen]
theorem as_nil_77 (w : World) : Sem.run Tryd.prog (Instr.typeAssert .nilIface 72 77 true) w = .ok (.tuple #[.agg #[.string ⟨#[]⟩], .bool false]) w := by
 simp [Instr.typeAssert, run_underlying Tryd.underlying77, go_sem, Result.andThen]
theorem as_nil_79 (w : World) : Sem.run Tryd.prog (Instr.typeAssert .nilIface 72 79 true) w = .ok (.tuple #[.agg #[.int .i64 0, .bool false], .bool false]) w := by
 simp [Instr.typeAssert, run_underlying Tryd.underlying79, go_sem, Result.andThen]
attribute [local go_sem] as_75_75 as_75_77 as_75_79 as_77_75 as_77_77 as_77_79 as_79_75 as_79_77 as_79_79 as_nil_75 as_nil_77 as_nil_79
set_option maxRecDepth 100000 in
set_option maxHeartbeats 2000000 in
theorem cond_1 (t : ByteArray) (n : Int) (w : World) : Calls Tryd.prog 24 #[.agg #[.int .i64 1, .string t, .int .i64 n]] w fun e w' => e = .returned (.bool (condB 1 t n)) ∧ Below w.heap.size w w' := by
 have C1 : ∀ W, Calls Tryd.prog 36 #[.agg #[.int .i64 1, .string t, .int .i64 n]] W fun e w' => e = .returned (.iface 75 (.agg #[.string t])) ∧ Below W.heap.size W w' := fun W => testOf_any 1 t n W
 have C2 := plain_any t 0
 have HBX : Hid (∀ w1, Below (w.alloc (.cells #[.int .i64 1, .string t, .int .i64 n] 40)).heap.size (w.alloc (.cells #[.int .i64 1, .string t, .int .i64 n] 40)) w1 → Below w.heap.size w w1) :=
  Lib.hid fun w1 hb => ((Below.refl _ _).alloc (Nat.le_refl _) _).trans (hb.mono (by simp))
 by_cases h0 : n = 0
 ·subst h0
  have HV : Hid (condB 1 t 0 = !plainB t 0) := Lib.hid (by unfold condB; rw [if_pos (by decide), if_pos rfl])
  go_enter Tryd.func24, Tryd.ntmps24
  go_wp2_with fail
  refine (C1 _).mono ?_
  rintro e w' ⟨rfl, hb⟩
  have c1 := box_keep hb 1 _ rfl
  have c2 := box_keep hb 2 _ rfl
  have HB := Lib.hid hb
  clear hb
  go_wp2_with fail
  refine (C2 _).mono ?_
  rintro e w2 ⟨rfl, hd⟩
  have HD := Lib.hid hd
  clear hd
  go_wp2
  go_ret
  exact ⟨by rw [HV.out]; first | rfl | (show Ending.returned (.bool (decide (n < 0) || decide (4102444800 < n))) = _; rw [decide_eq_false (by omega), Bool.false_or]), HBX.out _ (HB.out.trans (HD.out.below.mono HB.out.size))⟩
 ·have HV : Hid (condB 1 t n = true) := Lib.hid (by unfold condB; rw [if_pos (by decide), if_neg h0])
  go_enter Tryd.func24, Tryd.ntmps24
  go_wp2_with fail
  refine (C1 _).mono ?_
  rintro e w' ⟨rfl, hb⟩
  have c1 := box_keep hb 1 _ rfl
  have c2 := box_keep hb 2 _ rfl
  have HB := Lib.hid hb
  clear hb
  go_wp2
  go_ret
  exact ⟨by rw [HV.out]; first | rfl | (show Ending.returned (.bool (decide (n < 0) || decide (4102444800 < n))) = _; rw [decide_eq_false (by omega), Bool.false_or]), HBX.out _ HB.out⟩
set_option maxRecDepth 100000 in
set_option maxHeartbeats 2000000 in
theorem cond_2 (t : ByteArray) (n : Int) (w : World) : Calls Tryd.prog 24 #[.agg #[.int .i64 2, .string t, .int .i64 n]] w fun e w' => e = .returned (.bool (condB 2 t n)) ∧ Below w.heap.size w w' := by
 have C1 : ∀ W, Calls Tryd.prog 36 #[.agg #[.int .i64 2, .string t, .int .i64 n]] W fun e w' => e = .returned (.iface 79 (.agg #[.int .i64 n, .bool false])) ∧ Below W.heap.size W w' := fun W => testOf_any 2 t n W
 have HBX : Hid (∀ w1, Below (w.alloc (.cells #[.int .i64 2, .string t, .int .i64 n] 40)).heap.size (w.alloc (.cells #[.int .i64 2, .string t, .int .i64 n] 40)) w1 → Below w.heap.size w w1) :=
  Lib.hid fun w1 hb => ((Below.refl _ _).alloc (Nat.le_refl _) _).trans (hb.mono (by simp))
 by_cases h0 : t = ⟨#[]⟩
 ·subst h0
  by_cases h1 : n < 0
  ·have HV : Hid (condB 2 ⟨#[]⟩ n = true) := Lib.hid (by unfold condB; rw [if_neg (by decide), if_pos (by decide), if_pos rfl, if_pos h1])
   go_enter Tryd.func24, Tryd.ntmps24
   go_wp2_with fail
   refine (C1 _).mono ?_
   rintro e w' ⟨rfl, hb⟩
   have c1 := box_keep hb 1 _ rfl
   have c2 := box_keep hb 2 _ rfl
   have HB := Lib.hid hb
   clear hb
   go_wp2
   go_ret
   exact ⟨by rw [HV.out]; first | rfl | (show Ending.returned (.bool (decide (n < 0) || decide (4102444800 < n))) = _; rw [decide_eq_false (by omega), Bool.false_or]), HBX.out _ HB.out⟩
  ·have HV : Hid (condB 2 ⟨#[]⟩ n = decide (n > 4102444800)) := Lib.hid (by unfold condB; rw [if_neg (by decide), if_pos (by decide), if_pos rfl, if_neg h1])
   go_enter Tryd.func24, Tryd.ntmps24
   go_wp2_with fail
   refine (C1 _).mono ?_
   rintro e w' ⟨rfl, hb⟩
   have c1 := box_keep hb 1 _ rfl
   have c2 := box_keep hb 2 _ rfl
   have HB := Lib.hid hb
   clear hb
   go_wp2
   go_ret
   exact ⟨by rw [HV.out]; first | rfl | (show Ending.returned (.bool (decide (n < 0) || decide (4102444800 < n))) = _; rw [decide_eq_false (by omega), Bool.false_or]), HBX.out _ HB.out⟩
 ·have HV : Hid (condB 2 t n = true) := Lib.hid (by unfold condB; rw [if_neg (by decide), if_pos (by decide), if_neg h0])
  have h0l : (t.toList = []) = False := eq_false fun e => h0 (by
   rw [ByteArray.toList_eq] at e
   exact ByteArray.ext (Array.ext' e))
  clear h0
  go_enter Tryd.func24, Tryd.ntmps24
  go_wp2_with fail
  refine (C1 _).mono ?_
  rintro e w' ⟨rfl, hb⟩
  have c1 := box_keep hb 1 _ rfl
  have c2 := box_keep hb 2 _ rfl
  have HB := Lib.hid hb
  clear hb
  go_wp2
  go_ret
  exact ⟨by rw [HV.out]; first | rfl | (show Ending.returned (.bool (decide (n < 0) || decide (4102444800 < n))) = _; rw [decide_eq_false (by omega), Bool.false_or]), HBX.out _ HB.out⟩
set_option maxRecDepth 100000 in
set_option maxHeartbeats 2000000 in
theorem cond_3 (t : ByteArray) (n : Int) (w : World) : Calls Tryd.prog 24 #[.agg #[.int .i64 3, .string t, .int .i64 n]] w fun e w' => e = .returned (.bool (condB 3 t n)) ∧ Below w.heap.size w w' := by
 have C1 : ∀ W, Calls Tryd.prog 36 #[.agg #[.int .i64 3, .string t, .int .i64 n]] W fun e w' => e = .returned (.iface 79 (.agg #[.int .i64 n, .bool true])) ∧ Below W.heap.size W w' := fun W => testOf_any 3 t n W
 have HBX : Hid (∀ w1, Below (w.alloc (.cells #[.int .i64 3, .string t, .int .i64 n] 40)).heap.size (w.alloc (.cells #[.int .i64 3, .string t, .int .i64 n] 40)) w1 → Below w.heap.size w w1) :=
  Lib.hid fun w1 hb => ((Below.refl _ _).alloc (Nat.le_refl _) _).trans (hb.mono (by simp))
 by_cases h0 : t = ⟨#[]⟩
 ·subst h0
  by_cases h1 : n < 0
  ·have HV : Hid (condB 3 ⟨#[]⟩ n = true) := Lib.hid (by unfold condB; rw [if_neg (by decide), if_pos (by decide), if_pos rfl, if_pos h1])
   go_enter Tryd.func24, Tryd.ntmps24
   go_wp2_with fail
   refine (C1 _).mono ?_
   rintro e w' ⟨rfl, hb⟩
   have c1 := box_keep hb 1 _ rfl
   have c2 := box_keep hb 2 _ rfl
   have HB := Lib.hid hb
   clear hb
   go_wp2
   go_ret
   exact ⟨by rw [HV.out]; first | rfl | (show Ending.returned (.bool (decide (n < 0) || decide (4102444800 < n))) = _; rw [decide_eq_false (by omega), Bool.false_or]), HBX.out _ HB.out⟩
  ·have HV : Hid (condB 3 ⟨#[]⟩ n = decide (n > 4102444800)) := Lib.hid (by unfold condB; rw [if_neg (by decide), if_pos (by decide), if_pos rfl, if_neg h1])
   go_enter Tryd.func24, Tryd.ntmps24
   go_wp2_with fail
   refine (C1 _).mono ?_
   rintro e w' ⟨rfl, hb⟩
   have c1 := box_keep hb 1 _ rfl
   have c2 := box_keep hb 2 _ rfl
   have HB := Lib.hid hb
   clear hb
   go_wp2
   go_ret
   exact ⟨by rw [HV.out]; first | rfl | (show Ending.returned (.bool (decide (n < 0) || decide (4102444800 < n))) = _; rw [decide_eq_false (by omega), Bool.false_or]), HBX.out _ HB.out⟩
 ·have HV : Hid (condB 3 t n = true) := Lib.hid (by unfold condB; rw [if_neg (by decide), if_pos (by decide), if_neg h0])
  have h0l : (t.toList = []) = False := eq_false fun e => h0 (by
   rw [ByteArray.toList_eq] at e
   exact ByteArray.ext (Array.ext' e))
  clear h0
  go_enter Tryd.func24, Tryd.ntmps24
  go_wp2_with fail
  refine (C1 _).mono ?_
  rintro e w' ⟨rfl, hb⟩
  have c1 := box_keep hb 1 _ rfl
  have c2 := box_keep hb 2 _ rfl
  have HB := Lib.hid hb
  clear hb
  go_wp2
  go_ret
  exact ⟨by rw [HV.out]; first | rfl | (show Ending.returned (.bool (decide (n < 0) || decide (4102444800 < n))) = _; rw [decide_eq_false (by omega), Bool.false_or]), HBX.out _ HB.out⟩
set_option maxRecDepth 100000 in
set_option maxHeartbeats 2000000 in
theorem cond_4 (t : ByteArray) (n : Int) (w : World) : Calls Tryd.prog 24 #[.agg #[.int .i64 4, .string t, .int .i64 n]] w fun e w' => e = .returned (.bool (condB 4 t n)) ∧ Below w.heap.size w w' := by
 have C1 : ∀ W, Calls Tryd.prog 36 #[.agg #[.int .i64 4, .string t, .int .i64 n]] W fun e w' => e = .returned (.iface 77 (.agg #[.string t])) ∧ Below W.heap.size W w' := fun W => testOf_any 4 t n W
 have C2 := plain_any t 0
 have HBX : Hid (∀ w1, Below (w.alloc (.cells #[.int .i64 4, .string t, .int .i64 n] 40)).heap.size (w.alloc (.cells #[.int .i64 4, .string t, .int .i64 n] 40)) w1 → Below w.heap.size w w1) :=
  Lib.hid fun w1 hb => ((Below.refl _ _).alloc (Nat.le_refl _) _).trans (hb.mono (by simp))
 by_cases h0 : n = 0
 ·subst h0
  have HV : Hid (condB 4 t 0 = !plainB t 0) := Lib.hid (by unfold condB; rw [if_pos (by decide), if_pos rfl])
  go_enter Tryd.func24, Tryd.ntmps24
  go_wp2_with fail
  refine (C1 _).mono ?_
  rintro e w' ⟨rfl, hb⟩
  have c1 := box_keep hb 1 _ rfl
  have c2 := box_keep hb 2 _ rfl
  have HB := Lib.hid hb
  clear hb
  go_wp2_with fail
  refine (C2 _).mono ?_
  rintro e w2 ⟨rfl, hd⟩
  have HD := Lib.hid hd
  clear hd
  go_wp2
  go_ret
  exact ⟨by rw [HV.out]; first | rfl | (show Ending.returned (.bool (decide (n < 0) || decide (4102444800 < n))) = _; rw [decide_eq_false (by omega), Bool.false_or]), HBX.out _ (HB.out.trans (HD.out.below.mono HB.out.size))⟩
 ·have HV : Hid (condB 4 t n = true) := Lib.hid (by unfold condB; rw [if_pos (by decide), if_neg h0])
  go_enter Tryd.func24, Tryd.ntmps24
  go_wp2_with fail
  refine (C1 _).mono ?_
  rintro e w' ⟨rfl, hb⟩
  have c1 := box_keep hb 1 _ rfl
  have c2 := box_keep hb 2 _ rfl
  have HB := Lib.hid hb
  clear hb
  go_wp2
  go_ret
  exact ⟨by rw [HV.out]; first | rfl | (show Ending.returned (.bool (decide (n < 0) || decide (4102444800 < n))) = _; rw [decide_eq_false (by omega), Bool.false_or]), HBX.out _ HB.out⟩
set_option maxRecDepth 100000 in
set_option maxHeartbeats 2000000 in
theorem cond_no (k : Int) (h1 : k ≠ 1) (h2 : k ≠ 2) (h3 : k ≠ 3) (h4 : k ≠ 4) (t : ByteArray) (n : Int) (w : World) : Calls Tryd.prog 24 #[.agg #[.int .i64 k, .string t, .int .i64 n]] w fun e w' => e = .returned (.bool (condB k t n)) ∧ Below w.heap.size w w' := by
 have C1 : ∀ W, Calls Tryd.prog 36 #[.agg #[.int .i64 k, .string t, .int .i64 n]] W fun e w' => e = .returned .nilIface ∧ Below W.heap.size W w' := fun W => by
  have e : testV k t n = .nilIface := by unfold testV; rw [if_neg h1, if_neg h2, if_neg h3, if_neg h4]
  exact e ▸ testOf_any k t n W
 have HBX : Hid (∀ w1, Below (w.alloc (.cells #[.int .i64 k, .string t, .int .i64 n] 40)).heap.size (w.alloc (.cells #[.int .i64 k, .string t, .int .i64 n] 40)) w1 → Below w.heap.size w w1) :=
  Lib.hid fun w1 hb => ((Below.refl _ _).alloc (Nat.le_refl _) _).trans (hb.mono (by simp))
 have HV : Hid (condB k t n = true) := Lib.hid (by unfold condB; rw [if_neg (by omega), if_neg (by omega)])
 clear h1 h2 h3 h4
 go_enter Tryd.func24, Tryd.ntmps24
 go_wp2_with fail
 refine (C1 _).mono ?_
 rintro e w' ⟨rfl, hb⟩
 have HB := Lib.hid hb
 clear hb
 go_wp2
 go_ret
 exact ⟨by rw [HV.out]; first | rfl | (show Ending.returned (.bool (decide (n < 0) || decide (4102444800 < n))) = _; rw [decide_eq_false (by omega), Bool.false_or]), HBX.out _ HB.out⟩
def impl_conditionFault.f (a0_0 : Int) (a0_1 : ByteArray) (a0_2 : Int) : Option (Bool) := some (condB a0_0 a0_1 a0_2)
theorem impl_conditionFault.calls (a0_0 : Int) (a0_1 : ByteArray) (a0_2 : Int) (r : Bool) (w : World) (h : impl_conditionFault.f a0_0 a0_1 a0_2 = some r) :
  Calls Tryd.prog 24 #[.agg #[.int .i64 a0_0, .string a0_1, .int .i64 a0_2]] w fun e w' => e = .returned (.bool r) ∧ Below w.heap.size w w' := by
 obtain rfl := Option.some.inj h
 by_cases h1 : a0_0 = 1
 ·subst h1; exact cond_1 _ _ _
 by_cases h2 : a0_0 = 2
 ·subst h2; exact cond_2 _ _ _
 by_cases h3 : a0_0 = 3
 ·subst h3; exact cond_3 _ _ _
 by_cases h4 : a0_0 = 4
 ·subst h4; exact cond_4 _ _ _
 exact cond_no _ h1 h2 h3 h4 _ _ _
end Go.Proofs.YtpdgopabnihpiaaDoor.QA
namespace Go.Proofs.YtpdgopabnihpiaaDoor.QA
open Go.RowKit Go.Proofs.YtpdgopabnihpiaaDoorW.PrintWords Go.Proofs.YtpdgopabnihpiaaDoorW.PrintLast Go.Proofs.YtpdgopabnihpiaaDoorW.PrintMore
attribute [local go_sem] max2_int min2_int max_two min_two max_three min_three max_four min_four
set_option linter.unusedVariables false
set_option linter.unusedSimpArgs false

-- EXT impl_conditionFault 24

end Go.Proofs.YtpdgopabnihpiaaDoor.QA
