/- Contracts of the program's functions, written by standin.py, a program of the session's own, over the kit's printer; Lean checks them. Made texts: the program's made, isMethod, headerValue, isHeader. Conditions: those that each theorem states. -/
import Derived.Test.YthcijamlaeeonaaDoorPkFnExactWriteRequest1
import Derived.Maps.OwnOps
import Derived.Outline
import Derived.Shelf.Abstract
import Derived.Lib.Hide
import Derived.Test.YthcijamlaeeonaaDoorPkFnExactWriteRequest8
import Derived.Test.YthcijamlaeeonaaDoorPkFnExactWriteRequest13
namespace Go.Proofs.YthcijamlaeeonaaDoor.QA
open Go.RowKit Go.Proofs.YthcijamlaeeonaaDoorW.PrintWords Go.Proofs.YthcijamlaeeonaaDoorW.PrintLast Go.Proofs.YthcijamlaeeonaaDoorW.PrintMore
attribute [local go_sem] max2_int min2_int max_two min_two max_three min_three max_four min_four
set_option linter.unusedVariables false
set_option linter.unusedSimpArgs false

/-! ### impl_isQuery: function 21 -/
def impl_isQuery.f (a0_0 : ByteArray) (a0_1 : ByteArray) : Option (Bool) := if (a0_0.size : Int) ≥ 1 then (if (a0_0.size : Int) ≤ 100 then (some (decide ((a0_1.size : Int) ≤ 1000))) else (some false)) else (some false)
set_option maxHeartbeats 8000000 in
set_option maxRecDepth 100000 in
theorem impl_isQuery.calls (a0_0 : ByteArray) (a0_1 : ByteArray) (r : Bool) (w : World) (h : impl_isQuery.f a0_0 a0_1 = some r) :
  Calls Tryd.prog 21 #[.agg #[.string a0_0, .string a0_1]] w fun e w' => e = .returned (.bool r) ∧ Below w.heap.size w w' := by
 have hu38 := Tryd.underlying38
 have HB := Aside0.mk (Below.refl w.heap.size w)
 have H : (if (a0_0.size : Int) ≥ 1 then (if (a0_0.size : Int) ≤ 100 then (some (decide ((a0_1.size : Int) ≤ 1000))) else (some false)) else (some false)) = some r := h
 clear h
 by_cases c2 : (a0_0.size : Int) ≥ 1
 ·rw [if_pos c2] at H
  have c2b0 : decide (1 ≤ (a0_0.size : Int)) = true := decide_eq_true c2
  have c2b1 : decide (1 ≤ a0_0.size) = true := decide_eq_true (by omega)
  clear c2
  by_cases c3 : (a0_0.size : Int) ≤ 100
  ·rw [if_pos c3] at H
   have c3b0 : decide ((a0_0.size : Int) ≤ 100) = true := decide_eq_true c3
   have c3b1 : decide (a0_0.size ≤ 100) = true := decide_eq_true (by omega)
   clear c3
   obtain rfl := Option.some.inj H
   go_enter Tryd.func21, Tryd.ntmps21
   go_wp2_with (first | ((with_reducible refine gate_dst (N := 1) rfl ?_); (try (refine gate_guard (by rfl) ?_; dsimp only)); refine box_event ?hg (N := 1) ?hd (cs := #[.string a0_0, .string a0_1]) (t := 38) ?hr ?_; (case hd => rfl); (case hg => rfl); (case hr => first | (go_simp; done) | (go_simp; rfl)); intro gb141 hg w4 hbox hb; have n0_ := Aside0.mk (below_step (by repeat (first | (with_reducible first | exact HB.out | apply below_alloc | apply pw_below_drewN | apply below_drew1) | exact HB.out)) hb); have n1_ := Aside0.mk (hbox); have n2_ := Aside0.mk ((by rw [hg]; exact (below_size (by repeat (first | (with_reducible first | exact HB.out | apply below_alloc | apply pw_below_drewN | apply below_drew1) | exact HB.out))) : w.heap.size ≤ gb141)); have n3_ := Aside0.mk ((by rw [hg]; exact (below_size (by repeat (first | (with_reducible first | exact HB.out | apply below_alloc | apply pw_below_drewN | apply below_drew1) | exact HB.out))) : w.heap.size ≤ gb141)); clear HB; have HB := n0_; have BK141 := n1_; have GW141 := n2_; have GE141 := n3_; clear n0_ n1_ n2_ n3_; clear hb hbox hg; have hcz5_0 : w4.cell? ⟨gb141, 0, none⟩ = some (.string a0_0) := (blk_cell BK141.out 0).trans rfl; have hcz5_1 : w4.cell? ⟨gb141, 1, none⟩ = some (.string a0_1) := (blk_cell BK141.out 1).trans rfl; have hfz5_0 := blk_frozen BK141.out 0; have hfz5_1 := blk_frozen BK141.out 1))
   go_ret
   exact ⟨by first | rfl | (simp [errW_none, errW_some] <;> rfl) | (simp [*, errW_none, errW_some] <;> rfl), by repeat (first | (with_reducible first | exact HB.out | apply below_alloc | apply pw_below_drewN | apply below_drew1 | refine below_set ?_ GE141.out) | exact HB.out)⟩
  ·rw [if_neg c3] at H
   have c3b0 : decide ((a0_0.size : Int) ≤ 100) = false := decide_eq_false c3
   have c3b1 : decide (a0_0.size ≤ 100) = false := decide_eq_false (by omega)
   clear c3
   obtain rfl := Option.some.inj H
   go_enter Tryd.func21, Tryd.ntmps21
   go_wp2_with (first | ((with_reducible refine gate_dst (N := 1) rfl ?_); (try (refine gate_guard (by rfl) ?_; dsimp only)); refine box_event ?hg (N := 1) ?hd (cs := #[.string a0_0, .string a0_1]) (t := 38) ?hr ?_; (case hd => rfl); (case hg => rfl); (case hr => first | (go_simp; done) | (go_simp; rfl)); intro gb141 hg w6 hbox hb; have n0_ := Aside0.mk (below_step (by repeat (first | (with_reducible first | exact HB.out | apply below_alloc | apply pw_below_drewN | apply below_drew1) | exact HB.out)) hb); have n1_ := Aside0.mk (hbox); have n2_ := Aside0.mk ((by rw [hg]; exact (below_size (by repeat (first | (with_reducible first | exact HB.out | apply below_alloc | apply pw_below_drewN | apply below_drew1) | exact HB.out))) : w.heap.size ≤ gb141)); have n3_ := Aside0.mk ((by rw [hg]; exact (below_size (by repeat (first | (with_reducible first | exact HB.out | apply below_alloc | apply pw_below_drewN | apply below_drew1) | exact HB.out))) : w.heap.size ≤ gb141)); clear HB; have HB := n0_; have BK141 := n1_; have GW141 := n2_; have GE141 := n3_; clear n0_ n1_ n2_ n3_; clear hb hbox hg; have hcz7_0 : w6.cell? ⟨gb141, 0, none⟩ = some (.string a0_0) := (blk_cell BK141.out 0).trans rfl; have hcz7_1 : w6.cell? ⟨gb141, 1, none⟩ = some (.string a0_1) := (blk_cell BK141.out 1).trans rfl; have hfz7_0 := blk_frozen BK141.out 0; have hfz7_1 := blk_frozen BK141.out 1))
   go_ret
   exact ⟨by first | rfl | (simp [errW_none, errW_some] <;> rfl) | (simp [*, errW_none, errW_some] <;> rfl), by repeat (first | (with_reducible first | exact HB.out | apply below_alloc | apply pw_below_drewN | apply below_drew1 | refine below_set ?_ GE141.out) | exact HB.out)⟩
 ·rw [if_neg c2] at H
  have c2b0 : decide (1 ≤ (a0_0.size : Int)) = false := decide_eq_false c2
  have c2b1 : decide (1 ≤ a0_0.size) = false := decide_eq_false (by omega)
  clear c2
  obtain rfl := Option.some.inj H
  go_enter Tryd.func21, Tryd.ntmps21
  go_wp2_with (first | ((with_reducible refine gate_dst (N := 1) rfl ?_); (try (refine gate_guard (by rfl) ?_; dsimp only)); refine box_event ?hg (N := 1) ?hd (cs := #[.string a0_0, .string a0_1]) (t := 38) ?hr ?_; (case hd => rfl); (case hg => rfl); (case hr => first | (go_simp; done) | (go_simp; rfl)); intro gb141 hg w8 hbox hb; have n0_ := Aside0.mk (below_step (by repeat (first | (with_reducible first | exact HB.out | apply below_alloc | apply pw_below_drewN | apply below_drew1) | exact HB.out)) hb); have n1_ := Aside0.mk (hbox); have n2_ := Aside0.mk ((by rw [hg]; exact (below_size (by repeat (first | (with_reducible first | exact HB.out | apply below_alloc | apply pw_below_drewN | apply below_drew1) | exact HB.out))) : w.heap.size ≤ gb141)); have n3_ := Aside0.mk ((by rw [hg]; exact (below_size (by repeat (first | (with_reducible first | exact HB.out | apply below_alloc | apply pw_below_drewN | apply below_drew1) | exact HB.out))) : w.heap.size ≤ gb141)); clear HB; have HB := n0_; have BK141 := n1_; have GW141 := n2_; have GE141 := n3_; clear n0_ n1_ n2_ n3_; clear hb hbox hg; have hcz9_0 : w8.cell? ⟨gb141, 0, none⟩ = some (.string a0_0) := (blk_cell BK141.out 0).trans rfl; have hcz9_1 : w8.cell? ⟨gb141, 1, none⟩ = some (.string a0_1) := (blk_cell BK141.out 1).trans rfl; have hfz9_0 := blk_frozen BK141.out 0; have hfz9_1 := blk_frozen BK141.out 1))
  go_ret
  exact ⟨by first | rfl | (simp [errW_none, errW_some] <;> rfl) | (simp [*, errW_none, errW_some] <;> rfl), by repeat (first | (with_reducible first | exact HB.out | apply below_alloc | apply pw_below_drewN | apply below_drew1 | refine below_set ?_ GE141.out) | exact HB.out)⟩

/-! ### impl_isCapital: function 31 -/
def impl_isCapital.f (a0 : Int) : Option (Bool) := if a0 ≥ 65 then (some (decide (a0 ≤ 90))) else (some false)
set_option maxHeartbeats 8000000 in
set_option maxRecDepth 100000 in
theorem impl_isCapital.calls (a0 : Int) (r : Bool) (w : World) (h : impl_isCapital.f a0 = some r) :
  Calls Tryd.prog 31 #[.int .u8 a0] w fun e w' => e = .returned (.bool r) ∧ Drawn0 w w' := by
 have H : (if a0 ≥ 65 then (some (decide (a0 ≤ 90))) else (some false)) = some r := h
 clear h
 by_cases c2 : a0 ≥ 65
 ·rw [if_pos c2] at H
  have c2b0 : decide (65 ≤ a0) = true := decide_eq_true c2
  clear c2
  obtain rfl := Option.some.inj H
  go_enter Tryd.func31, Tryd.ntmps31
  go_wp2
  go_ret
  exact ⟨by first | rfl | (simp; done) | (simp [*]; done), by repeat (first | exact Drawn0.refl _ | apply Drawn0.step)⟩
 ·rw [if_neg c2] at H
  have c2b0 : decide (65 ≤ a0) = false := decide_eq_false c2
  clear c2
  obtain rfl := Option.some.inj H
  go_enter Tryd.func31, Tryd.ntmps31
  go_wp2
  go_ret
  exact ⟨by first | rfl | (simp; done) | (simp [*]; done), by repeat (first | exact Drawn0.refl _ | apply Drawn0.step)⟩

/-! ### impl_isPrinted: function 45 -/
def impl_isPrinted.f (a0 : Int) : Option (Bool) := if a0 ≥ 32 then (some (decide (a0 ≤ 126))) else (some false)
set_option maxHeartbeats 8000000 in
set_option maxRecDepth 100000 in
theorem impl_isPrinted.calls (a0 : Int) (r : Bool) (w : World) (h : impl_isPrinted.f a0 = some r) :
  Calls Tryd.prog 45 #[.int .u8 a0] w fun e w' => e = .returned (.bool r) ∧ Drawn0 w w' := by
 have H : (if a0 ≥ 32 then (some (decide (a0 ≤ 126))) else (some false)) = some r := h
 clear h
 by_cases c2 : a0 ≥ 32
 ·rw [if_pos c2] at H
  have c2b0 : decide (32 ≤ a0) = true := decide_eq_true c2
  clear c2
  obtain rfl := Option.some.inj H
  go_enter Tryd.func45, Tryd.ntmps45
  go_wp2
  go_ret
  exact ⟨by first | rfl | (simp; done) | (simp [*]; done), by repeat (first | exact Drawn0.refl _ | apply Drawn0.step)⟩
 ·rw [if_neg c2] at H
  have c2b0 : decide (32 ≤ a0) = false := decide_eq_false c2
  clear c2
  obtain rfl := Option.some.inj H
  go_enter Tryd.func45, Tryd.ntmps45
  go_wp2
  go_ret
  exact ⟨by first | rfl | (simp; done) | (simp [*]; done), by repeat (first | exact Drawn0.refl _ | apply Drawn0.step)⟩

/-! ### impl_isPlainLetter: function 44 -/
def impl_isPlainLetter.f (a0 : Int) : Option (Bool) := if a0 ≥ 97 then (if a0 ≤ 122 then (some true) else (if a0 ≥ 48 then (some (decide (a0 ≤ 57))) else (some false))) else (if a0 ≥ 48 then (some (decide (a0 ≤ 57))) else (some false))
set_option maxHeartbeats 8000000 in
set_option maxRecDepth 100000 in
theorem impl_isPlainLetter.calls (a0 : Int) (r : Bool) (w : World) (h : impl_isPlainLetter.f a0 = some r) :
  Calls Tryd.prog 44 #[.int .u8 a0] w fun e w' => e = .returned (.bool r) ∧ Drawn0 w w' := by
 have H : (if a0 ≥ 97 then (if a0 ≤ 122 then (some true) else (if a0 ≥ 48 then (some (decide (a0 ≤ 57))) else (some false))) else (if a0 ≥ 48 then (some (decide (a0 ≤ 57))) else (some false))) = some r := h
 clear h
 by_cases c2 : a0 ≥ 97
 ·rw [if_pos c2] at H
  have c2b0 : decide (97 ≤ a0) = true := decide_eq_true c2
  clear c2
  by_cases c3 : a0 ≤ 122
  ·rw [if_pos c3] at H
   have c3b0 : decide (a0 ≤ 122) = true := decide_eq_true c3
   clear c3
   obtain rfl := Option.some.inj H
   go_enter Tryd.func44, Tryd.ntmps44
   go_wp2
   go_ret
   exact ⟨by first | rfl | (simp; done) | (simp [*]; done), by repeat (first | exact Drawn0.refl _ | apply Drawn0.step)⟩
  ·rw [if_neg c3] at H
   have c3b0 : decide (a0 ≤ 122) = false := decide_eq_false c3
   clear c3
   by_cases c4 : a0 ≥ 48
   ·rw [if_pos c4] at H
    have c4b0 : decide (48 ≤ a0) = true := decide_eq_true c4
    clear c4
    obtain rfl := Option.some.inj H
    go_enter Tryd.func44, Tryd.ntmps44
    go_wp2
    go_ret
    exact ⟨by first | rfl | (simp; done) | (simp [*]; done), by repeat (first | exact Drawn0.refl _ | apply Drawn0.step)⟩
   ·rw [if_neg c4] at H
    have c4b0 : decide (48 ≤ a0) = false := decide_eq_false c4
    clear c4
    obtain rfl := Option.some.inj H
    go_enter Tryd.func44, Tryd.ntmps44
    go_wp2
    go_ret
    exact ⟨by first | rfl | (simp; done) | (simp [*]; done), by repeat (first | exact Drawn0.refl _ | apply Drawn0.step)⟩
 ·rw [if_neg c2] at H
  have c2b0 : decide (97 ≤ a0) = false := decide_eq_false c2
  clear c2
  by_cases c5 : a0 ≥ 48
  ·rw [if_pos c5] at H
   have c5b0 : decide (48 ≤ a0) = true := decide_eq_true c5
   clear c5
   obtain rfl := Option.some.inj H
   go_enter Tryd.func44, Tryd.ntmps44
   go_wp2
   go_ret
   exact ⟨by first | rfl | (simp; done) | (simp [*]; done), by repeat (first | exact Drawn0.refl _ | apply Drawn0.step)⟩
  ·rw [if_neg c5] at H
   have c5b0 : decide (48 ≤ a0) = false := decide_eq_false c5
   clear c5
   obtain rfl := Option.some.inj H
   go_enter Tryd.func44, Tryd.ntmps44
   go_wp2
   go_ret
   exact ⟨by first | rfl | (simp; done) | (simp [*]; done), by repeat (first | exact Drawn0.refl _ | apply Drawn0.step)⟩

/-! ### impl_isHeaderLetter: function 33 -/
def impl_isHeaderLetter.f (a0 : Int) : Option (Bool) := (impl_isPlainLetter.f a0).bind fun t142 => (if t142 = true then (some true) else (some (a0 == 45)))
set_option maxHeartbeats 8000000 in
set_option maxRecDepth 100000 in
theorem impl_isHeaderLetter.calls (a0 : Int) (r : Bool) (w : World) (h : impl_isHeaderLetter.f a0 = some r) :
  Calls Tryd.prog 33 #[.int .u8 a0] w fun e w' => e = .returned (.bool r) ∧ Drawn0 w w' := by
 have H : ((impl_isPlainLetter.f a0).bind fun t142 => (if t142 = true then (some true) else (some (a0 == 45)))) = some r := h
 clear h
 replace H := Option.bind_eq_some_iff.mp H
 obtain ⟨t142, A20, H⟩ := H
 replace H : (if t142 = true then (some true) else (some (a0 == 45))) = some r := H
 have A2 := Aside0.mk A20
 clear A20
 by_cases c3 : t142 = true
 ·subst c3
  have H1 : (some true) = some r := by rw [if_pos rfl] at H; exact H
  clear H
  have H := H1
  clear H1
  obtain rfl := Option.some.inj H
  go_enter Tryd.func33, Tryd.ntmps33
  go_wp2_with (first | ((with_reducible refine gate_callee (f := 44) rfl ?_); refine goesL_ (some 4) rfl rfl Tryd.func44 (by kernel_rfl) rfl #[.int .u8 a0] rfl (by (try simp only [List.map_toArray, List.map_cons, List.map_nil]); first | done | rfl | (simp only [List.length_drop, List.length_take]; rfl)) ?_; (with_reducible refine (impl_isPlainLetter.calls a0 true _ A2.out).mono ?_); rintro e w' ⟨rfl, ⟨nd, rfl⟩⟩; refine ⟨_, rfl, ?_⟩))
  go_ret
  exact ⟨by first | rfl | (simp; done) | (simp [*]; done), by repeat (first | exact Drawn0.refl _ | apply Drawn0.step)⟩
 ·replace c3 := Bool.eq_false_iff.mpr c3
  subst c3
  have H1 : (some (a0 == 45)) = some r := by rw [if_neg (show ¬ (false = true) by decide)] at H; exact H
  clear H
  have H := H1
  clear H1
  obtain rfl := Option.some.inj H
  go_enter Tryd.func33, Tryd.ntmps33
  go_wp2_with (first | ((with_reducible refine gate_callee (f := 44) rfl ?_); refine goesL_ (some 4) rfl rfl Tryd.func44 (by kernel_rfl) rfl #[.int .u8 a0] rfl (by (try simp only [List.map_toArray, List.map_cons, List.map_nil]); first | done | rfl | (simp only [List.length_drop, List.length_take]; rfl)) ?_; (with_reducible refine (impl_isPlainLetter.calls a0 false _ A2.out).mono ?_); rintro e w' ⟨rfl, ⟨nd, rfl⟩⟩; refine ⟨_, rfl, ?_⟩))
  go_ret
  exact ⟨by first | rfl | (simp; done) | (simp [*]; done), by repeat (first | exact Drawn0.refl _ | apply Drawn0.step)⟩

end Go.Proofs.YthcijamlaeeonaaDoor.QA
namespace Go.Proofs.YthcijamlaeeonaaDoor.QA
open Go.RowKit Go.Proofs.YthcijamlaeeonaaDoorW.PrintWords Go.Proofs.YthcijamlaeeonaaDoorW.PrintLast Go.Proofs.YthcijamlaeeonaaDoorW.PrintMore
set_option linter.unusedVariables false
set_option linter.unusedSimpArgs false

def allTo (p : Int → Bool) (s : ByteArray) (n : Nat) : Bool := (List.range n).all fun i => p (bt s (i : Int))
def madeB (p : Int → Bool) (lo hi : Int) (s : ByteArray) : Bool := if (s.size : Int) < lo ∨ (s.size : Int) > hi then false else allTo p s s.size
theorem allTo_succ (p : Int → Bool) (s : ByteArray) (n : Nat) : allTo p s (n + 1) = (allTo p s n && p (bt s (n : Int))) := by
 unfold allTo
 rw [List.range_succ, List.all_append]
 simp
theorem allTo_false {p : Int → Bool} {s : ByteArray} {i n : Nat} (hi : i < n) (h : p (bt s (i : Int)) = false) : allTo p s n = false := by
 unfold allTo
 rw [List.all_eq_false]
 exact ⟨i, List.mem_range.2 hi, by rw [h]; decide⟩
/-- A predicate on bytes, called. -/
def Pred8 (g : Nat) (p : Int → Bool) : Prop := ∀ (W : World) (c : Int), Calls Tryd.prog g #[.int .u8 c] W fun e w' => e = .returned (.bool (p c)) ∧ Drawn0 W w'

theorem bt_nat (s : ByteArray) (i : Nat) (h : i < s.size) : bt s (i : Int) = ((s[i]'h).toNat : Int) := (bt_at s (i : Int) h).symm
theorem dr_trans {a b c : World} (h : Drawn0 a b) (k : Drawn0 b c) : Drawn0 a c := by
 obtain ⟨m, rfl⟩ := k.out
 exact h.step m
set_option maxHeartbeats 400000 in
theorem made_any (g : Nat) (p : Int → Bool) (hp : Pred8 g p) (eg : ∀ args w, (callFunc g args).run Tryd.prog w = .ok (.enter g args) w) (lo hi : Int) (s : ByteArray) (hs : s.size ≤ maxLen) (w : World) :
  Calls Tryd.prog 30 #[.string s, .int .i64 lo, .int .i64 hi, .func (.func g) #[] #[]] w fun e w' => e = .returned (.bool (madeB p lo hi s)) ∧ Drawn0 w w' := by
 unfold maxLen at hs
 by_cases h1 : (s.size : Int) < lo
 ·have hm : Hid (madeB p lo hi s = false) := Lib.hid (by unfold madeB; rw [if_pos (.inl h1)])
  go_enter Tryd.func30, Tryd.ntmps30
  go_wp2
  go_ret
  exact ⟨by rw [hm.out]; rfl, Drawn0.refl _⟩
 ·by_cases h2 : (s.size : Int) > hi
  ·have hm : Hid (madeB p lo hi s = false) := Lib.hid (by unfold madeB; rw [if_pos (.inr h2)])
   go_enter Tryd.func30, Tryd.ntmps30
   go_wp2
   go_ret
   exact ⟨by rw [hm.out]; rfl, Drawn0.refl _⟩
  ·have hm : Hid (madeB p lo hi s = allTo p s s.size) := Lib.hid (by unfold madeB; rw [if_neg (by omega)])
   go_enter Tryd.func30, Tryd.ntmps30
   go_wp2
   go_loopw [22] (fun v22 wr => ∃ i : Nat, i ≤ s.size ∧ v22 = .int .i64 (i : Int) ∧ Hid (allTo p s i = true) ∧ Hid (Drawn0 w wr)) (fun v22 _ => s.size - (intOf v22).toNat)
   case atStart => exact ⟨0, Nat.zero_le _, rfl, Lib.hid rfl, Lib.hid (Drawn0.refl _)⟩
   case round =>
    obtain ⟨i, hi', rfl, HA, HD⟩ := hrel
    by_cases hlt : i < s.size
    ·have hcall := hp wr (bt s (i : Int))
     have hbt : bt s (i : Int) = ((s[i]'hlt).toNat : Int) := bt_nat s i hlt
     cases hq : p (bt s (i : Int)) with
     | true =>
      rw [hq, hbt] at hcall
      have HS : Hid (allTo p s (i + 1) = true) := Lib.hid (by rw [allTo_succ, HA.out, hq]; rfl)
      clear hq hbt
      go_wp2_with (go_at_fn g; refine hcall.mono ?_; rintro e w' ⟨rfl, hd⟩)
      go_roundw
      case rel => exact ⟨i + 1, by omega, by go_num, HS, Lib.hid (dr_trans HD.out hd)⟩
      case measure => simp [intOf]; omega
     | false =>
      rw [hq, hbt] at hcall
      have HS : Hid (allTo p s s.size = false) := Lib.hid (allTo_false hlt hq)
      clear hq hbt
      go_wp2_with (go_at_fn g; refine hcall.mono ?_; rintro e w' ⟨rfl, hd⟩)
      go_ret
      exact ⟨by rw [hm.out, HS.out]; rfl, dr_trans HD.out hd⟩
    ·obtain rfl : i = s.size := by omega
     go_wp2
     go_ret
     exact ⟨by rw [hm.out, HA.out]; rfl, HD.out⟩
def capB (c : Int) : Bool := decide (c ≥ 65) && decide (c ≤ 90)
def plnB (c : Int) : Bool := (decide (c ≥ 97) && decide (c ≤ 122)) || (decide (c ≥ 48) && decide (c ≤ 57))
def hdrB (c : Int) : Bool := plnB c || (c == 45)
def prtB (c : Int) : Bool := decide (c ≥ 32) && decide (c ≤ 126)
theorem cap_pred : Pred8 31 capB := fun W c => (impl_isCapital.calls c (capB c) W (by
 unfold impl_isCapital.f capB
 by_cases h : c ≥ 65
 ·rw [if_pos h, decide_eq_true h]; rfl
 ·rw [if_neg h, decide_eq_false h]; rfl))
theorem pln_val (c : Int) : impl_isPlainLetter.f c = some (plnB c) := by
 unfold impl_isPlainLetter.f plnB
 by_cases h : c ≥ 97
 ·rw [if_pos h, decide_eq_true h]
  by_cases h2 : c ≤ 122
  ·rw [if_pos h2, decide_eq_true h2]; rfl
  ·rw [if_neg h2, decide_eq_false h2]
   by_cases h3 : c ≥ 48
   ·rw [if_pos h3, decide_eq_true h3]; simp
   ·rw [if_neg h3, decide_eq_false h3]; rfl
 ·rw [if_neg h, decide_eq_false h]
  by_cases h3 : c ≥ 48
  ·rw [if_pos h3, decide_eq_true h3]; simp
  ·rw [if_neg h3, decide_eq_false h3]; rfl
theorem hdr_pred : Pred8 33 hdrB := fun W c => (impl_isHeaderLetter.calls c (hdrB c) W (by
 unfold impl_isHeaderLetter.f hdrB
 rw [pln_val, Option.bind_some]
 cases plnB c <;> simp))
theorem prt_pred : Pred8 45 prtB := fun W c => (impl_isPrinted.calls c (prtB c) W (by
 unfold impl_isPrinted.f prtB
 by_cases h : c ≥ 32
 ·rw [if_pos h, decide_eq_true h]; rfl
 ·rw [if_neg h, decide_eq_false h]; rfl))
theorem isMethod_any (s : ByteArray) (hs : s.size ≤ maxLen) (w : World) : Calls Tryd.prog 18 #[.string s] w fun e w' => e = .returned (.bool (madeB capB 1 10 s)) ∧ Drawn0 w w' := by
 go_enter Tryd.func18, Tryd.ntmps18
 go_wp2_with fail
 refine (made_any 31 capB cap_pred (enters_of Tryd.func31 (by kernel_rfl) rfl) 1 10 s hs _).mono ?_
 rintro e w' ⟨rfl, hd⟩
 go_wp2
 go_ret
 exact ⟨rfl, hd⟩

/-! ### strings.Trim at one space -/
theorem right_ex (c : Int) : ∀ (n : Nat) (s : ByteArray), s.size = n → s.size ≤ maxLen → ∃ r, strings_trimRightByte.f (n + 1) s c = some r ∧ r.size ≤ s.size ∧ (0 < s.size → bt s ((s.size - 1 : Nat) : Int) = c → r.size < s.size) ∧ (s.size = 0 ∨ bt s ((s.size - 1 : Nat) : Int) ≠ c → r = s)
 | 0, s, hn, hm => ⟨s, by unfold strings_trimRightByte.f; rw [strings_trimRightByte.l0, if_neg (by omega)], Nat.le_refl _, fun h => by omega, fun _ => rfl⟩
 | n + 1, s, hn, hm => by
  unfold maxLen at hm
  have e1 : wrap64 ((s.size : Int) - 1) = ((s.size - 1 : Nat) : Int) := by
   rw [← i64_w, IntWalk.i64_in _ (by omega)]; omega
  by_cases h : bt s ((s.size - 1 : Nat) : Int) = c
  ·obtain ⟨r, hr, h1, _, _⟩ := right_ex c n (s.extract 0 (s.size - 1)) (by rw [ByteArray.size_extract]; omega) (by rw [ByteArray.size_extract]; unfold maxLen; omega)
   rw [ByteArray.size_extract] at h1
   refine ⟨r, ?_, by omega, fun _ _ => by omega, fun h' => by rcases h' with h' | h'; omega; exact absurd h h'⟩
   unfold strings_trimRightByte.f
   rw [strings_trimRightByte.l0, e1, if_pos (by omega), if_pos (by omega), if_pos (by omega), if_pos h, if_pos (by omega), Int.toNat_natCast]
   exact hr
  ·refine ⟨s, ?_, Nat.le_refl _, fun _ h' => absurd h' h, fun _ => rfl⟩
   unfold strings_trimRightByte.f
   rw [strings_trimRightByte.l0, e1, if_pos (by omega), if_pos (by omega), if_pos (by omega), if_neg h]
theorem left_ex (c : Int) : ∀ (n : Nat) (s : ByteArray), s.size = n → ∃ r, strings_trimLeftByte.f (n + 1) s c = some r ∧ r.size ≤ s.size ∧ (0 < s.size → bt s 0 = c → r.size < s.size) ∧ (s.size = 0 ∨ bt s 0 ≠ c → r = s)
 | 0, s, hn => ⟨s, by unfold strings_trimLeftByte.f; rw [strings_trimLeftByte.l0, if_neg (by omega)], Nat.le_refl _, fun h => by omega, fun _ => rfl⟩
 | n + 1, s, hn => by
  by_cases h : bt s 0 = c
  ·obtain ⟨r, hr, h1, _, _⟩ := left_ex c n (s.extract 1 s.size) (by rw [ByteArray.size_extract]; omega)
   rw [ByteArray.size_extract] at h1
   refine ⟨r, ?_, by omega, fun _ _ => by omega, fun h' => by rcases h' with h' | h'; omega; exact absurd h h'⟩
   unfold strings_trimLeftByte.f
   rw [strings_trimLeftByte.l0, if_pos (by omega), if_pos (by omega), if_pos h, if_pos (by omega)]
   exact hr
  ·refine ⟨s, ?_, Nat.le_refl _, fun _ h' => absurd h' h, fun _ => rfl⟩
   unfold strings_trimLeftByte.f
   rw [strings_trimLeftByte.l0, if_pos (by omega), if_pos (by omega), if_neg h]
/-- No space at either end. -/
def edgeB (s : ByteArray) : Bool := decide (s.size = 0) || (bt s 0 != 32 && bt s ((s.size - 1 : Nat) : Int) != 32)
theorem toList_inj {a b : ByteArray} (h : a.toList = b.toList) : a = b := by
 apply ByteArray.ext
 apply Array.ext'
 rw [ByteArray.toList_eq, ByteArray.toList_eq] at h
 exact h
theorem quietD {P : Program} {f : FuncId} {args : Array Value} {w : World} {n : Nat} {v : Value} (h : Calls P f args (w.drewN n) fun e w' => e = .returned v ∧ Drawn0 (w.drewN n) w') : Calls P f args (w.drewN n) fun e w'' => e = .returned v ∧ ∃ m, w'' = w.drewN m :=
 Calls.quiet_of (h.mono fun _ _ ⟨he, hd⟩ => ⟨he, hd.out⟩)
theorem beq_size {a b : ByteArray} (h : a.size < b.size) : (a.toList == b.toList) = false := by
 rw [beq_eq_false_iff_ne]
 intro e
 rw [toList_inj e] at h
 omega
set_option maxRecDepth 100000 in
set_option maxHeartbeats 1000000 in
theorem trim_any (s : ByteArray) (hs : s.size ≤ maxLen) (w : World) : ∃ r : ByteArray, (r.toList == s.toList) = edgeB s ∧ Calls Tryd.prog 46 #[.string s, .string ⟨#[32]⟩] w fun e w' => e = .returned (.string r) ∧ Drawn0 w w' := by
 by_cases h0 : s.size = 0
 ·refine ⟨s, by unfold edgeB; rw [decide_eq_true h0]; simp, ?_⟩
  have hl : s.toList = [] := by rw [ByteArray.toList_eq]; exact List.eq_nil_of_length_eq_zero (by rw [Array.length_toList]; exact h0)
  have hl2 : s.toList.isEmpty = true := by rw [hl]; rfl
  clear h0
  go_enter Tryd.func46, Tryd.ntmps46
  go_wp2
  go_ret
  exact ⟨rfl, Drawn0.refl _⟩
 ·obtain ⟨r1, hr1, z1, a1, b1⟩ := right_ex 32 s.size s rfl hs
  obtain ⟨r, hr, z2, a2, b2⟩ := left_ex 32 r1.size r1 rfl
  refine ⟨r, ?_, ?_⟩
  ·by_cases e1 : bt s ((s.size - 1 : Nat) : Int) = 32
   ·have := a1 (by omega) e1
    rw [beq_size (by omega)]
    unfold edgeB
    rw [decide_eq_false h0, e1]; simp
   ·obtain rfl := b1 (.inr e1)
    by_cases e2 : bt r1 0 = 32
    ·have := a2 (by omega) e2
     rw [beq_size (by omega)]
     unfold edgeB
     rw [decide_eq_false h0, e2]; simp
    ·obtain rfl := b2 (.inr e2)
     unfold edgeB
     rw [decide_eq_false h0]; simp [e1, e2]
  ·have hl : s.toList.isEmpty = false := by
    rw [ByteArray.toList_eq]
    cases h : s.data.toList with
    | nil => exact absurd (by have := congrArg List.length h; rw [Array.length_toList] at this; exact this) h0
    | cons a b => rfl
   have hl2 : (!s.toList.isEmpty) = true := by rw [hl]; rfl
   have H1 := Lib.hid hr1
   have H2 := Lib.hid hr
   clear hr1 hr z1 z2 a1 a2 b1 b2 h0
   go_enter Tryd.func46, Tryd.ntmps46
   go_wp2
   go_quiet ((first | (go_at_call 53; exact quietD (strings_trimRightByte.calls (s.size + 1) s 32 r1 _ H1.out)) | (go_at_call 52; exact quietD (strings_trimLeftByte.calls (r1.size + 1) r1 32 r _ H2.out))))
   go_wp2
   go_ret
   exact ⟨rfl, by repeat (first | exact Drawn0.refl _ | apply Drawn0.step)⟩
/-- A header's value. -/
def valB (s : ByteArray) : Bool := madeB prtB 0 1000 s && edgeB s
set_option maxRecDepth 100000 in
theorem headerValue_any (s : ByteArray) (hs : s.size ≤ maxLen) (w : World) : Calls Tryd.prog 34 #[.string s] w fun e w' => e = .returned (.bool (valB s)) ∧ Drawn0 w w' := by
 have hm := made_any 45 prtB prt_pred (enters_of Tryd.func45 (by kernel_rfl) rfl) 0 1000 s hs
 obtain ⟨r, hr, _⟩ := trim_any s hs w
 have HT : Hid (∀ w, ∃ r : ByteArray, (r.toList == s.toList) = edgeB s ∧ Calls Tryd.prog 46 #[.string s, .string ⟨#[32]⟩] w fun e w' => e = .returned (.string r) ∧ Drawn0 w w') := Lib.hid (trim_any s hs)
 clear hr
 cases h : madeB prtB 0 1000 s with
 | false =>
  have HV : Hid (valB s = false) := Lib.hid (by unfold valB; rw [h]; rfl)
  rw [h] at hm
  clear h
  go_enter Tryd.func34, Tryd.ntmps34
  go_wp2_with fail
  refine (hm _).mono ?_
  rintro e w' ⟨rfl, hd⟩
  go_wp2
  go_ret
  exact ⟨by rw [HV.out]; rfl, hd⟩
 | true =>
  have HV : Hid (valB s = edgeB s) := Lib.hid (by unfold valB; rw [h]; rfl)
  rw [h] at hm
  clear h
  go_enter Tryd.func34, Tryd.ntmps34
  go_wp2_with fail
  refine (hm _).mono ?_
  rintro e w' ⟨rfl, hd⟩
  go_wp2_with fail
  obtain ⟨r, hr, hc⟩ := HT.out w'
  have HR := Lib.hid hr
  clear hr
  refine hc.mono ?_
  rintro e w2 ⟨rfl, hd2⟩
  go_wp2
  go_ret
  exact ⟨by rw [HV.out, ← HR.out]; rfl, dr_trans hd hd2⟩
end Go.Proofs.YthcijamlaeeonaaDoor.QA
