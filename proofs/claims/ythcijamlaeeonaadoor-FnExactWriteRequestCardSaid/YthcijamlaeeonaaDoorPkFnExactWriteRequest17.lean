/- escaped: its contract in the printer's form. Contracts of the program's functions, written by standin.py, a program of the session's own, over the kit's printer; Lean checks them. Conditions: those that each theorem states. -/
import Derived.Test.YthcijamlaeeonaaDoorPkFnExactWriteRequest16
import Derived.Test.YthcijamlaeeonaaDoorPkFnExactWriteRequest1
namespace Go.Proofs.YthcijamlaeeonaaDoor.QA
open Go.RowKit Go.Proofs.YthcijamlaeeonaaDoorW.PrintWords Go.Proofs.YthcijamlaeeonaaDoorW.PrintLast Go.Proofs.YthcijamlaeeonaaDoorW.PrintMore
attribute [local go_sem] max2_int min2_int max_two min_two max_three min_three max_four min_four
set_option linter.unusedVariables false
set_option linter.unusedSimpArgs false
/-! ### impl_escaped: function 25 -/
def impl_escaped.l0 : Nat → ByteArray → List Int → Int → Int → Option (ByteArray)
 | 0, _, _, _, _ => none
 | k + 1, x0, x6, x30, x31 => if x31 < x30 then (if 0 ≤ x31 then (if x31 < (x0.size : Int) then ((impl_safe.f (bt x0 x31)).bind fun t104 => (if t104 = true then (if x6.length < 140737488355328 then (impl_escaped.l0 k x0 (x6 ++ [bt x0 x31]) x30 (wrap64 (x31 + 1))) else (none)) else (if 0 ≤ ((bt x0 x31) / 16) then (if ((bt x0 x31) / 16) < 16 then (if 0 ≤ (Go.bits .and .u8 (bt x0 x31) 15) then (if (Go.bits .and .u8 (bt x0 x31) 15) < 16 then ((some (([37, bt (⟨#[48, 49, 50, 51, 52, 53, 54, 55, 56, 57, 65, 66, 67, 68, 69, 70]⟩ : ByteArray) ((bt x0 x31) / 16), bt (⟨#[48, 49, 50, 51, 52, 53, 54, 55, 56, 57, 65, 66, 67, 68, 69, 70]⟩ : ByteArray) (Go.bits .and .u8 (bt x0 x31) 15)] : List Int) : List Int)).bind fun y108 => (if x6.length + y108.length < 140737488355328 then (impl_escaped.l0 k x0 (x6 ++ y108) x30 (wrap64 (x31 + 1))) else (none))) else (none)) else (none)) else (none)) else (none)))) else (none)) else (none)) else (some (strOfNums x6))
def impl_escaped.g (k : Nat) (a0 : ByteArray) : Option (ByteArray) := impl_escaped.l0 k a0 (([] : List Int)) (a0.size : Int) 0
theorem impl_escaped.mono_l : ∀ k, (∀ y0 y1 y2 y3, LeO (impl_escaped.l0 k y0 y1 y2 y3) (impl_escaped.l0 (k + 1) y0 y1 y2 y3))
 | 0 => fun _ _ _ _ r h => by simp [impl_escaped.l0] at h
 | k + 1 => by
  have ih0 := impl_escaped.mono_l k
  ·intro y0 y1 y2 y3
   unfold impl_escaped.l0
   repeat' first
   | (with_reducible exact ih0 _ _ _ _)
   | (with_reducible exact LeO.refl _)
   | (with_reducible exact LeO.none _)
   | (with_reducible refine LeO.ite ?_ ?_)
   | (with_reducible refine LeO.bind ?_ (fun _ => ?_))
   | exact ih0 _ _ _ _
   | exact LeO.none _
   | refine LeO.ite ?_ ?_
   | refine LeO.bind ?_ (fun _ => ?_)
theorem impl_escaped.mono_g : ∀ a0 k, LeO (impl_escaped.g k a0) (impl_escaped.g (k + 1) a0) := by
 intro a0 k
 have ih0 := impl_escaped.mono_l k
 unfold impl_escaped.g
 repeat' first
   | (with_reducible exact ih0 _ _ _ _)
   | (with_reducible exact LeO.refl _)
   | (with_reducible exact LeO.none _)
   | (with_reducible refine LeO.ite ?_ ?_)
   | (with_reducible refine LeO.bind ?_ (fun _ => ?_))
   | exact ih0 _ _ _ _
   | exact LeO.none _
   | refine LeO.ite ?_ ?_
   | refine LeO.bind ?_ (fun _ => ?_)
def impl_escaped.T15 : Bool × List (List Nat × List Nat) := (true, [([], []), ([], []), ([1], [1]), ([2], [2]), ([], []), ([4], [4]), ([5], [5]), ([3, 6], [3, 6]), ([0, 7], [0, 7]), ([8, 8, 0, 1, 2, 3, 4, 5, 6, 7, 8], [0, 8])])
def impl_escaped.B15 : List Nat := [0, 0, 2, 6, 0, 16, 48, 126, 255, 511]
theorem impl_escaped.tab15 : rtab .any (opsOf Tryd.f25 15) = impl_escaped.T15 := by kernel_rfl
theorem impl_escaped.bits15 : waitsOk impl_escaped.T15.2 impl_escaped.B15 = true := by kernel_rfl
set_option maxHeartbeats 8000000 in
set_option maxRecDepth 100000 in
theorem escaped_odd (k : Nat) (a0 : ByteArray) (r : ByteArray) (w : World) (hs : a0.size ≤ maxLen) (hbad : allTo safeB a0 a0.size = false) (h : impl_escaped.g k a0 = some r) :
  Calls Tryd.prog 25 #[.string a0] w fun e w' => e = .returned (.string r) ∧ Below w.heap.size w w' := by
 have HBAD := Lib.hid hbad
 clear hbad
 unfold maxLen at hs
 have H : (impl_escaped.l0 k a0 (([] : List Int)) (a0.size : Int) 0) = some r := h
 clear h
 obtain ⟨y101, hy101⟩ : ∃ y_ : List Int, y_ = (([] : List Int)) := ⟨_, rfl⟩
 replace H : (impl_escaped.l0 k a0 y101 (a0.size : Int) 0) = some r := by first | (rw [hy101]; with_reducible exact H) | (have H2_ := (Option.bind_some _ _).symm.trans H; rw [hy101]; with_reducible exact H2_) | (have H2_ := (Option.bind_some _ _).symm.trans H; with_reducible exact H2_) | with_reducible exact H | (rw [hy101]; exact H) | exact H
 have Ny101 := Aside0.mk hy101
 clear hy101
 have H' := Aside0.mk H
 clear H
 go_enter Tryd.func25, Tryd.ntmps25
 go_wp2
 go_loopw [3] (fun v3 wr => EscR a0 w v3 wr) (fun _ wr => a0.size - posOf wr w.heap.size)
 case atStart => exact ⟨0, false, rfl, Lib.hid (World.iter_heap w a0 0), Lib.hid ((Below.refl _ _).alloc (Nat.le_refl _) _), Lib.hid ⟨Nat.zero_le _, rfl⟩⟩
 case round =>
  obtain ⟨pos, odd, rfl, HI, HB0, HO⟩ := hrel
  have HM : Hid (posOf wr w.heap.size = pos) := Lib.hid (by unfold posOf; rw [HI.out])
  by_cases hlt : pos < a0.size
  ·have hbt := bt_nat a0 pos hlt
   by_cases ha : (a0[pos]'hlt).toNat < 128
   ·have hnx := fun ty => Lib.run_next_ascii_at (P := Tryd.prog) wr w.heap.size a0 pos ty HI.out hlt ha
    have HI2 := Lib.hid (Lib.iterAt_heap wr w.heap.size a0 pos (pos + 1) HI.out)
    have HB2 := Lib.hid (Lib.below_iterAt HB0.out (Nat.le_refl _) a0 (pos + 1))
    have h127 : decide (127 < ((a0[pos]'hlt).toNat : Int)) = false := decide_eq_false (by omega)
    cases odd with
    | true =>
     clear hbt ha
     go_wp2
     go_roundw
     case rel => exact ⟨pos + 1, true, rfl, HI2, HB2, Lib.hid HBAD.out⟩
     case measure => rw [posOf_iter HI2.out, HM.out]; omega
    | false =>
     have hO := HO.out
     unfold Odd at hO
     rw [if_neg (by decide)] at hO
     have hcall := safe_any (bt a0 (pos : Int))
     cases hq : safeB (bt a0 (pos : Int)) with
     | true =>
      rw [hq, hbt] at hcall
      have HN : Hid (Odd a0 (pos + 1) false) := Lib.hid (by unfold Odd; rw [if_neg (by decide)]; exact ⟨hlt, by rw [allTo_succ, hO.2, hq]; rfl⟩)
      clear hbt hO hq
      go_wp2_with fail
      refine (hcall _).mono ?_
      rintro e w' ⟨rfl, hd⟩
      obtain ⟨nq, rfl⟩ := hd.out
      go_wp2
      go_roundw
      case rel => exact ⟨pos + 1, false, rfl, Lib.hid HI2.out, Lib.hid (pw_below_drewN HB2.out nq), HN⟩
      case measure => rw [posOf_drewN, posOf_iter HI2.out, HM.out]; omega
     | false =>
      rw [hq, hbt] at hcall
      have HN : Hid (Odd a0 (pos + 1) true) := Lib.hid HBAD.out
      clear hbt hO hq
      go_wp2_with fail
      refine (hcall _).mono ?_
      rintro e w' ⟨rfl, hd⟩
      obtain ⟨nq, rfl⟩ := hd.out
      go_wp2
      go_roundw
      case rel => exact ⟨pos + 1, true, rfl, Lib.hid HI2.out, Lib.hid (pw_below_drewN HB2.out nq), HN⟩
      case measure => rw [posOf_drewN, posOf_iter HI2.out, HM.out]; omega
   ·have hnx := fun ty => Lib.run_next_any_at (P := Tryd.prog) wr w.heap.size a0 pos ty HI.out hlt
    obtain ⟨hr, hw⟩ := decode_high a0 pos hlt (by omega)
    have h127 : decide (127 < (((Utf8.decode a0 pos).1 : Nat) : Int)) = true := decide_eq_true (by omega)
    generalize Utf8.decode a0 pos = dd at hnx h127 hr hw
    have HI2 := Lib.hid (Lib.iterAt_heap wr w.heap.size a0 pos (pos + dd.2) HI.out)
    have HB2 := Lib.hid (Lib.below_iterAt HB0.out (Nat.le_refl _) a0 (pos + dd.2))
    clear hbt ha
    cases odd with
    | true =>
     go_wp2
     go_roundw
     case rel => exact ⟨pos + dd.2, true, rfl, HI2, HB2, Lib.hid HBAD.out⟩
     case measure => rw [posOf_iter HI2.out, HM.out]; omega
    | false =>
     go_wp2
     go_roundw
     case rel => exact ⟨pos + dd.2, true, rfl, HI2, HB2, Lib.hid HBAD.out⟩
     case measure => rw [posOf_iter HI2.out, HM.out]; omega
  ·have hodd : odd = true := by
    cases odd with
    | true => rfl
    | false =>
     have h := HO.out
     unfold Odd at h
     rw [if_neg (by decide)] at h
     obtain rfl : pos = a0.size := by omega
     rw [HBAD.out] at h
     exact absurd h.2 (by decide)
   subst hodd
   have hnx := fun ty => Lib.run_next_end_at (P := Tryd.prog) wr w.heap.size a0 pos ty HI.out hlt
   have HB := Aside0.mk HB0.out
   clear HB0 HM HI HO HBAD hlt
   go_wp2_with (first | ((with_reducible refine gate_dst (N := 28) rfl ?_); refine Kd.R_lit (Kd.int .u8) _ 5 ?hg (N := 28) ?hd (xs := ([] : List Int)) (inner := []) (ok := fun _ => True) (okp := fun _ => True) ?hr ?hp (fun _ hk => hk) trivial (Below.refl _ _) (Nat.le_refl _) (by simp) ?_; (case hd => rfl); (case hg => rfl); (case hr => first | (go_simp; done) | (go_simp; rfl)); (case hp => exact (Reps.none _ _)); intro v102 w2 ho3 hb hg_ hnew_; clear hg_ hnew_; (first | rw [← Ny101.out] at ho3 | (simp only [Int.reduceToNat] at ho3; rw [← Ny101.out] at ho3)); have n0_ := Aside0.mk (Kd.R_lower ho3 (below_size (by repeat (first | (with_reducible first | exact HB.out | apply below_alloc | apply pw_below_drewN | apply below_drew1) | exact HB.out)))); have n1_ := Aside0.mk (below_step (by repeat (first | (with_reducible first | exact HB.out | apply below_alloc | apply pw_below_drewN | apply below_drew1) | exact HB.out)) hb); clear HB; have HO103 := n0_; have HB := n1_; clear n0_ n1_; clear hb ho3))
   go_loopg [6, 31] k (fun kq v6 v31 w' => ∃ (x6_1 : List Int) (x31_1 : Int), v31 = .int .i64 x31_1 ∧ Aside0 (impl_escaped.l0 kq a0 x6_1 (a0.size : Int) x31_1 = some r) ∧ Aside0 (kq ≤ k) ∧ Aside0 (Kd.R (Kd.int .u8) 5 w' w.heap.size (fun _ => True) v6 x6_1) ∧ Aside0 (Below w.heap.size w w'))
   case atStart => exact ⟨(y101), (0), (by first | rfl | (simp; done) | (simp [*]; done)), H', ⟨Nat.le_refl _⟩, ⟨by (with_reducible repeat (first | apply Kd.R_alloc | apply Kd.R_drewN | apply Kd.R_drew)); exact HO103.out⟩, ⟨by repeat (first | (with_reducible first | exact HB.out | apply below_alloc | apply pw_below_drewN | apply below_drew1) | exact HB.out)⟩⟩
   case round =>
    clear H'
    try clear c2
    try clear p2
    obtain ⟨x6_1, x31_1, rfl, HA, HK1, HO_6, HB⟩ := hrel
    cases gk with
    | zero => exact absurd HA.out (by simp [impl_escaped.l0])
    | succ k1 =>
     have H := HA.out
     clear HA
     simp only [impl_escaped.l0] at H
     by_cases c4 : x31_1 < (a0.size : Int)
     ·rw [if_pos c4] at H
      have c4b0 : decide (x31_1 < (a0.size : Int)) = true := decide_eq_true c4
      clear c4
      by_cases c5 : 0 ≤ x31_1
      ·rw [if_pos c5] at H
       have c5b0 : decide (0 ≤ x31_1) = true := decide_eq_true c5
       clear c5
       by_cases c6 : x31_1 < (a0.size : Int)
       ·rw [if_pos c6] at H
        have c6b0 : decide (x31_1 < (a0.size : Int)) = true := decide_eq_true c6
        clear c6
        replace H := Option.bind_eq_some_iff.mp H
        obtain ⟨t104, A80, H⟩ := H
        replace H : (if t104 = true then (if x6_1.length < 140737488355328 then (impl_escaped.l0 k1 a0 (x6_1 ++ [bt a0 x31_1]) (a0.size : Int) (wrap64 (x31_1 + 1))) else (none)) else (if 0 ≤ ((bt a0 x31_1) / 16) then (if ((bt a0 x31_1) / 16) < 16 then (if 0 ≤ (Go.bits .and .u8 (bt a0 x31_1) 15) then (if (Go.bits .and .u8 (bt a0 x31_1) 15) < 16 then ((some (([37, bt (⟨#[48, 49, 50, 51, 52, 53, 54, 55, 56, 57, 65, 66, 67, 68, 69, 70]⟩ : ByteArray) ((bt a0 x31_1) / 16), bt (⟨#[48, 49, 50, 51, 52, 53, 54, 55, 56, 57, 65, 66, 67, 68, 69, 70]⟩ : ByteArray) (Go.bits .and .u8 (bt a0 x31_1) 15)] : List Int) : List Int)).bind fun y108 => (if x6_1.length + y108.length < 140737488355328 then (impl_escaped.l0 k1 a0 (x6_1 ++ y108) (a0.size : Int) (wrap64 (x31_1 + 1))) else (none))) else (none)) else (none)) else (none)) else (none))) = some r := H
        have A8 := Aside0.mk A80
        clear A80
        by_cases c9 : t104 = true
        ·subst c9
         have H1 : (if x6_1.length < 140737488355328 then (impl_escaped.l0 k1 a0 (x6_1 ++ [bt a0 x31_1]) (a0.size : Int) (wrap64 (x31_1 + 1))) else (none)) = some r := by rw [if_pos rfl] at H; exact H
         clear H
         have H := H1
         clear H1
         by_cases c10 : x6_1.length < 140737488355328
         ·rw [if_pos c10] at H
          have LMc10 := Aside0.mk c10
          clear c10
          obtain ⟨y105, hy105⟩ : ∃ y_ : List Int, y_ = (x6_1 ++ [bt a0 x31_1]) := ⟨_, rfl⟩
          replace H : (impl_escaped.l0 k1 a0 y105 (a0.size : Int) (wrap64 (x31_1 + 1))) = some r := by first | (rw [hy105]; with_reducible exact H) | (have H2_ := (Option.bind_some _ _).symm.trans H; rw [hy105]; with_reducible exact H2_) | (have H2_ := (Option.bind_some _ _).symm.trans H; with_reducible exact H2_) | with_reducible exact H | (rw [hy105]; exact H) | exact H
          have Ny105 := Aside0.mk hy105
          clear hy105
          have H' := Aside0.mk H
          clear H
          have p7 : 0 ≤ (x31_1 : Int) := of_decide_eq_true (by first | (with_reducible assumption) | assumption)
          have q7 : x31_1 < (a0.size : Int) := of_decide_eq_true (by first | (with_reducible assumption) | assumption)
          have hx7 := bt_at a0 x31_1
          replace p7 := eq_true p7
          replace q7 := eq_true q7
          go_wp2_with (first | ((with_reducible refine gate_callee (f := 39) rfl ?_); refine goesL_ (some 38) rfl rfl Tryd.func39 (by kernel_rfl) rfl #[.int .u8 (bt a0 x31_1)] rfl (by (try simp only [List.map_toArray, List.map_cons, List.map_nil]); first | done | rfl | (simp only [List.length_drop, List.length_take]; rfl)) ?_; (with_reducible refine (impl_safe.calls (bt a0 x31_1) true _ A8.out).mono ?_); rintro e w' ⟨rfl, ⟨nd, rfl⟩⟩; refine ⟨_, rfl, ?_⟩) | ((with_reducible refine gate_builtin (b := .append) (xs := #[.tmp 39, .tmp 41]) rfl ?_); at_builtin; refine Kd.R_append (Kd.int .u8) (w0 := w) w.heap.size rfl (.tmp 39) (.tmp 41) 56 5 (.int .u8 0) 1 rfl Tryd.underlying56 info5 rfl (by decide) (by omega) u6 x6_1 (bt a0 x31_1) [.int .u8 (bt a0 x31_1)] (fun _ => True) (fun _ => False) rfl rfl ?aP (fun _ hk => hk.elim) ?aF ?aO ?aB ?aS ?aL ?_; (case aP => exact rfl); (case aB => exact (by repeat (first | (with_reducible first | exact HB.out | apply below_alloc | apply pw_below_drewN | apply below_drew1) | exact HB.out))); (case aF => exact (fun _ _ => trivial)); (case aO => exact (by (with_reducible repeat (first | apply Kd.R_alloc | apply Kd.R_drewN | apply Kd.R_drew)); exact HO_6.out)); (case aS => exact (below_size (by repeat (first | (with_reducible first | exact HB.out | apply below_alloc | apply pw_below_drewN | apply below_drew1) | exact HB.out)))); (case aL => have := LMc10.out; omega); intro v106 w11 ho hb hg hat; rw [← Ny105.out] at ho; have n0_ := Aside0.mk (hb); have n1_ := Aside0.mk (ho); clear HB; clear HO_6; have HB := n0_; have HO107 := n1_; clear n0_ n1_; clear ho hb hg hat))
          go_roundg k1
          case measure => have := HK1.out; omega
          case rel => exact ⟨(y105), (wrap64 (x31_1 + 1)), (by first | rfl | (simp; done) | (simp [*]; done)), H', ⟨by have := HK1.out; omega⟩, ⟨by (with_reducible repeat (first | apply Kd.R_alloc | apply Kd.R_drewN | apply Kd.R_drew)); exact HO107.out⟩, ⟨by repeat (first | (with_reducible first | exact HB.out | apply below_alloc | apply pw_below_drewN | apply below_drew1) | exact HB.out)⟩⟩
         ·rw [if_neg c10] at H
          exact absurd H (by simp)
        ·replace c9 := Bool.eq_false_iff.mpr c9
         subst c9
         have H1 : (if 0 ≤ ((bt a0 x31_1) / 16) then (if ((bt a0 x31_1) / 16) < 16 then (if 0 ≤ (Go.bits .and .u8 (bt a0 x31_1) 15) then (if (Go.bits .and .u8 (bt a0 x31_1) 15) < 16 then ((some (([37, bt (⟨#[48, 49, 50, 51, 52, 53, 54, 55, 56, 57, 65, 66, 67, 68, 69, 70]⟩ : ByteArray) ((bt a0 x31_1) / 16), bt (⟨#[48, 49, 50, 51, 52, 53, 54, 55, 56, 57, 65, 66, 67, 68, 69, 70]⟩ : ByteArray) (Go.bits .and .u8 (bt a0 x31_1) 15)] : List Int) : List Int)).bind fun y108 => (if x6_1.length + y108.length < 140737488355328 then (impl_escaped.l0 k1 a0 (x6_1 ++ y108) (a0.size : Int) (wrap64 (x31_1 + 1))) else (none))) else (none)) else (none)) else (none)) else (none)) = some r := by rw [if_neg (show ¬ (false = true) by decide)] at H; exact H
         clear H
         have H := H1
         clear H1
         obtain ⟨ji12, hji12⟩ : ∃ j_ : Int, ((bt a0 x31_1) / 16) = j_ := ⟨_, rfl⟩
         replace H : (if 0 ≤ (ji12) then (if (ji12) < 16 then (if 0 ≤ (Go.bits .and .u8 (bt a0 x31_1) 15) then (if (Go.bits .and .u8 (bt a0 x31_1) 15) < 16 then ((some (([37, bt (⟨#[48, 49, 50, 51, 52, 53, 54, 55, 56, 57, 65, 66, 67, 68, 69, 70]⟩ : ByteArray) (ji12), bt (⟨#[48, 49, 50, 51, 52, 53, 54, 55, 56, 57, 65, 66, 67, 68, 69, 70]⟩ : ByteArray) (Go.bits .and .u8 (bt a0 x31_1) 15)] : List Int) : List Int)).bind fun y108 => (if x6_1.length + y108.length < 140737488355328 then (impl_escaped.l0 k1 a0 (x6_1 ++ y108) (a0.size : Int) (wrap64 (x31_1 + 1))) else (none))) else (none)) else (none)) else (none)) else (none)) = some r := by first | (rw [hji12] at H; exact H) | (simp only [hji12] at H ⊢; exact H)
         (try rw [hji12] at A8)
         by_cases c13 : 0 ≤ (ji12)
         ·rw [if_pos c13] at H
          have c13b0 : decide (0 ≤ (ji12)) = true := decide_eq_true c13
          clear c13
          by_cases c14 : (ji12) < 16
          ·rw [if_pos c14] at H
           have c14b0 : decide ((ji12) < 16) = true := decide_eq_true c14
           clear c14
           by_cases c16 : 0 ≤ (Go.bits .and .u8 (bt a0 x31_1) 15)
           ·rw [if_pos c16] at H
            have c16b0 : decide (0 ≤ (Go.bits .and .u8 (bt a0 x31_1) 15)) = true := decide_eq_true c16
            clear c16
            by_cases c17 : (Go.bits .and .u8 (bt a0 x31_1) 15) < 16
            ·rw [if_pos c17] at H
             have c17b0 : decide ((Go.bits .and .u8 (bt a0 x31_1) 15) < 16) = true := decide_eq_true c17
             clear c17
             obtain ⟨y108, hy108⟩ : ∃ y_ : List Int, y_ = (([37, bt (⟨#[48, 49, 50, 51, 52, 53, 54, 55, 56, 57, 65, 66, 67, 68, 69, 70]⟩ : ByteArray) (ji12), bt (⟨#[48, 49, 50, 51, 52, 53, 54, 55, 56, 57, 65, 66, 67, 68, 69, 70]⟩ : ByteArray) (Go.bits .and .u8 (bt a0 x31_1) 15)] : List Int)) := ⟨_, rfl⟩
             replace H : (if x6_1.length + y108.length < 140737488355328 then (impl_escaped.l0 k1 a0 (x6_1 ++ y108) (a0.size : Int) (wrap64 (x31_1 + 1))) else (none)) = some r := by first | (rw [hy108]; with_reducible exact H) | (have H2_ := (Option.bind_some _ _).symm.trans H; rw [hy108]; with_reducible exact H2_) | (have H2_ := (Option.bind_some _ _).symm.trans H; with_reducible exact H2_) | with_reducible exact H | (rw [hy108]; exact H) | exact H
             have Ny108 := Aside0.mk hy108
             clear hy108
             by_cases c19 : x6_1.length + y108.length < 140737488355328
             ·rw [if_pos c19] at H
              have LMc19 := Aside0.mk c19
              clear c19
              obtain ⟨y111, hy111⟩ : ∃ y_ : List Int, y_ = (x6_1 ++ y108) := ⟨_, rfl⟩
              replace H : (impl_escaped.l0 k1 a0 y111 (a0.size : Int) (wrap64 (x31_1 + 1))) = some r := by first | (rw [hy111]; with_reducible exact H) | (have H2_ := (Option.bind_some _ _).symm.trans H; rw [hy111]; with_reducible exact H2_) | (have H2_ := (Option.bind_some _ _).symm.trans H; with_reducible exact H2_) | with_reducible exact H | (rw [hy111]; exact H) | exact H
              have Ny111 := Aside0.mk hy111
              clear hy111
              have H' := Aside0.mk H
              clear H
              have p7 : 0 ≤ (x31_1 : Int) := of_decide_eq_true (by first | (with_reducible assumption) | assumption)
              have q7 : x31_1 < (a0.size : Int) := of_decide_eq_true (by first | (with_reducible assumption) | assumption)
              have hx7 := bt_at a0 x31_1
              replace p7 := eq_true p7
              replace q7 := eq_true q7
              try go_wp2_with (first | ((with_reducible refine gate_callee (f := 39) rfl ?_); refine goesL_ (some 38) rfl rfl Tryd.func39 (by kernel_rfl) rfl #[.int .u8 (bt a0 x31_1)] rfl (by (try simp only [List.map_toArray, List.map_cons, List.map_nil]); first | done | rfl | (simp only [List.length_drop, List.length_take]; rfl)) ?_; (with_reducible refine (impl_safe.calls (bt a0 x31_1) false _ A8.out).mono ?_); rintro e w' ⟨rfl, ⟨nd, rfl⟩⟩; refine ⟨_, rfl, ?_⟩))
              (try (rw [drewN_self wr]; generalize hq_ : World.drewN wr _ = wr; have n0_ : Aside0 (Kd.R (Kd.int .u8) 5 wr w.heap.size (fun _ => True) u6 x6_1) := ⟨by rw [← hq_]; exact (by (with_reducible repeat (first | apply Kd.R_alloc | apply Kd.R_drewN | apply Kd.R_drew)); exact HO_6.out)⟩; have n1_ : Aside0 (Below w.heap.size w wr) := ⟨by rw [← hq_]; exact (by repeat (first | (with_reducible first | exact HB.out | apply below_alloc | apply pw_below_drewN | apply below_drew1) | exact HB.out))⟩; clear HO_6 HB hq_; have HO_6 := n0_; have HB := n1_; clear n0_ n1_))
              have n0_ := Aside0.mk (Kd.R_drew HO_6.out)
              have n1_ := Aside0.mk (below_drew1 HB.out)
              clear HO_6
              clear HB
              have HO_6 := n0_
              have HB := n1_
              clear n0_ n1_
              have p15 : 0 ≤ ((ji12) : Int) := of_decide_eq_true (by first | (with_reducible assumption) | assumption)
              have q15 : (ji12) < (16 : Int) := of_decide_eq_true (by first | (with_reducible assumption) | assumption)
              have hx15 := bt_at (⟨#[48, 49, 50, 51, 52, 53, 54, 55, 56, 57, 65, 66, 67, 68, 69, 70]⟩ : ByteArray) (ji12)
              replace p15 := eq_true p15
              replace q15 := eq_true q15
              have p18 : 0 ≤ ((Go.bits .and .u8 (bt a0 x31_1) 15) : Int) := of_decide_eq_true (by first | (with_reducible assumption) | assumption)
              have q18 : (Go.bits .and .u8 (bt a0 x31_1) 15) < (16 : Int) := of_decide_eq_true (by first | (with_reducible assumption) | assumption)
              have hx18 := bt_at (⟨#[48, 49, 50, 51, 52, 53, 54, 55, 56, 57, 65, 66, 67, 68, 69, 70]⟩ : ByteArray) (Go.bits .and .u8 (bt a0 x31_1) 15)
              replace p18 := eq_true p18
              replace q18 := eq_true q18
              refine start_ (n := 10) (S := fun w' => True) (ds := []) #[false, false, false, false, false, false, false, false, false, false] (by kernel_rfl) rfl rfl trivial (fun hHeld => ?_); refine with_tabW impl_escaped.tab15 impl_escaped.bits15 (fun HT_ HW_ => ?_)
              generalize wr.drew = w20 at HO_6 HB hHeld ⊢
              refine pure_ (i := 0) (N := some 43) (v := ?_) (a' := ?_) #[true, false, false, false, false, false, false, false, false, false] rfl rfl (any_of HT_.out (by kernel_rfl)) (fun _ _ _ h => h) (Or.inl ⟨by rfl, ?_⟩) ?_ ?_
              rotate_left
              ·intro w'
               go_simp
               with_reducible rfl
              rotate_left
              ·simp only [Act.put, List.setIfInBounds_toArray, List.set_cons_zero, List.set_cons_succ, i64_w, i32_w]
               rfl
              refine pure_ (i := 1) (N := some 44) (v := ?_) (a' := ?_) #[true, true, false, false, false, false, false, false, false, false] rfl rfl (any_of HT_.out (by kernel_rfl)) (fun _ _ _ h => h) (Or.inl ⟨by rfl, ?_⟩) ?_ ?_
              rotate_left
              ·intro w'
               go_simp
               with_reducible rfl
              rotate_left
              ·simp only [Act.put, List.setIfInBounds_toArray, List.set_cons_zero, List.set_cons_succ, i64_w, i32_w]
               rfl
              refine pure_ (i := 2) (N := some 45) (v := ?_) (a' := ?_) #[true, true, true, false, false, false, false, false, false, false] rfl rfl (any_of HT_.out (by kernel_rfl)) (fun _ _ _ h => h) (Or.inl ⟨by rfl, ?_⟩) ?_ ?_
              rotate_left
              ·intro w'
               go_simp
               with_reducible rfl
              rotate_left
              ·simp only [Act.put, List.setIfInBounds_toArray, List.set_cons_zero, List.set_cons_succ, i64_w, i32_w]
               rfl
              refine pure_ (i := 4) (N := some 47) (v := ?_) (a' := ?_) #[true, true, true, false, true, false, false, false, false, false] rfl rfl (any_of HT_.out (by kernel_rfl)) (fun _ _ _ h => h) (Or.inl ⟨by rfl, ?_⟩) ?_ ?_
              rotate_left
              ·intro w'
               go_simp
               with_reducible rfl
              rotate_left
              ·simp only [Act.put, List.setIfInBounds_toArray, List.set_cons_zero, List.set_cons_succ, i64_w, i32_w]
               rfl
              refine pure_ (i := 5) (N := some 48) (v := ?_) (a' := ?_) #[true, true, true, false, true, true, false, false, false, false] rfl rfl (any_of HT_.out (by kernel_rfl)) (fun _ _ _ h => h) (Or.inl ⟨by rfl, ?_⟩) ?_ ?_
              rotate_left
              ·intro w'
               go_simp
               with_reducible rfl
              rotate_left
              ·simp only [Act.put, List.setIfInBounds_toArray, List.set_cons_zero, List.set_cons_succ, i64_w, i32_w]
               rfl
              refine take_ (i := 3) (N := some 46) (v := ?_) (a' := ?_) #[true, true, true, true, true, true, false, false, false, false] rfl rfl (take_ofW HT_.out HW_.out (by kernel_rfl)) (fun _ _ _ h => h) (Or.inl ⟨by rfl, ?_⟩) hHeld ?_ ?_
              rotate_left
              ·intro w' _
               go_simp
               with_reducible rfl
              rotate_left
              ·simp only [Act.put, List.setIfInBounds_toArray, List.set_cons_zero, List.set_cons_succ, i64_w, i32_w]
               rfl
              refine take_ (i := 6) (N := some 49) (v := ?_) (a' := ?_) #[true, true, true, true, true, true, true, false, false, false] rfl rfl (take_ofW HT_.out HW_.out (by kernel_rfl)) (fun _ _ _ h => h) (Or.inl ⟨by rfl, ?_⟩) hHeld ?_ ?_
              rotate_left
              ·intro w' _
               go_simp
               with_reducible rfl
              rotate_left
              ·simp only [Act.put, List.setIfInBounds_toArray, List.set_cons_zero, List.set_cons_succ, i64_w, i32_w]
               rfl
              refine one_ (i := 7) (N := some 50) #[true, true, true, true, true, true, true, true, false, false] rfl rfl (one_of HT_.out (by kernel_rfl)) (by decide) (fun K hK => ?_)
              refine Kd.R_lit_step (Kd.int .u8) _ 5 ?hg (N := 50) ?hd (xs := ([37, bt (⟨#[48, 49, 50, 51, 52, 53, 54, 55, 56, 57, 65, 66, 67, 68, 69, 70]⟩ : ByteArray) (ji12), bt (⟨#[48, 49, 50, 51, 52, 53, 54, 55, 56, 57, 65, 66, 67, 68, 69, 70]⟩ : ByteArray) (Go.bits .and .u8 (bt a0 x31_1) 15)] : List Int)) (inner := [.int .u8 37, .int .u8 (bt (⟨#[48, 49, 50, 51, 52, 53, 54, 55, 56, 57, 65, 66, 67, 68, 69, 70]⟩ : ByteArray) (ji12)), .int .u8 (bt (⟨#[48, 49, 50, 51, 52, 53, 54, 55, 56, 57, 65, 66, 67, 68, 69, 70]⟩ : ByteArray) (Go.bits .and .u8 (bt a0 x31_1) 15))]) (ok := fun _ => True) (okp := fun _ => True) ?hr ?hp (fun _ hk => hk) trivial (Below.refl _ _) (Nat.le_refl _) (by simp) ?_; (case hd => rfl); (case hg => rfl); (case hr => first | (go_simp; done) | (go_simp; rfl)); (case hp => exact (Reps.one (show Kd.M (Kd.int .u8) _ _ _ 37 [.int .u8 37] from rfl) (Reps.one (show Kd.M (Kd.int .u8) _ _ _ (bt (⟨#[48, 49, 50, 51, 52, 53, 54, 55, 56, 57, 65, 66, 67, 68, 69, 70]⟩ : ByteArray) (ji12)) [.int .u8 (bt (⟨#[48, 49, 50, 51, 52, 53, 54, 55, 56, 57, 65, 66, 67, 68, 69, 70]⟩ : ByteArray) (ji12))] from rfl) (Reps.one (show Kd.M (Kd.int .u8) _ _ _ (bt (⟨#[48, 49, 50, 51, 52, 53, 54, 55, 56, 57, 65, 66, 67, 68, 69, 70]⟩ : ByteArray) (Go.bits .and .u8 (bt a0 x31_1) 15)) [.int .u8 (bt (⟨#[48, 49, 50, 51, 52, 53, 54, 55, 56, 57, 65, 66, 67, 68, 69, 70]⟩ : ByteArray) (Go.bits .and .u8 (bt a0 x31_1) 15))] from rfl) (Reps.none _ _)))))
              intro v109 w21 ho22 hb hg_ hnew_
              clear hg_ hnew_
              (first | rw [← Ny108.out] at ho22 | (simp only [Int.reduceToNat] at ho22; rw [← Ny108.out] at ho22))
              have n0_ := Aside0.mk (Kd.R_elder' (by (with_reducible repeat (first | apply Kd.R_alloc | apply Kd.R_drewN | apply Kd.R_drew)); exact HO_6.out) (Kd.R_base ho22) hb)
              have n1_ := Aside0.mk (Kd.R_lower (Kd.R_new' ho22 (Kd.R_lt (by (with_reducible repeat (first | apply Kd.R_alloc | apply Kd.R_drewN | apply Kd.R_drew)); exact HO_6.out))) (below_size (by repeat (first | (with_reducible first | exact HB.out | apply below_alloc | apply pw_below_drewN | apply below_drew1) | exact HB.out))))
              have n2_ := Aside0.mk (below_step (by repeat (first | (with_reducible first | exact HB.out | apply below_alloc | apply pw_below_drewN | apply below_drew1) | exact HB.out)) hb)
              clear HO_6
              clear HB
              have HO_6 := n0_
              have HO110 := n1_
              have HB := n2_
              clear n0_ n1_ n2_
              clear hb ho22
              obtain ⟨Ao24, co24, eo24⟩ := Kd.R_slice HO110.out
              (first | subst eo24 | (injection eo24 with f1_ f2_ f3_; have f4_ := f1_.symm; have f5_ := f3_.symm; clear f1_ f2_ f3_; subst f4_; subst f5_))
              refine hK.out _ _ trivial (fun hHeld => ?_)
              clear hK K
              refine norm_ (a' := ?_) ?_ ?_
              rotate_left
              ·show Act.put _ (some 50) _ = _
               simp only [Act.put, List.setIfInBounds_toArray, List.set_cons_zero, List.set_cons_succ, i64_w, i32_w]
               rfl
              refine one_ (i := 8) (N := some 51) #[true, true, true, true, true, true, true, true, true, false] rfl rfl (one_of HT_.out (by kernel_rfl)) (by decide) (fun K hK => ?_)
              refine Kd.R_append_rows_step (Kd.int .u8) (w0 := w) w.heap.size (by rfl) (.tmp 43) (.tmp 50) 56 5 (.int .u8 0) 1 rfl Tryd.underlying56 info5 rfl (by decide) (by omega) u6 x6_1 y108 _ _ _ (fun k_ => some k_ ≠ (.slice Ao24 y108.length co24 : Value).ownBlock) (fun _ => False) rfl rfl ?aO ?aR (fun _ _ h => h) (fun _ h => h.elim) ?aF ?aB ?aS ?aL ?_
              (case aR => repeat (first | exact (Kd.R_reads' HO110.out).2.2 | (with_reducible refine Kd.C_alloc ?_ _) | (with_reducible refine Kd.C_drewN ?_ _) | (with_reducible refine Kd.C_drew ?_)))
              (case aB => exact (by repeat (first | (with_reducible first | exact HB.out | apply below_alloc | apply pw_below_drewN | apply below_drew1) | exact HB.out)))
              (case aF => exact (fun k_ hk => Kd.fresh' (Kd.R_lt (by (with_reducible repeat (first | apply Kd.R_alloc | apply Kd.R_drewN | apply Kd.R_drew)); exact HO110.out)) k_ hk))
              (case aO => exact (by (with_reducible repeat (first | apply Kd.R_alloc | apply Kd.R_drewN | apply Kd.R_drew)); exact Kd.R_mono HO_6.out (fun _ hk => hk.2)))
              (case aS => exact (below_size (by repeat (first | (with_reducible first | exact HB.out | apply below_alloc | apply pw_below_drewN | apply below_drew1) | exact HB.out))))
              (case aL => have := LMc19.out; omega)
              intro v112 w23 ho hb hg hat
              rw [← Ny111.out] at ho
              have n0_ := Aside0.mk (Kd.R_after (ok := (fun _ => True)) (by (with_reducible repeat (first | apply Kd.R_alloc | apply Kd.R_drewN | apply Kd.R_drew)); exact HO110.out) hg hat)
              have n1_ := Aside0.mk (hb)
              have n2_ := Aside0.mk (ho)
              clear HO110
              clear HB
              clear HO_6
              have HO110 := n0_
              have HB := n1_
              have HO113 := n2_
              clear n0_ n1_ n2_
              clear ho hb hg hat
              refine hK.out _ _ trivial (fun hHeld => ?_)
              clear hK K
              refine norm_ (a' := ?_) ?_ ?_
              rotate_left
              ·show Act.put _ (some 51) _ = _
               simp only [Act.put, List.setIfInBounds_toArray, List.set_cons_zero, List.set_cons_succ, i64_w, i32_w]
               rfl
              refine pure_ (i := 9) (N := some 6) (v := ?_) (a' := ?_) #[true, true, true, true, true, true, true, true, true, true] rfl rfl (any_of HT_.out (by kernel_rfl)) (fun _ _ _ h => h) (Or.inl ⟨by rfl, ?_⟩) ?_ ?_
              rotate_left
              ·intro w'
               go_simp
               with_reducible rfl
              rotate_left
              ·simp only [Act.put, List.setIfInBounds_toArray, List.set_cons_zero, List.set_cons_succ, i64_w, i32_w]
               rfl
              refine done_ (done_of HT_.out (by kernel_rfl)) ?_
              try go_wp2
              go_roundg k1
              case measure => have := HK1.out; omega
              case rel => exact ⟨(y111), (wrap64 (x31_1 + 1)), (by first | rfl | (simp; done) | (simp [*]; done)), H', ⟨by have := HK1.out; omega⟩, ⟨by (with_reducible repeat (first | apply Kd.R_alloc | apply Kd.R_drewN | apply Kd.R_drew)); exact Kd.R_mono HO113.out (fun _ hk => trivial)⟩, ⟨by repeat (first | (with_reducible first | exact HB.out | apply below_alloc | apply pw_below_drewN | apply below_drew1) | exact HB.out)⟩⟩
             ·rw [if_neg c19] at H
              exact absurd H (by simp)
            ·rw [if_neg c17] at H
             exact absurd H (by simp)
           ·rw [if_neg c16] at H
            exact absurd H (by simp)
          ·rw [if_neg c14] at H
           exact absurd H (by simp)
         ·rw [if_neg c13] at H
          exact absurd H (by simp)
       ·rw [if_neg c6] at H
        exact absurd H (by simp)
      ·rw [if_neg c5] at H
       exact absurd H (by simp)
     ·rw [if_neg c4] at H
      have c4b0 : decide (x31_1 < (a0.size : Int)) = false := decide_eq_false c4
      clear c4
      obtain rfl := Option.some.inj H
      have hcv25 := own_string (P := Tryd.prog) Tryd.underlying56 Tryd.underlying5 Tryd.underlying9 (Kd.own_of_R HO_6.out)
      go_wp2
      go_ret
      exact ⟨by first | rfl | (simp [errW_none, errW_some] <;> rfl) | (simp [*, errW_none, errW_some] <;> rfl), by repeat (first | (with_reducible first | exact HB.out | apply below_alloc | apply pw_below_drewN | apply below_drew1) | exact HB.out)⟩
def impl_escaped.f (k : Nat) (a0 : ByteArray) : Option (ByteArray) := if a0.size ≤ 1000000000 then (if allTo safeB a0 a0.size = true then some a0 else impl_escaped.g k a0) else none
theorem impl_escaped.mono : ∀ a0 k, LeO (impl_escaped.f k a0) (impl_escaped.f (k + 1) a0) := fun a0 k => LeO.ite (LeO.ite (LeO.refl _) (impl_escaped.mono_g a0 k)) (LeO.refl _)
theorem impl_escaped.calls (k : Nat) (a0 : ByteArray) (r : ByteArray) (w : World) (h : impl_escaped.f k a0 = some r) :
  Calls Tryd.prog 25 #[.string a0] w fun e w' => e = .returned (.string r) ∧ Below w.heap.size w w' := by
 unfold impl_escaped.f at h
 by_cases h1 : a0.size ≤ 1000000000
 ·rw [if_pos h1] at h
  have hm : a0.size ≤ maxLen := by unfold maxLen; omega
  cases h2 : allTo safeB a0 a0.size with
  | true =>
   rw [h2, if_pos rfl] at h
   obtain rfl := Option.some.inj h
   exact escaped_same a0 hm h2 w
  | false =>
   rw [h2, if_neg (by decide)] at h
   exact escaped_odd k a0 r w hm h2 h
 ·rw [if_neg h1] at h; cases h

-- EXT impl_escaped 25

end Go.Proofs.YthcijamlaeeonaaDoor.QA
