/- Contracts of the program's functions, written by standin.py, a program of the session's own, over the kit's printer; Lean checks them. Conditions: those that each theorem states. -/
import Derived.Test.YtpdgopabnihpiaaDoorPkFnExactWritePolicy1
import Derived.Test.YtpdgopabnihpiaaDoorPkFnExactWritePolicy14
import Derived.Test.YtpdgopabnihpiaaDoorPkFnExactWritePolicy15
namespace Go.Proofs.YtpdgopabnihpiaaDoor.QA
open Go.RowKit Go.Proofs.YtpdgopabnihpiaaDoorW.PrintWords Go.Proofs.YtpdgopabnihpiaaDoorW.PrintLast Go.Proofs.YtpdgopabnihpiaaDoorW.PrintMore
attribute [local go_sem] max2_int min2_int max_two min_two max_three min_three max_four min_four
set_option linter.unusedVariables false
set_option linter.unusedSimpArgs false

/-! ### impl_WritePolicy: function 7 -/
mutual
def impl_WritePolicy.l0 : Nat → ByteArray → List (S37) → Int → Int → Option (ByteArray)
 | 0, _, _, _, _ => none
 | k + 1, x3, x11, x12, x13 => if x13 < x12 then (if 0 ≤ x13 then (if x13 < (x11.length : Int) then (if ((rd_T37 x11 x13).f0) = 1 then (if x3.size + 5 ≤ 9223372036854775807 then (impl_WritePolicy.j1 k (x3 ++ (⟨#[97, 108, 108, 111, 119]⟩ : ByteArray)) x11 x12 x13 ((rd_T37 x11 x13).f0) ((rd_T37 x11 x13).f1) ((rd_T37 x11 x13).f2) ((rd_T37 x11 x13).f3) ((rd_T37 x11 x13).f4)) else (none)) else (if x3.size + 4 ≤ 9223372036854775807 then (impl_WritePolicy.j1 k (x3 ++ (⟨#[100, 101, 110, 121]⟩ : ByteArray)) x11 x12 x13 ((rd_T37 x11 x13).f0) ((rd_T37 x11 x13).f1) ((rd_T37 x11 x13).f2) ((rd_T37 x11 x13).f3) ((rd_T37 x11 x13).f4)) else (none))) else (none)) else (none)) else (if (x3.size : Int) > 10000 then (some (⟨#[]⟩ : ByteArray)) else (some x3))
def impl_WritePolicy.j1 : Nat → ByteArray → List (S37) → Int → Int → Int → List ByteArray → List ByteArray → List ByteArray → List (S40) → Option (ByteArray)
 | 0, _, _, _, _, _, _, _, _, _ => none
 | k + 1, x3, x11, x12, x13, x230000, x230001, x230002, x230003, x230004 => (strings_Join.f x230001 (⟨#[44]⟩ : ByteArray)).bind fun t230 => (if 5 + t230.size ≤ 9223372036854775807 then (if ((⟨#[32, 119, 104, 111, 32]⟩ : ByteArray) ++ t230).size + 4 ≤ 9223372036854775807 then ((strings_Join.f x230002 (⟨#[44]⟩ : ByteArray)).bind fun t231 => (if (((⟨#[32, 119, 104, 111, 32]⟩ : ByteArray) ++ t230) ++ (⟨#[32, 100, 111, 32]⟩ : ByteArray)).size + t231.size ≤ 9223372036854775807 then (if ((((⟨#[32, 119, 104, 111, 32]⟩ : ByteArray) ++ t230) ++ (⟨#[32, 100, 111, 32]⟩ : ByteArray)) ++ t231).size + 4 ≤ 9223372036854775807 then ((strings_Join.f x230003 (⟨#[44]⟩ : ByteArray)).bind fun t232 => (if (((((⟨#[32, 119, 104, 111, 32]⟩ : ByteArray) ++ t230) ++ (⟨#[32, 100, 111, 32]⟩ : ByteArray)) ++ t231) ++ (⟨#[32, 111, 110, 32]⟩ : ByteArray)).size + t232.size ≤ 9223372036854775807 then (if x3.size + ((((((⟨#[32, 119, 104, 111, 32]⟩ : ByteArray) ++ t230) ++ (⟨#[32, 100, 111, 32]⟩ : ByteArray)) ++ t231) ++ (⟨#[32, 111, 110, 32]⟩ : ByteArray)) ++ t232).size ≤ 9223372036854775807 then (impl_WritePolicy.l1 k (x3 ++ ((((((⟨#[32, 119, 104, 111, 32]⟩ : ByteArray) ++ t230) ++ (⟨#[32, 100, 111, 32]⟩ : ByteArray)) ++ t231) ++ (⟨#[32, 111, 110, 32]⟩ : ByteArray)) ++ t232)) x11 x12 x13 x230004 (x230004.length : Int) 0) else (none)) else (none))) else (none)) else (none))) else (none)) else (none))
def impl_WritePolicy.l1 : Nat → ByteArray → List (S37) → Int → Int → List (S40) → Int → Int → Option (ByteArray)
 | 0, _, _, _, _, _, _, _ => none
 | k + 1, x3, x11, x12, x13, x41, x42, x43 => if x43 < x42 then (if 0 ≤ x43 then (if x43 < (x41.length : Int) then ((impl_writeCondition.f ((rd_T40 x41 x43).f0) ((rd_T40 x41 x43).f1) ((rd_T40 x41 x43).f2)).bind fun t235 => (if x3.size + t235.size ≤ 9223372036854775807 then (impl_WritePolicy.l1 k (x3 ++ t235) x11 x12 x13 x41 x42 (wrap64 (x43 + 1))) else (none))) else (none)) else (none)) else (if x3.size + 1 ≤ 9223372036854775807 then (impl_WritePolicy.l0 k (x3 ++ (⟨#[10]⟩ : ByteArray)) x11 x12 (wrap64 (x13 + 1))) else (none))
end
def impl_WritePolicy.f (k : Nat) (l0 : List (S37)) : Option (ByteArray) := (impl_PolicyFault.f k l0).bind fun t227 => (if t227 = 0 then (impl_WritePolicy.l0 k (⟨#[]⟩ : ByteArray) l0 (l0.length : Int) 0) else (some (⟨#[]⟩ : ByteArray)))
theorem impl_WritePolicy.mono_l : ∀ k, (∀ y0 y1 y2 y3, LeO (impl_WritePolicy.l0 k y0 y1 y2 y3) (impl_WritePolicy.l0 (k + 1) y0 y1 y2 y3)) ∧ (∀ y0 y1 y2 y3 y4 y5 y6 y7 y8, LeO (impl_WritePolicy.j1 k y0 y1 y2 y3 y4 y5 y6 y7 y8) (impl_WritePolicy.j1 (k + 1) y0 y1 y2 y3 y4 y5 y6 y7 y8)) ∧ (∀ y0 y1 y2 y3 y4 y5 y6, LeO (impl_WritePolicy.l1 k y0 y1 y2 y3 y4 y5 y6) (impl_WritePolicy.l1 (k + 1) y0 y1 y2 y3 y4 y5 y6))
 | 0 => ⟨fun _ _ _ _ r h => by simp [impl_WritePolicy.l0] at h, fun _ _ _ _ _ _ _ _ _ r h => by simp [impl_WritePolicy.j1] at h, fun _ _ _ _ _ _ _ r h => by simp [impl_WritePolicy.l1] at h⟩
 | k + 1 => by
  obtain ⟨ih0, ih1, ih2⟩ := impl_WritePolicy.mono_l k
  refine ⟨?_, ?_, ?_⟩
  ·intro y0 y1 y2 y3
   unfold impl_WritePolicy.l0
   repeat' first
   | (with_reducible exact ih0 _ _ _ _)
   | (with_reducible exact ih1 _ _ _ _ _ _ _ _ _)
   | (with_reducible exact ih2 _ _ _ _ _ _ _)
   | (with_reducible exact impl_PolicyFault.mono _ _)
   | (with_reducible exact LeO.refl _)
   | (with_reducible exact LeO.none _)
   | (with_reducible refine LeO.ite ?_ ?_)
   | (with_reducible refine LeO.bind ?_ (fun _ => ?_))
   | exact ih0 _ _ _ _
   | exact ih1 _ _ _ _ _ _ _ _ _
   | exact ih2 _ _ _ _ _ _ _
   | exact impl_PolicyFault.mono _ _
   | exact LeO.none _
   | refine LeO.ite ?_ ?_
   | refine LeO.bind ?_ (fun _ => ?_)
  ·intro y0 y1 y2 y3 y4 y5 y6 y7 y8
   unfold impl_WritePolicy.j1
   repeat' first
   | (with_reducible exact ih0 _ _ _ _)
   | (with_reducible exact ih1 _ _ _ _ _ _ _ _ _)
   | (with_reducible exact ih2 _ _ _ _ _ _ _)
   | (with_reducible exact impl_PolicyFault.mono _ _)
   | (with_reducible exact LeO.refl _)
   | (with_reducible exact LeO.none _)
   | (with_reducible refine LeO.ite ?_ ?_)
   | (with_reducible refine LeO.bind ?_ (fun _ => ?_))
   | exact ih0 _ _ _ _
   | exact ih1 _ _ _ _ _ _ _ _ _
   | exact ih2 _ _ _ _ _ _ _
   | exact impl_PolicyFault.mono _ _
   | exact LeO.none _
   | refine LeO.ite ?_ ?_
   | refine LeO.bind ?_ (fun _ => ?_)
  ·intro y0 y1 y2 y3 y4 y5 y6
   unfold impl_WritePolicy.l1
   repeat' first
   | (with_reducible exact ih0 _ _ _ _)
   | (with_reducible exact ih1 _ _ _ _ _ _ _ _ _)
   | (with_reducible exact ih2 _ _ _ _ _ _ _)
   | (with_reducible exact impl_PolicyFault.mono _ _)
   | (with_reducible exact LeO.refl _)
   | (with_reducible exact LeO.none _)
   | (with_reducible refine LeO.ite ?_ ?_)
   | (with_reducible refine LeO.bind ?_ (fun _ => ?_))
   | exact ih0 _ _ _ _
   | exact ih1 _ _ _ _ _ _ _ _ _
   | exact ih2 _ _ _ _ _ _ _
   | exact impl_PolicyFault.mono _ _
   | exact LeO.none _
   | refine LeO.ite ?_ ?_
   | refine LeO.bind ?_ (fun _ => ?_)
theorem impl_WritePolicy.mono : ∀ a0 k, LeO (impl_WritePolicy.f k a0) (impl_WritePolicy.f (k + 1) a0) := by
 intro a0 k
 obtain ⟨ih0, ih1, ih2⟩ := impl_WritePolicy.mono_l k
 unfold impl_WritePolicy.f
 repeat' first
   | (with_reducible exact ih0 _ _ _ _)
   | (with_reducible exact ih1 _ _ _ _ _ _ _ _ _)
   | (with_reducible exact ih2 _ _ _ _ _ _ _)
   | (with_reducible exact impl_PolicyFault.mono _ _)
   | (with_reducible exact LeO.refl _)
   | (with_reducible exact LeO.none _)
   | (with_reducible refine LeO.ite ?_ ?_)
   | (with_reducible refine LeO.bind ?_ (fun _ => ?_))
   | exact ih0 _ _ _ _
   | exact ih1 _ _ _ _ _ _ _ _ _
   | exact ih2 _ _ _ _ _ _ _
   | exact impl_PolicyFault.mono _ _
   | exact LeO.none _
   | refine LeO.ite ?_ ?_
   | refine LeO.bind ?_ (fun _ => ?_)
def impl_WritePolicy.T10 : Bool × List (List Nat × List Nat) := (true, [([], []), ([], []), ([1], [1]), ([2], [2]), ([3], [3]), ([4], [4]), ([], []), ([6], [6]), ([7, 3], [7]), ([5, 8], [5, 8]), ([9], [9]), ([], []), ([11], [11]), ([12, 8], [12]), ([10, 13], [10, 13]), ([0, 14], [0, 14]), ([15, 13, 0, 1, 2, 3, 4, 5, 6, 7, 8, 9, 10, 11, 12, 13, 14, 15], [0, 15])])
def impl_WritePolicy.B10 : List Nat := [0, 0, 2, 6, 14, 30, 0, 64, 206, 510, 1022, 0, 2048, 6606, 16382, 32767, 65535]
theorem impl_WritePolicy.tab10 : rtab .any (opsOf Tryd.f7 10) = impl_WritePolicy.T10 := by kernel_rfl
theorem impl_WritePolicy.bits10 : waitsOk impl_WritePolicy.T10.2 impl_WritePolicy.B10 = true := by kernel_rfl
set_option maxHeartbeats 8000000 in
set_option maxRecDepth 100000 in
theorem impl_WritePolicy.calls (k : Nat) (A0 : Option Addr) (c0 : Nat) (l0 : List (S37)) (r : ByteArray) (w : World) (hr0 : Kd.C k37 w A0 l0.length l0) (hc0 : l0.length ≤ c0) (hT : TabW w) (h : impl_WritePolicy.f k l0 = some r) :
  Calls Tryd.prog 7 #[.slice A0 l0.length c0] w fun e w' => e = .returned (.string r) ∧ Below w.heap.size w w' := by
 have HT := Aside0.mk hT
 clear hT
 have hu37 := Tryd.underlying37
 have hu40 := Tryd.underlying40
 have HR0 := Aside0.mk hr0
 have HC0 := Aside0.mk hc0
 clear hr0 hc0
 have HB := Aside0.mk (Below.refl w.heap.size w)
 have H : ((impl_PolicyFault.f k l0).bind fun t227 => (if t227 = 0 then (impl_WritePolicy.l0 k (⟨#[]⟩ : ByteArray) l0 (l0.length : Int) 0) else (some (⟨#[]⟩ : ByteArray)))) = some r := h
 clear h
 replace H := Option.bind_eq_some_iff.mp H
 obtain ⟨t227, A20, H⟩ := H
 replace H : (if t227 = 0 then (impl_WritePolicy.l0 k (⟨#[]⟩ : ByteArray) l0 (l0.length : Int) 0) else (some (⟨#[]⟩ : ByteArray))) = some r := H
 have A2 := Aside0.mk A20
 clear A20
 by_cases c3 : t227 = 0
 ·rw [if_pos c3] at H
  have c3b0 : (t227 == 0) = true := beq_iff_eq.mpr c3
  have c3b1 : (t227 != 0) = false := bne_eq_false_iff_eq.mpr c3
  clear c3
  have H' := Aside0.mk H
  clear H
  go_enter Tryd.func7, Tryd.ntmps7
  go_wp2_with (first | ((with_reducible refine gate_callee (f := 14) rfl ?_); refine goesL_ (some 9) rfl rfl Tryd.func14 (by kernel_rfl) rfl #[.slice A0 l0.length c0] rfl (by (try simp only [List.map_toArray, List.map_cons, List.map_nil]); first | done | rfl | (simp only [List.length_drop, List.length_take]; rfl)) ?_; (with_reducible refine (impl_PolicyFault.calls k _ _ l0 t227 _ ?side1 ?side2 A2.out).mono ?_); (case side1 => repeat (first | exact HR0.out | (with_reducible refine Kd.C_alloc ?_ _) | (with_reducible refine Kd.C_drewN ?_ _) | (with_reducible refine Kd.C_drew ?_))); (case side2 => exact HC0.out); rintro e w4 ⟨rfl, hb⟩; refine ⟨_, rfl, ?_⟩; have n0_ := Aside0.mk (below_step (by repeat (first | (with_reducible first | exact HB.out | apply below_alloc | apply pw_below_drewN | apply below_drew1) | exact HB.out)) hb); clear HB; have HB := n0_; clear n0_; (try clear hb); (try clear hb2); (try clear hk); (try clear hi)))
  go_loopg [3, 13] k (fun kq v3 v13 w' => ∃ (x3_1 : ByteArray) (x13_1 : Int), v3 = .string x3_1 ∧ v13 = .int .i64 x13_1 ∧ Aside0 (impl_WritePolicy.l0 kq x3_1 l0 (l0.length : Int) x13_1 = some r) ∧ Aside0 (kq ≤ k) ∧ Aside0 (Below w.heap.size w w'))
  case atStart => exact ⟨((⟨#[]⟩ : ByteArray)), (0), (by first | rfl | (simp; done) | (simp [*]; done)), (by first | rfl | (simp; done) | (simp [*]; done)), H', ⟨Nat.le_refl _⟩, ⟨by repeat (first | (with_reducible first | exact HB.out | apply below_alloc | apply pw_below_drewN | apply below_drew1) | exact HB.out)⟩⟩
  case round =>
   clear H'
   try clear c1
   try clear p2
   try clear c3
   try clear c3b0
   try clear c3b1
   obtain ⟨x3_1, x13_1, rfl, rfl, HA, HK1, HB⟩ := hrel
   cases gk with
   | zero => exact absurd HA.out (by simp [impl_WritePolicy.l0])
   | succ k1 =>
    have H := HA.out
    clear HA
    simp only [impl_WritePolicy.l0] at H
    by_cases c5 : x13_1 < (l0.length : Int)
    ·rw [if_pos c5] at H
     have c5b0 : decide (x13_1 < (l0.length : Int)) = true := decide_eq_true c5
     clear c5
     by_cases c6 : 0 ≤ x13_1
     ·rw [if_pos c6] at H
      have c6b0 : decide (0 ≤ x13_1) = true := decide_eq_true c6
      clear c6
      by_cases c7 : x13_1 < (l0.length : Int)
      ·rw [if_pos c7] at H
       have c7b0 : decide (x13_1 < (l0.length : Int)) = true := decide_eq_true c7
       clear c7
       have HC8 := Aside0.mk H
       clear H
       have p228 : 0 ≤ (x13_1 : Int) := of_decide_eq_true (by first | (with_reducible assumption) | assumption)
       have q228 : x13_1 < (l0.length : Int) := of_decide_eq_true (by first | (with_reducible assumption) | assumption)
       obtain ⟨ad228, A228_1, c228_1, A228_2, c228_2, A228_3, c228_3, A228_4, c228_4, e228, hx228_0, hx228_1, hx228_2, hx228_3, hx228_4, hl228_1, hi228_1, hl228_2, hi228_2, hl228_3, hi228_3, hl228_4, hi228_4⟩ := at_T37 HR0.out x13_1 p228 q228
       cases e228
       replace hx228_0 := (HB.out.cell (World.block_lt_of_cell? w _ hx228_0)).trans hx228_0
       replace hx228_1 := (HB.out.cell (World.block_lt_of_cell? w _ hx228_1)).trans hx228_1
       replace hx228_2 := (HB.out.cell (World.block_lt_of_cell? w _ hx228_2)).trans hx228_2
       replace hx228_3 := (HB.out.cell (World.block_lt_of_cell? w _ hx228_3)).trans hx228_3
       replace hx228_4 := (HB.out.cell (World.block_lt_of_cell? w _ hx228_4)).trans hx228_4
       have HR228_1 := Aside0.mk hi228_1
       have HC228_1 := Aside0.mk hl228_1
       clear hi228_1 hl228_1
       have HR228_2 := Aside0.mk hi228_2
       have HC228_2 := Aside0.mk hl228_2
       clear hi228_2 hl228_2
       have HR228_3 := Aside0.mk hi228_3
       have HC228_3 := Aside0.mk hl228_3
       clear hi228_3 hl228_3
       have HR228_4 := Aside0.mk hi228_4
       have HC228_4 := Aside0.mk hl228_4
       clear hi228_4 hl228_4
       replace p228 := eq_true p228
       replace q228 := eq_true q228
       go_upto_if 19 with (first | ((with_reducible refine gate_dst (N := 5) rfl ?_); refine box_event ?hg (N := 5) ?hd (cs := #[.int .i64 0, .slice none 0 0, .slice none 0 0, .slice none 0 0, .slice none 0 0]) (t := 37) ?hr ?_; (case hd => rfl); (case hg => rfl); (case hr => first | (go_simp; done) | (go_simp; rfl)); intro gb229 hg w9 hbox hb; have n0_ := Aside0.mk (below_step (by repeat (first | (with_reducible first | exact HB.out | apply below_alloc | apply pw_below_drewN | apply below_drew1) | exact HB.out)) hb); have n1_ := Aside0.mk (hbox); have n2_ := Aside0.mk ((by rw [hg]; exact (below_size (by repeat (first | (with_reducible first | exact HB.out | apply below_alloc | apply pw_below_drewN | apply below_drew1) | exact HB.out))) : w.heap.size ≤ gb229)); have n3_ := Aside0.mk ((by rw [hg]; exact (below_size (by repeat (first | (with_reducible first | exact HB.out | apply below_alloc | apply pw_below_drewN | apply below_drew1) | exact HB.out))) : w.heap.size ≤ gb229)); clear HB; have HB := n0_; have BK229 := n1_; have GW229 := n2_; have GE229 := n3_; clear n0_ n1_ n2_ n3_; clear hb hbox hg; have hcz10_0 : w9.cell? ⟨gb229, 0, none⟩ = some (.int .i64 0) := (blk_cell BK229.out 0).trans rfl; have hcz10_1 : w9.cell? ⟨gb229, 1, none⟩ = some (.slice none 0 0) := (blk_cell BK229.out 1).trans rfl; have hcz10_2 : w9.cell? ⟨gb229, 2, none⟩ = some (.slice none 0 0) := (blk_cell BK229.out 2).trans rfl; have hcz10_3 : w9.cell? ⟨gb229, 3, none⟩ = some (.slice none 0 0) := (blk_cell BK229.out 3).trans rfl; have hcz10_4 : w9.cell? ⟨gb229, 4, none⟩ = some (.slice none 0 0) := (blk_cell BK229.out 4).trans rfl; have hfz10_0 := blk_frozen BK229.out 0; have hfz10_1 := blk_frozen BK229.out 1; have hfz10_2 := blk_frozen BK229.out 2; have hfz10_3 := blk_frozen BK229.out 3; have hfz10_4 := blk_frozen BK229.out 4))
       (try simp only [Act.put, List.setIfInBounds_toArray, List.set_cons_zero, List.set_cons_succ])
       go_cut [3] (fun v3 wc => ∃ (kq : Nat) (x3_7 : ByteArray), v3 = .string x3_7 ∧ Aside0 (impl_WritePolicy.j1 kq x3_7 l0 (l0.length : Int) x13_1 ((rd_T37 l0 x13_1).f0) ((rd_T37 l0 x13_1).f1) ((rd_T37 l0 x13_1).f2) ((rd_T37 l0 x13_1).f3) ((rd_T37 l0 x13_1).f4) = some r) ∧ Aside0 (kq ≤ k1) ∧ Aside0 (wc.heap[gb229]? = some (.cells #[.int .i64 ((rd_T37 l0 x13_1).f0), (.slice A228_1 ((rd_T37 l0 x13_1).f1).length c228_1), (.slice A228_2 ((rd_T37 l0 x13_1).f2).length c228_2), (.slice A228_3 ((rd_T37 l0 x13_1).f3).length c228_3), (.slice A228_4 ((rd_T37 l0 x13_1).f4).length c228_4)] 37 (0, 0))) ∧ Aside0 (Below w.heap.size w wc))
       case first =>
        have H := HC8.out
        clear HC8
        by_cases c11 : ((rd_T37 l0 x13_1).f0) = 1
        ·rw [if_pos c11] at H
         have c11b0 : (((rd_T37 l0 x13_1).f0) == 1) = true := beq_iff_eq.mpr c11
         have c11b1 : (((rd_T37 l0 x13_1).f0) != 1) = false := bne_eq_false_iff_eq.mpr c11
         clear c11
         (first | rw [c11b0] | (simp only [i64_w, i32_w]; rw [c11b0]) | rw [c11b1] | skip)
         by_cases c12 : x3_1.size + 5 ≤ 9223372036854775807
         ·rw [if_pos c12] at H
          have c12b0 := eq_true c12
          have c12b1 : decide (x3_1.size + 5 ≤ 9223372036854775807) = true := decide_eq_true c12
          try have c12b2 : (9223372036854775807 < x3_1.size + 5) = False := eq_false (Nat.not_lt.2 c12)
          have H' := Aside0.mk H
          clear H
          go_wp2
          go_meet
          case rel => exact ⟨_, (x3_1 ++ (⟨#[97, 108, 108, 111, 119]⟩ : ByteArray)), (by first | rfl | (simp; done) | (simp [*]; done)), H', ⟨by have := HK1.out; first | omega | exact Nat.le_refl _⟩, ⟨by (with_reducible repeat (first | refine blk_drewN ?_ _ | refine blk_drew ?_ | refine blk_alloc ?_ _)); refine blk_put (cs := #[.int .i64 ((rd_T37 l0 x13_1).f0), .slice A228_1 ((rd_T37 l0 x13_1).f1).length c228_1, .slice A228_2 ((rd_T37 l0 x13_1).f2).length c228_2, .slice A228_3 ((rd_T37 l0 x13_1).f3).length c228_3, .slice none 0 0]) ?_ 4 _ rfl; (with_reducible repeat (first | refine blk_drewN ?_ _ | refine blk_drew ?_ | refine blk_alloc ?_ _)); refine blk_put (cs := #[.int .i64 ((rd_T37 l0 x13_1).f0), .slice A228_1 ((rd_T37 l0 x13_1).f1).length c228_1, .slice A228_2 ((rd_T37 l0 x13_1).f2).length c228_2, .slice none 0 0, .slice none 0 0]) ?_ 3 _ rfl; (with_reducible repeat (first | refine blk_drewN ?_ _ | refine blk_drew ?_ | refine blk_alloc ?_ _)); refine blk_put (cs := #[.int .i64 ((rd_T37 l0 x13_1).f0), .slice A228_1 ((rd_T37 l0 x13_1).f1).length c228_1, .slice none 0 0, .slice none 0 0, .slice none 0 0]) ?_ 2 _ rfl; (with_reducible repeat (first | refine blk_drewN ?_ _ | refine blk_drew ?_ | refine blk_alloc ?_ _)); refine blk_put (cs := #[.int .i64 ((rd_T37 l0 x13_1).f0), .slice none 0 0, .slice none 0 0, .slice none 0 0, .slice none 0 0]) ?_ 1 _ rfl; (with_reducible repeat (first | refine blk_drewN ?_ _ | refine blk_drew ?_ | refine blk_alloc ?_ _)); refine blk_put (cs := #[.int .i64 0, .slice none 0 0, .slice none 0 0, .slice none 0 0, .slice none 0 0]) ?_ 0 _ rfl; (with_reducible repeat (first | refine blk_drewN ?_ _ | refine blk_drew ?_ | refine blk_alloc ?_ _)); exact BK229.out⟩, ⟨by repeat (first | (with_reducible first | exact HB.out | apply below_alloc | apply pw_below_drewN | apply below_drew1 | refine below_set ?_ GE229.out) | exact HB.out)⟩⟩
         ·rw [if_neg c12] at H
          exact absurd H (by simp)
        ·rw [if_neg c11] at H
         have c11b0 : (((rd_T37 l0 x13_1).f0) == 1) = false := beq_eq_false_iff_ne.mpr c11
         have c11b1 : (((rd_T37 l0 x13_1).f0) != 1) = true := bne_iff_ne.mpr c11
         (first | rw [c11b0] | (simp only [i64_w, i32_w]; rw [c11b0]) | rw [c11b1] | skip)
         by_cases c13 : x3_1.size + 4 ≤ 9223372036854775807
         ·rw [if_pos c13] at H
          have c13b0 := eq_true c13
          have c13b1 : decide (x3_1.size + 4 ≤ 9223372036854775807) = true := decide_eq_true c13
          try have c13b2 : (9223372036854775807 < x3_1.size + 4) = False := eq_false (Nat.not_lt.2 c13)
          have H' := Aside0.mk H
          clear H
          go_wp2
          go_meet
          case rel => exact ⟨_, (x3_1 ++ (⟨#[100, 101, 110, 121]⟩ : ByteArray)), (by first | rfl | (simp; done) | (simp [*]; done)), H', ⟨by have := HK1.out; first | omega | exact Nat.le_refl _⟩, ⟨by (with_reducible repeat (first | refine blk_drewN ?_ _ | refine blk_drew ?_ | refine blk_alloc ?_ _)); refine blk_put (cs := #[.int .i64 ((rd_T37 l0 x13_1).f0), .slice A228_1 ((rd_T37 l0 x13_1).f1).length c228_1, .slice A228_2 ((rd_T37 l0 x13_1).f2).length c228_2, .slice A228_3 ((rd_T37 l0 x13_1).f3).length c228_3, .slice none 0 0]) ?_ 4 _ rfl; (with_reducible repeat (first | refine blk_drewN ?_ _ | refine blk_drew ?_ | refine blk_alloc ?_ _)); refine blk_put (cs := #[.int .i64 ((rd_T37 l0 x13_1).f0), .slice A228_1 ((rd_T37 l0 x13_1).f1).length c228_1, .slice A228_2 ((rd_T37 l0 x13_1).f2).length c228_2, .slice none 0 0, .slice none 0 0]) ?_ 3 _ rfl; (with_reducible repeat (first | refine blk_drewN ?_ _ | refine blk_drew ?_ | refine blk_alloc ?_ _)); refine blk_put (cs := #[.int .i64 ((rd_T37 l0 x13_1).f0), .slice A228_1 ((rd_T37 l0 x13_1).f1).length c228_1, .slice none 0 0, .slice none 0 0, .slice none 0 0]) ?_ 2 _ rfl; (with_reducible repeat (first | refine blk_drewN ?_ _ | refine blk_drew ?_ | refine blk_alloc ?_ _)); refine blk_put (cs := #[.int .i64 ((rd_T37 l0 x13_1).f0), .slice none 0 0, .slice none 0 0, .slice none 0 0, .slice none 0 0]) ?_ 1 _ rfl; (with_reducible repeat (first | refine blk_drewN ?_ _ | refine blk_drew ?_ | refine blk_alloc ?_ _)); refine blk_put (cs := #[.int .i64 0, .slice none 0 0, .slice none 0 0, .slice none 0 0, .slice none 0 0]) ?_ 0 _ rfl; (with_reducible repeat (first | refine blk_drewN ?_ _ | refine blk_drew ?_ | refine blk_alloc ?_ _)); exact BK229.out⟩, ⟨by repeat (first | (with_reducible first | exact HB.out | apply below_alloc | apply pw_below_drewN | apply below_drew1 | refine below_set ?_ GE229.out) | exact HB.out)⟩⟩
         ·rw [if_neg c13] at H
          exact absurd H (by simp)
       case rest =>
        clear HC8
        try clear c1
        try clear c2
        try clear p2
        try clear q2
        try clear hx2
        try clear c3
        try clear c3b0
        try clear c3b1
        try clear c5
        try clear c5b0
        try clear c6
        try clear c6b0
        try clear c7
        try clear c7b0
        try clear c11
        try clear c11b0
        try clear c11b1
        try clear c12
        try clear c12b0
        try clear c12b1
        try clear c12b2
        try clear c13
        try clear c13b0
        try clear c13b1
        try clear c13b2
        try clear hcz10_0
        try clear hcz10_1
        try clear hcz10_2
        try clear hcz10_3
        try clear hcz10_4
        try clear hfz10_0
        try clear hfz10_1
        try clear hfz10_2
        try clear hfz10_3
        try clear hfz10_4
        try clear hx228_0
        try clear hx228_1
        try clear hx228_2
        try clear hx228_3
        try clear hx228_4
        try clear p2
        try clear p228
        try clear q228
        obtain ⟨kq, x3_7, rfl, HA, HJ7, BK229, HB⟩ := hcut
        cases kq with
        | zero => exact absurd HA.out (by simp [impl_WritePolicy.j1])
        | succ kj7 =>
         have H := HA.out
         clear HA
         simp only [impl_WritePolicy.j1] at H
         replace H := Option.bind_eq_some_iff.mp H
         obtain ⟨t230, A140, H⟩ := H
         replace H : (if 5 + t230.size ≤ 9223372036854775807 then (if ((⟨#[32, 119, 104, 111, 32]⟩ : ByteArray) ++ t230).size + 4 ≤ 9223372036854775807 then ((strings_Join.f ((rd_T37 l0 x13_1).f2) (⟨#[44]⟩ : ByteArray)).bind fun t231 => (if (((⟨#[32, 119, 104, 111, 32]⟩ : ByteArray) ++ t230) ++ (⟨#[32, 100, 111, 32]⟩ : ByteArray)).size + t231.size ≤ 9223372036854775807 then (if ((((⟨#[32, 119, 104, 111, 32]⟩ : ByteArray) ++ t230) ++ (⟨#[32, 100, 111, 32]⟩ : ByteArray)) ++ t231).size + 4 ≤ 9223372036854775807 then ((strings_Join.f ((rd_T37 l0 x13_1).f3) (⟨#[44]⟩ : ByteArray)).bind fun t232 => (if (((((⟨#[32, 119, 104, 111, 32]⟩ : ByteArray) ++ t230) ++ (⟨#[32, 100, 111, 32]⟩ : ByteArray)) ++ t231) ++ (⟨#[32, 111, 110, 32]⟩ : ByteArray)).size + t232.size ≤ 9223372036854775807 then (if x3_7.size + ((((((⟨#[32, 119, 104, 111, 32]⟩ : ByteArray) ++ t230) ++ (⟨#[32, 100, 111, 32]⟩ : ByteArray)) ++ t231) ++ (⟨#[32, 111, 110, 32]⟩ : ByteArray)) ++ t232).size ≤ 9223372036854775807 then (impl_WritePolicy.l1 kj7 (x3_7 ++ ((((((⟨#[32, 119, 104, 111, 32]⟩ : ByteArray) ++ t230) ++ (⟨#[32, 100, 111, 32]⟩ : ByteArray)) ++ t231) ++ (⟨#[32, 111, 110, 32]⟩ : ByteArray)) ++ t232)) l0 (l0.length : Int) x13_1 ((rd_T37 l0 x13_1).f4) (((rd_T37 l0 x13_1).f4).length : Int) 0) else (none)) else (none))) else (none)) else (none))) else (none)) else (none)) = some r := H
         have A14 := Aside0.mk A140
         clear A140
         by_cases c15 : 5 + t230.size ≤ 9223372036854775807
         ·rw [if_pos c15] at H
          have c15b0 := eq_true c15
          have c15b1 : decide (5 + t230.size ≤ 9223372036854775807) = true := decide_eq_true c15
          try have c15b2 : (9223372036854775807 < 5 + t230.size) = False := eq_false (Nat.not_lt.2 c15)
          by_cases c16 : ((⟨#[32, 119, 104, 111, 32]⟩ : ByteArray) ++ t230).size + 4 ≤ 9223372036854775807
          ·rw [if_pos c16] at H
           have c16b0 := eq_true c16
           have c16b1 : decide (((⟨#[32, 119, 104, 111, 32]⟩ : ByteArray) ++ t230).size + 4 ≤ 9223372036854775807) = true := decide_eq_true c16
           try have c16b2 : (9223372036854775807 < ((⟨#[32, 119, 104, 111, 32]⟩ : ByteArray) ++ t230).size + 4) = False := eq_false (Nat.not_lt.2 c16)
           try have c16b3 : (9223372036854775807 < 5 + t230.size + 4) = False := eq_false (Nat.not_lt.2 (by have q_ := c16; simp only [ByteArray.size_append] at q_; exact q_))
           replace H := Option.bind_eq_some_iff.mp H
           obtain ⟨t231, A170, H⟩ := H
           replace H : (if (((⟨#[32, 119, 104, 111, 32]⟩ : ByteArray) ++ t230) ++ (⟨#[32, 100, 111, 32]⟩ : ByteArray)).size + t231.size ≤ 9223372036854775807 then (if ((((⟨#[32, 119, 104, 111, 32]⟩ : ByteArray) ++ t230) ++ (⟨#[32, 100, 111, 32]⟩ : ByteArray)) ++ t231).size + 4 ≤ 9223372036854775807 then ((strings_Join.f ((rd_T37 l0 x13_1).f3) (⟨#[44]⟩ : ByteArray)).bind fun t232 => (if (((((⟨#[32, 119, 104, 111, 32]⟩ : ByteArray) ++ t230) ++ (⟨#[32, 100, 111, 32]⟩ : ByteArray)) ++ t231) ++ (⟨#[32, 111, 110, 32]⟩ : ByteArray)).size + t232.size ≤ 9223372036854775807 then (if x3_7.size + ((((((⟨#[32, 119, 104, 111, 32]⟩ : ByteArray) ++ t230) ++ (⟨#[32, 100, 111, 32]⟩ : ByteArray)) ++ t231) ++ (⟨#[32, 111, 110, 32]⟩ : ByteArray)) ++ t232).size ≤ 9223372036854775807 then (impl_WritePolicy.l1 kj7 (x3_7 ++ ((((((⟨#[32, 119, 104, 111, 32]⟩ : ByteArray) ++ t230) ++ (⟨#[32, 100, 111, 32]⟩ : ByteArray)) ++ t231) ++ (⟨#[32, 111, 110, 32]⟩ : ByteArray)) ++ t232)) l0 (l0.length : Int) x13_1 ((rd_T37 l0 x13_1).f4) (((rd_T37 l0 x13_1).f4).length : Int) 0) else (none)) else (none))) else (none)) else (none)) = some r := H
           have A17 := Aside0.mk A170
           clear A170
           by_cases c18 : (((⟨#[32, 119, 104, 111, 32]⟩ : ByteArray) ++ t230) ++ (⟨#[32, 100, 111, 32]⟩ : ByteArray)).size + t231.size ≤ 9223372036854775807
           ·rw [if_pos c18] at H
            have c18b0 := eq_true c18
            have c18b1 : decide ((((⟨#[32, 119, 104, 111, 32]⟩ : ByteArray) ++ t230) ++ (⟨#[32, 100, 111, 32]⟩ : ByteArray)).size + t231.size ≤ 9223372036854775807) = true := decide_eq_true c18
            try have c18b2 : (9223372036854775807 < (((⟨#[32, 119, 104, 111, 32]⟩ : ByteArray) ++ t230) ++ (⟨#[32, 100, 111, 32]⟩ : ByteArray)).size + t231.size) = False := eq_false (Nat.not_lt.2 c18)
            try have c18b3 : (9223372036854775807 < 5 + t230.size + 4 + t231.size) = False := eq_false (Nat.not_lt.2 (by have q_ := c18; simp only [ByteArray.size_append] at q_; exact q_))
            by_cases c19 : ((((⟨#[32, 119, 104, 111, 32]⟩ : ByteArray) ++ t230) ++ (⟨#[32, 100, 111, 32]⟩ : ByteArray)) ++ t231).size + 4 ≤ 9223372036854775807
            ·rw [if_pos c19] at H
             have c19b0 := eq_true c19
             have c19b1 : decide (((((⟨#[32, 119, 104, 111, 32]⟩ : ByteArray) ++ t230) ++ (⟨#[32, 100, 111, 32]⟩ : ByteArray)) ++ t231).size + 4 ≤ 9223372036854775807) = true := decide_eq_true c19
             try have c19b2 : (9223372036854775807 < ((((⟨#[32, 119, 104, 111, 32]⟩ : ByteArray) ++ t230) ++ (⟨#[32, 100, 111, 32]⟩ : ByteArray)) ++ t231).size + 4) = False := eq_false (Nat.not_lt.2 c19)
             try have c19b3 : (9223372036854775807 < 5 + t230.size + 4 + t231.size + 4) = False := eq_false (Nat.not_lt.2 (by have q_ := c19; simp only [ByteArray.size_append] at q_; exact q_))
             replace H := Option.bind_eq_some_iff.mp H
             obtain ⟨t232, A200, H⟩ := H
             replace H : (if (((((⟨#[32, 119, 104, 111, 32]⟩ : ByteArray) ++ t230) ++ (⟨#[32, 100, 111, 32]⟩ : ByteArray)) ++ t231) ++ (⟨#[32, 111, 110, 32]⟩ : ByteArray)).size + t232.size ≤ 9223372036854775807 then (if x3_7.size + ((((((⟨#[32, 119, 104, 111, 32]⟩ : ByteArray) ++ t230) ++ (⟨#[32, 100, 111, 32]⟩ : ByteArray)) ++ t231) ++ (⟨#[32, 111, 110, 32]⟩ : ByteArray)) ++ t232).size ≤ 9223372036854775807 then (impl_WritePolicy.l1 kj7 (x3_7 ++ ((((((⟨#[32, 119, 104, 111, 32]⟩ : ByteArray) ++ t230) ++ (⟨#[32, 100, 111, 32]⟩ : ByteArray)) ++ t231) ++ (⟨#[32, 111, 110, 32]⟩ : ByteArray)) ++ t232)) l0 (l0.length : Int) x13_1 ((rd_T37 l0 x13_1).f4) (((rd_T37 l0 x13_1).f4).length : Int) 0) else (none)) else (none)) = some r := H
             have A20 := Aside0.mk A200
             clear A200
             by_cases c21 : (((((⟨#[32, 119, 104, 111, 32]⟩ : ByteArray) ++ t230) ++ (⟨#[32, 100, 111, 32]⟩ : ByteArray)) ++ t231) ++ (⟨#[32, 111, 110, 32]⟩ : ByteArray)).size + t232.size ≤ 9223372036854775807
             ·rw [if_pos c21] at H
              have c21b0 := eq_true c21
              have c21b1 : decide ((((((⟨#[32, 119, 104, 111, 32]⟩ : ByteArray) ++ t230) ++ (⟨#[32, 100, 111, 32]⟩ : ByteArray)) ++ t231) ++ (⟨#[32, 111, 110, 32]⟩ : ByteArray)).size + t232.size ≤ 9223372036854775807) = true := decide_eq_true c21
              try have c21b2 : (9223372036854775807 < (((((⟨#[32, 119, 104, 111, 32]⟩ : ByteArray) ++ t230) ++ (⟨#[32, 100, 111, 32]⟩ : ByteArray)) ++ t231) ++ (⟨#[32, 111, 110, 32]⟩ : ByteArray)).size + t232.size) = False := eq_false (Nat.not_lt.2 c21)
              try have c21b3 : (9223372036854775807 < 5 + t230.size + 4 + t231.size + 4 + t232.size) = False := eq_false (Nat.not_lt.2 (by have q_ := c21; simp only [ByteArray.size_append] at q_; exact q_))
              by_cases c22 : x3_7.size + ((((((⟨#[32, 119, 104, 111, 32]⟩ : ByteArray) ++ t230) ++ (⟨#[32, 100, 111, 32]⟩ : ByteArray)) ++ t231) ++ (⟨#[32, 111, 110, 32]⟩ : ByteArray)) ++ t232).size ≤ 9223372036854775807
              ·rw [if_pos c22] at H
               have c22b0 := eq_true c22
               have c22b1 : decide (x3_7.size + ((((((⟨#[32, 119, 104, 111, 32]⟩ : ByteArray) ++ t230) ++ (⟨#[32, 100, 111, 32]⟩ : ByteArray)) ++ t231) ++ (⟨#[32, 111, 110, 32]⟩ : ByteArray)) ++ t232).size ≤ 9223372036854775807) = true := decide_eq_true c22
               try have c22b2 : (9223372036854775807 < x3_7.size + ((((((⟨#[32, 119, 104, 111, 32]⟩ : ByteArray) ++ t230) ++ (⟨#[32, 100, 111, 32]⟩ : ByteArray)) ++ t231) ++ (⟨#[32, 111, 110, 32]⟩ : ByteArray)) ++ t232).size) = False := eq_false (Nat.not_lt.2 c22)
               try have c22b3 : (9223372036854775807 < x3_7.size + (5 + t230.size + 4 + t231.size + 4 + t232.size)) = False := eq_false (Nat.not_lt.2 (by have q_ := c22; simp only [ByteArray.size_append] at q_; exact q_))
               have H' := Aside0.mk H
               clear H
               try go_wp2
               have n0_ := Aside0.mk (blk_drew BK229.out)
               have n1_ := Aside0.mk (below_drew1 HB.out)
               clear BK229
               clear HB
               have BK229 := n0_
               have HB := n1_
               clear n0_ n1_
               refine start_ (n := 17) (S := fun w' => w'.cell? ⟨gb229, 0, none⟩ = some (.int .i64 ((rd_T37 l0 x13_1).f0)) ∧ w'.cell? ⟨gb229, 1, none⟩ = some (.slice A228_1 ((rd_T37 l0 x13_1).f1).length c228_1) ∧ w'.cell? ⟨gb229, 2, none⟩ = some (.slice A228_2 ((rd_T37 l0 x13_1).f2).length c228_2) ∧ w'.cell? ⟨gb229, 3, none⟩ = some (.slice A228_3 ((rd_T37 l0 x13_1).f3).length c228_3) ∧ w'.cell? ⟨gb229, 4, none⟩ = some (.slice A228_4 ((rd_T37 l0 x13_1).f4).length c228_4)) (ds := []) #[false, false, false, false, false, false, false, false, false, false, false, false, false, false, false, false, false] (by kernel_rfl) rfl rfl ⟨(blk_cell BK229.out 0).trans rfl, (blk_cell BK229.out 1).trans rfl, (blk_cell BK229.out 2).trans rfl, (blk_cell BK229.out 3).trans rfl, (blk_cell BK229.out 4).trans rfl⟩ (fun hHeld => ?_); refine with_tabW impl_WritePolicy.tab10 impl_WritePolicy.bits10 (fun HT_ HW_ => ?_)
               generalize wc.drew = w23 at BK229 HB hHeld ⊢
               refine pure_ (i := 0) (N := some 24) (v := ?_) (a' := ?_) #[true, false, false, false, false, false, false, false, false, false, false, false, false, false, false, false, false] rfl rfl (any_of HT_.out (by kernel_rfl)) (fun _ _ _ h => h) (Or.inl ⟨by rfl, ?_⟩) ?_ ?_
               rotate_left
               ·intro w'
                go_simp
                with_reducible rfl
               rotate_left
               ·simp only [Act.put, List.setIfInBounds_toArray, List.set_cons_zero, List.set_cons_succ, i64_w, i32_w]
                rfl
               refine pure_ (i := 1) (N := some 25) (v := ?_) (a' := ?_) #[true, true, false, false, false, false, false, false, false, false, false, false, false, false, false, false, false] rfl rfl (any_of HT_.out (by kernel_rfl)) (fun _ _ _ h => h) (Or.inl ⟨by rfl, ?_⟩) ?_ ?_
               rotate_left
               ·intro w'
                go_simp
                with_reducible rfl
               rotate_left
               ·simp only [Act.put, List.setIfInBounds_toArray, List.set_cons_zero, List.set_cons_succ, i64_w, i32_w]
                rfl
               refine pure_ (i := 6) (N := some 30) (v := ?_) (a' := ?_) #[true, true, false, false, false, false, true, false, false, false, false, false, false, false, false, false, false] rfl rfl (any_of HT_.out (by kernel_rfl)) (fun _ _ _ h => h) (Or.inl ⟨by rfl, ?_⟩) ?_ ?_
               rotate_left
               ·intro w'
                go_simp
                with_reducible rfl
               rotate_left
               ·simp only [Act.put, List.setIfInBounds_toArray, List.set_cons_zero, List.set_cons_succ, i64_w, i32_w]
                rfl
               refine pure_ (i := 11) (N := some 35) (v := ?_) (a' := ?_) #[true, true, false, false, false, false, true, false, false, false, false, true, false, false, false, false, false] rfl rfl (any_of HT_.out (by kernel_rfl)) (fun _ _ _ h => h) (Or.inl ⟨by rfl, ?_⟩) ?_ ?_
               rotate_left
               ·intro w'
                go_simp
                with_reducible rfl
               rotate_left
               ·simp only [Act.put, List.setIfInBounds_toArray, List.set_cons_zero, List.set_cons_succ, i64_w, i32_w]
                rfl
               refine take_ (i := 2) (N := some 26) (v := ?_) (a' := ?_) #[true, true, true, false, false, false, true, false, false, false, false, true, false, false, false, false, false] rfl rfl (take_ofW HT_.out HW_.out (by kernel_rfl)) (fun _ _ _ h => h) (Or.inl ⟨by rfl, ?_⟩) hHeld ?_ ?_
               rotate_left
               ·rintro w' ⟨s0, s1, s2, s3, s4⟩
                go_simp
                with_reducible rfl
               rotate_left
               ·simp only [Act.put, List.setIfInBounds_toArray, List.set_cons_zero, List.set_cons_succ, i64_w, i32_w]
                rfl
               refine take_ (i := 7) (N := some 31) (v := ?_) (a' := ?_) #[true, true, true, false, false, false, true, true, false, false, false, true, false, false, false, false, false] rfl rfl (take_ofW HT_.out HW_.out (by kernel_rfl)) (fun _ _ _ h => h) (Or.inl ⟨by rfl, ?_⟩) hHeld ?_ ?_
               rotate_left
               ·rintro w' ⟨s0, s1, s2, s3, s4⟩
                go_simp
                with_reducible rfl
               rotate_left
               ·simp only [Act.put, List.setIfInBounds_toArray, List.set_cons_zero, List.set_cons_succ, i64_w, i32_w]
                rfl
               refine take_ (i := 12) (N := some 36) (v := ?_) (a' := ?_) #[true, true, true, false, false, false, true, true, false, false, false, true, true, false, false, false, false] rfl rfl (take_ofW HT_.out HW_.out (by kernel_rfl)) (fun _ _ _ h => h) (Or.inl ⟨by rfl, ?_⟩) hHeld ?_ ?_
               rotate_left
               ·rintro w' ⟨s0, s1, s2, s3, s4⟩
                go_simp
                with_reducible rfl
               rotate_left
               ·simp only [Act.put, List.setIfInBounds_toArray, List.set_cons_zero, List.set_cons_succ, i64_w, i32_w]
                rfl
               refine one_ (i := 3) (N := some 27) #[true, true, true, true, false, false, true, true, false, false, false, true, true, false, false, false, false] rfl rfl (one_of HT_.out (by kernel_rfl)) (by decide) (fun K hK => ?_)
               refine goes_ Tryd.func15 (by kernel_rfl) rfl #[.slice A228_1 ((rd_T37 l0 x13_1).f1).length c228_1, .string (⟨#[44]⟩ : ByteArray)] (by rfl) rfl rfl (by (try simp only [List.map_toArray, List.map_cons, List.map_nil]); first | done | rfl | (simp only [List.length_drop, List.length_take]; rfl)) ?_
               with_reducible refine (strings_Join.calls _ _ ((rd_T37 l0 x13_1).f1) (⟨#[44]⟩ : ByteArray) t230 _ ?side1 ?side2 A14.out).mono ?_
               (case side1 => repeat (first | exact (Kd.C_below HR228_1.out HB.out) | (with_reducible refine Kd.C_alloc ?_ _) | (with_reducible refine Kd.C_drewN ?_ _) | (with_reducible refine Kd.C_drew ?_)))
               (case side2 => exact HC228_1.out)
               rintro e w24 ⟨rfl, hb⟩
               refine ⟨_, rfl, ?_⟩
               have n0_ := Aside0.mk (blk_below (g := gb229) (o := .cells #[.int .i64 ((rd_T37 l0 x13_1).f0), .slice A228_1 ((rd_T37 l0 x13_1).f1).length c228_1, .slice A228_2 ((rd_T37 l0 x13_1).f2).length c228_2, .slice A228_3 ((rd_T37 l0 x13_1).f3).length c228_3, .slice A228_4 ((rd_T37 l0 x13_1).f4).length c228_4] 37 (0, 0)) (by (with_reducible repeat (first | refine blk_drewN ?_ _ | refine blk_drew ?_ | refine blk_alloc ?_ _)); exact BK229.out) hb)
               have n1_ := Aside0.mk (below_step (by repeat (first | (with_reducible first | exact HB.out | apply below_alloc | apply pw_below_drewN | apply below_drew1 | refine below_set ?_ GE229.out) | exact HB.out)) hb)
               clear BK229
               clear HB
               have BK229 := n0_
               have HB := n1_
               clear n0_ n1_
               (try clear hb)
               (try clear hb2)
               (try clear hk)
               (try clear hi)
               refine hK.out _ _ ⟨(blk_cell BK229.out 0).trans rfl, (blk_cell BK229.out 1).trans rfl, (blk_cell BK229.out 2).trans rfl, (blk_cell BK229.out 3).trans rfl, (blk_cell BK229.out 4).trans rfl⟩ (fun hHeld => ?_)
               clear hK K
               refine norm_ (a' := ?_) ?_ ?_
               rotate_left
               ·show Act.put _ (some 27) _ = _
                simp only [Act.put, List.setIfInBounds_toArray, List.set_cons_zero, List.set_cons_succ, i64_w, i32_w]
                rfl
               refine pure_ (i := 4) (N := some 28) (v := ?_) (a' := ?_) #[true, true, true, true, true, false, true, true, false, false, false, true, true, false, false, false, false] rfl rfl (any_of HT_.out (by kernel_rfl)) (fun _ _ _ h => h) (Or.inl ⟨by rfl, ?_⟩) ?_ ?_
               rotate_left
               ·intro w'
                go_simp
                with_reducible rfl
               rotate_left
               ·simp only [Act.put, List.setIfInBounds_toArray, List.set_cons_zero, List.set_cons_succ, i64_w, i32_w]
                rfl
               refine pure_ (i := 5) (N := some 29) (v := ?_) (a' := ?_) #[true, true, true, true, true, true, true, true, false, false, false, true, true, false, false, false, false] rfl rfl (any_of HT_.out (by kernel_rfl)) (fun _ _ _ h => h) (Or.inl ⟨by rfl, ?_⟩) ?_ ?_
               rotate_left
               ·intro w'
                go_simp
                with_reducible rfl
               rotate_left
               ·simp only [Act.put, List.setIfInBounds_toArray, List.set_cons_zero, List.set_cons_succ, i64_w, i32_w]
                rfl
               refine one_ (i := 8) (N := some 32) #[true, true, true, true, true, true, true, true, true, false, false, true, true, false, false, false, false] rfl rfl (one_of HT_.out (by kernel_rfl)) (by decide) (fun K hK => ?_)
               refine goes_ Tryd.func15 (by kernel_rfl) rfl #[.slice A228_2 ((rd_T37 l0 x13_1).f2).length c228_2, .string (⟨#[44]⟩ : ByteArray)] (by rfl) rfl rfl (by (try simp only [List.map_toArray, List.map_cons, List.map_nil]); first | done | rfl | (simp only [List.length_drop, List.length_take]; rfl)) ?_
               with_reducible refine (strings_Join.calls _ _ ((rd_T37 l0 x13_1).f2) (⟨#[44]⟩ : ByteArray) t231 _ ?side1 ?side2 A17.out).mono ?_
               (case side1 => repeat (first | exact (Kd.C_below HR228_2.out HB.out) | (with_reducible refine Kd.C_alloc ?_ _) | (with_reducible refine Kd.C_drewN ?_ _) | (with_reducible refine Kd.C_drew ?_)))
               (case side2 => exact HC228_2.out)
               rintro e w25 ⟨rfl, hb⟩
               refine ⟨_, rfl, ?_⟩
               have n0_ := Aside0.mk (blk_below (g := gb229) (o := .cells #[.int .i64 ((rd_T37 l0 x13_1).f0), .slice A228_1 ((rd_T37 l0 x13_1).f1).length c228_1, .slice A228_2 ((rd_T37 l0 x13_1).f2).length c228_2, .slice A228_3 ((rd_T37 l0 x13_1).f3).length c228_3, .slice A228_4 ((rd_T37 l0 x13_1).f4).length c228_4] 37 (0, 0)) (by (with_reducible repeat (first | refine blk_drewN ?_ _ | refine blk_drew ?_ | refine blk_alloc ?_ _)); exact BK229.out) hb)
               have n1_ := Aside0.mk (below_step (by repeat (first | (with_reducible first | exact HB.out | apply below_alloc | apply pw_below_drewN | apply below_drew1 | refine below_set ?_ GE229.out) | exact HB.out)) hb)
               clear BK229
               clear HB
               have BK229 := n0_
               have HB := n1_
               clear n0_ n1_
               (try clear hb)
               (try clear hb2)
               (try clear hk)
               (try clear hi)
               refine hK.out _ _ ⟨(blk_cell BK229.out 0).trans rfl, (blk_cell BK229.out 1).trans rfl, (blk_cell BK229.out 2).trans rfl, (blk_cell BK229.out 3).trans rfl, (blk_cell BK229.out 4).trans rfl⟩ (fun hHeld => ?_)
               clear hK K
               refine norm_ (a' := ?_) ?_ ?_
               rotate_left
               ·show Act.put _ (some 32) _ = _
                simp only [Act.put, List.setIfInBounds_toArray, List.set_cons_zero, List.set_cons_succ, i64_w, i32_w]
                rfl
               refine pure_ (i := 9) (N := some 33) (v := ?_) (a' := ?_) #[true, true, true, true, true, true, true, true, true, true, false, true, true, false, false, false, false] rfl rfl (any_of HT_.out (by kernel_rfl)) (fun _ _ _ h => h) (Or.inl ⟨by rfl, ?_⟩) ?_ ?_
               rotate_left
               ·intro w'
                go_simp
                with_reducible rfl
               rotate_left
               ·simp only [Act.put, List.setIfInBounds_toArray, List.set_cons_zero, List.set_cons_succ, i64_w, i32_w]
                rfl
               refine pure_ (i := 10) (N := some 34) (v := ?_) (a' := ?_) #[true, true, true, true, true, true, true, true, true, true, true, true, true, false, false, false, false] rfl rfl (any_of HT_.out (by kernel_rfl)) (fun _ _ _ h => h) (Or.inl ⟨by rfl, ?_⟩) ?_ ?_
               rotate_left
               ·intro w'
                go_simp
                with_reducible rfl
               rotate_left
               ·simp only [Act.put, List.setIfInBounds_toArray, List.set_cons_zero, List.set_cons_succ, i64_w, i32_w]
                rfl
               refine one_ (i := 13) (N := some 37) #[true, true, true, true, true, true, true, true, true, true, true, true, true, true, false, false, false] rfl rfl (one_of HT_.out (by kernel_rfl)) (by decide) (fun K hK => ?_)
               refine goes_ Tryd.func15 (by kernel_rfl) rfl #[.slice A228_3 ((rd_T37 l0 x13_1).f3).length c228_3, .string (⟨#[44]⟩ : ByteArray)] (by rfl) rfl rfl (by (try simp only [List.map_toArray, List.map_cons, List.map_nil]); first | done | rfl | (simp only [List.length_drop, List.length_take]; rfl)) ?_
               with_reducible refine (strings_Join.calls _ _ ((rd_T37 l0 x13_1).f3) (⟨#[44]⟩ : ByteArray) t232 _ ?side1 ?side2 A20.out).mono ?_
               (case side1 => repeat (first | exact (Kd.C_below HR228_3.out HB.out) | (with_reducible refine Kd.C_alloc ?_ _) | (with_reducible refine Kd.C_drewN ?_ _) | (with_reducible refine Kd.C_drew ?_)))
               (case side2 => exact HC228_3.out)
               rintro e w26 ⟨rfl, hb⟩
               refine ⟨_, rfl, ?_⟩
               have n0_ := Aside0.mk (blk_below (g := gb229) (o := .cells #[.int .i64 ((rd_T37 l0 x13_1).f0), .slice A228_1 ((rd_T37 l0 x13_1).f1).length c228_1, .slice A228_2 ((rd_T37 l0 x13_1).f2).length c228_2, .slice A228_3 ((rd_T37 l0 x13_1).f3).length c228_3, .slice A228_4 ((rd_T37 l0 x13_1).f4).length c228_4] 37 (0, 0)) (by (with_reducible repeat (first | refine blk_drewN ?_ _ | refine blk_drew ?_ | refine blk_alloc ?_ _)); exact BK229.out) hb)
               have n1_ := Aside0.mk (below_step (by repeat (first | (with_reducible first | exact HB.out | apply below_alloc | apply pw_below_drewN | apply below_drew1 | refine below_set ?_ GE229.out) | exact HB.out)) hb)
               clear BK229
               clear HB
               have BK229 := n0_
               have HB := n1_
               clear n0_ n1_
               (try clear hb)
               (try clear hb2)
               (try clear hk)
               (try clear hi)
               refine hK.out _ _ ⟨(blk_cell BK229.out 0).trans rfl, (blk_cell BK229.out 1).trans rfl, (blk_cell BK229.out 2).trans rfl, (blk_cell BK229.out 3).trans rfl, (blk_cell BK229.out 4).trans rfl⟩ (fun hHeld => ?_)
               clear hK K
               refine norm_ (a' := ?_) ?_ ?_
               rotate_left
               ·show Act.put _ (some 37) _ = _
                simp only [Act.put, List.setIfInBounds_toArray, List.set_cons_zero, List.set_cons_succ, i64_w, i32_w]
                rfl
               refine pure_ (i := 14) (N := some 38) (v := ?_) (a' := ?_) #[true, true, true, true, true, true, true, true, true, true, true, true, true, true, true, false, false] rfl rfl (any_of HT_.out (by kernel_rfl)) (fun _ _ _ h => h) (Or.inl ⟨by rfl, ?_⟩) ?_ ?_
               rotate_left
               ·intro w'
                go_simp
                with_reducible rfl
               rotate_left
               ·simp only [Act.put, List.setIfInBounds_toArray, List.set_cons_zero, List.set_cons_succ, i64_w, i32_w]
                rfl
               refine pure_ (i := 15) (N := some 39) (v := ?_) (a' := ?_) #[true, true, true, true, true, true, true, true, true, true, true, true, true, true, true, true, false] rfl rfl (any_of HT_.out (by kernel_rfl)) (fun _ _ _ h => h) (Or.inl ⟨by rfl, ?_⟩) ?_ ?_
               rotate_left
               ·intro w'
                go_simp
                with_reducible rfl
               rotate_left
               ·simp only [Act.put, List.setIfInBounds_toArray, List.set_cons_zero, List.set_cons_succ, i64_w, i32_w]
                rfl
               refine pure_ (i := 16) (N := some 3) (v := ?_) (a' := ?_) #[true, true, true, true, true, true, true, true, true, true, true, true, true, true, true, true, true] rfl rfl (any_of HT_.out (by kernel_rfl)) (fun _ _ _ h => h) (Or.inl ⟨by rfl, ?_⟩) ?_ ?_
               rotate_left
               ·intro w'
                go_simp
                with_reducible rfl
               rotate_left
               ·simp only [Act.put, List.setIfInBounds_toArray, List.set_cons_zero, List.set_cons_succ, i64_w, i32_w]
                rfl
               refine done_ (done_of HT_.out (by kernel_rfl)) ?_
               have hcz27_0 : w26.cell? ⟨gb229, 0, none⟩ = some (.int .i64 ((rd_T37 l0 x13_1).f0)) := (blk_cell BK229.out 0).trans rfl
               have hcz27_1 : w26.cell? ⟨gb229, 1, none⟩ = some (.slice A228_1 ((rd_T37 l0 x13_1).f1).length c228_1) := (blk_cell BK229.out 1).trans rfl
               have hcz27_2 : w26.cell? ⟨gb229, 2, none⟩ = some (.slice A228_2 ((rd_T37 l0 x13_1).f2).length c228_2) := (blk_cell BK229.out 2).trans rfl
               have hcz27_3 : w26.cell? ⟨gb229, 3, none⟩ = some (.slice A228_3 ((rd_T37 l0 x13_1).f3).length c228_3) := (blk_cell BK229.out 3).trans rfl
               have hcz27_4 : w26.cell? ⟨gb229, 4, none⟩ = some (.slice A228_4 ((rd_T37 l0 x13_1).f4).length c228_4) := (blk_cell BK229.out 4).trans rfl
               have hfz27_0 := blk_frozen BK229.out 0
               have hfz27_1 := blk_frozen BK229.out 1
               have hfz27_2 := blk_frozen BK229.out 2
               have hfz27_3 := blk_frozen BK229.out 3
               have hfz27_4 := blk_frozen BK229.out 4
               try go_wp2
               go_loopg [3, 43] kj7 (fun kq v3 v43 w' => ∃ (x3_3 : ByteArray) (x43_3 : Int), v3 = .string x3_3 ∧ v43 = .int .i64 x43_3 ∧ Aside0 (impl_WritePolicy.l1 kq x3_3 l0 (l0.length : Int) x13_1 ((rd_T37 l0 x13_1).f4) (((rd_T37 l0 x13_1).f4).length : Int) x43_3 = some r) ∧ Aside0 (kq ≤ kj7) ∧ Aside0 (w'.heap[gb229]? = some (.cells #[.int .i64 ((rd_T37 l0 x13_1).f0), (.slice A228_1 ((rd_T37 l0 x13_1).f1).length c228_1), (.slice A228_2 ((rd_T37 l0 x13_1).f2).length c228_2), (.slice A228_3 ((rd_T37 l0 x13_1).f3).length c228_3), (.slice A228_4 ((rd_T37 l0 x13_1).f4).length c228_4)] 37 (0, 0))) ∧ Aside0 (Below w.heap.size w w'))
               case atStart => exact ⟨(x3_7 ++ ((((((⟨#[32, 119, 104, 111, 32]⟩ : ByteArray) ++ t230) ++ (⟨#[32, 100, 111, 32]⟩ : ByteArray)) ++ t231) ++ (⟨#[32, 111, 110, 32]⟩ : ByteArray)) ++ t232)), (0), (by first | rfl | (simp; done) | (simp [*]; done)), (by first | rfl | (simp; done) | (simp [*]; done)), H', ⟨Nat.le_refl _⟩, ⟨by (with_reducible repeat (first | refine blk_drewN ?_ _ | refine blk_drew ?_ | refine blk_alloc ?_ _)); exact BK229.out⟩, ⟨by repeat (first | (with_reducible first | exact HB.out | apply below_alloc | apply pw_below_drewN | apply below_drew1 | refine below_set ?_ GE229.out) | exact HB.out)⟩⟩
               case round =>
                clear H'
                try clear c1
                try clear c2
                try clear p2
                try clear q2
                try clear hx2
                try clear c3
                try clear c3b0
                try clear c3b1
                try clear c5
                try clear c5b0
                try clear c6
                try clear c6b0
                try clear c7
                try clear c7b0
                try clear c11
                try clear c11b0
                try clear c11b1
                try clear c12
                try clear c12b0
                try clear c12b1
                try clear c12b2
                try clear c13
                try clear c13b0
                try clear c13b1
                try clear c13b2
                try clear c14
                try clear c15
                try clear c15b0
                try clear c15b1
                try clear c15b2
                try clear c16
                try clear c16b0
                try clear c16b1
                try clear c16b2
                try clear c18
                try clear c18b0
                try clear c18b1
                try clear c18b2
                try clear c19
                try clear c19b0
                try clear c19b1
                try clear c19b2
                try clear c21
                try clear c21b0
                try clear c21b1
                try clear c21b2
                try clear c22
                try clear c22b0
                try clear c22b1
                try clear c22b2
                try clear p22
                try clear q22
                try clear hx22
                try clear hcz10_0
                try clear hcz10_1
                try clear hcz10_2
                try clear hcz10_3
                try clear hcz10_4
                try clear hcz27_0
                try clear hcz27_1
                try clear hcz27_2
                try clear hcz27_3
                try clear hcz27_4
                try clear hfz10_0
                try clear hfz10_1
                try clear hfz10_2
                try clear hfz10_3
                try clear hfz10_4
                try clear hfz27_0
                try clear hfz27_1
                try clear hfz27_2
                try clear hfz27_3
                try clear hfz27_4
                try clear hx228_0
                try clear hx228_1
                try clear hx228_2
                try clear hx228_3
                try clear hx228_4
                try clear p2
                try clear p228
                try clear q2
                try clear q228
                obtain ⟨x3_3, x43_3, rfl, rfl, HA, HK3, BK229, HB⟩ := hrel
                cases gk with
                | zero => exact absurd HA.out (by simp [impl_WritePolicy.l1])
                | succ k3 =>
                 have H := HA.out
                 clear HA
                 simp only [impl_WritePolicy.l1] at H
                 by_cases c28 : x43_3 < (((rd_T37 l0 x13_1).f4).length : Int)
                 ·rw [if_pos c28] at H
                  have c28b0 : decide (x43_3 < (((rd_T37 l0 x13_1).f4).length : Int)) = true := decide_eq_true c28
                  clear c28
                  by_cases c29 : 0 ≤ x43_3
                  ·rw [if_pos c29] at H
                   have c29b0 : decide (0 ≤ x43_3) = true := decide_eq_true c29
                   clear c29
                   by_cases c30 : x43_3 < (((rd_T37 l0 x13_1).f4).length : Int)
                   ·rw [if_pos c30] at H
                    have c30b0 : decide (x43_3 < (((rd_T37 l0 x13_1).f4).length : Int)) = true := decide_eq_true c30
                    clear c30
                    replace H := Option.bind_eq_some_iff.mp H
                    obtain ⟨t235, A310, H⟩ := H
                    replace H : (if x3_3.size + t235.size ≤ 9223372036854775807 then (impl_WritePolicy.l1 k3 (x3_3 ++ t235) l0 (l0.length : Int) x13_1 ((rd_T37 l0 x13_1).f4) (((rd_T37 l0 x13_1).f4).length : Int) (wrap64 (x43_3 + 1))) else (none)) = some r := H
                    have A31 := Aside0.mk A310
                    clear A310
                    by_cases c32 : x3_3.size + t235.size ≤ 9223372036854775807
                    ·rw [if_pos c32] at H
                     have c32b0 := eq_true c32
                     have c32b1 : decide (x3_3.size + t235.size ≤ 9223372036854775807) = true := decide_eq_true c32
                     try have c32b2 : (9223372036854775807 < x3_3.size + t235.size) = False := eq_false (Nat.not_lt.2 c32)
                     have H' := Aside0.mk H
                     clear H
                     have p233 : 0 ≤ (x43_3 : Int) := of_decide_eq_true (by first | (with_reducible assumption) | assumption)
                     have q233 : x43_3 < (((rd_T37 l0 x13_1).f4).length : Int) := of_decide_eq_true (by first | (with_reducible assumption) | assumption)
                     obtain ⟨ad233, e233, hx233_0, hx233_1, hx233_2⟩ := at_T40 HR228_4.out x43_3 p233 q233
                     cases e233
                     replace hx233_0 := (HB.out.cell (World.block_lt_of_cell? w _ hx233_0)).trans hx233_0
                     replace hx233_1 := (HB.out.cell (World.block_lt_of_cell? w _ hx233_1)).trans hx233_1
                     replace hx233_2 := (HB.out.cell (World.block_lt_of_cell? w _ hx233_2)).trans hx233_2
                     replace p233 := eq_true p233
                     replace q233 := eq_true q233
                     go_wp2_with (first | ((with_reducible refine gate_dst (N := 7) rfl ?_); refine box_event ?hg (N := 7) ?hd (cs := #[.int .i64 0, .string (⟨#[]⟩ : ByteArray), .int .i64 0]) (t := 40) ?hr ?_; (case hd => rfl); (case hg => rfl); (case hr => first | (go_simp; done) | (go_simp; rfl)); intro gb234 hg w33 hbox hb; have n0_ := Aside0.mk (blk_below (g := gb229) (o := .cells #[.int .i64 ((rd_T37 l0 x13_1).f0), .slice A228_1 ((rd_T37 l0 x13_1).f1).length c228_1, .slice A228_2 ((rd_T37 l0 x13_1).f2).length c228_2, .slice A228_3 ((rd_T37 l0 x13_1).f3).length c228_3, .slice (some ad233) ((rd_T37 l0 x13_1).f4).length c228_4] 37 (0, 0)) (by (with_reducible repeat (first | refine blk_drewN ?_ _ | refine blk_drew ?_ | refine blk_alloc ?_ _)); exact BK229.out) hb); have n1_ := Aside0.mk (below_step (by repeat (first | (with_reducible first | exact HB.out | apply below_alloc | apply pw_below_drewN | apply below_drew1 | refine below_set ?_ GE229.out) | exact HB.out)) hb); have n2_ := Aside0.mk (hbox); have n3_ := Aside0.mk ((by rw [hg]; exact (below_size (by repeat (first | (with_reducible first | exact HB.out | apply below_alloc | apply pw_below_drewN | apply below_drew1 | refine below_set ?_ GE229.out) | exact HB.out))) : w.heap.size ≤ gb234)); have n4_ := Aside0.mk ((by rw [hg]; exact (below_size (by repeat (first | (with_reducible first | exact HB.out | apply below_alloc | apply pw_below_drewN | apply below_drew1 | refine below_set ?_ GE229.out) | exact HB.out))) : w.heap.size ≤ gb234)); have n5_ := Aside0.mk ((by rw [hg]; exact Nat.ne_of_lt (blk_lt (g := gb229) (o := .cells #[.int .i64 ((rd_T37 l0 x13_1).f0), .slice A228_1 ((rd_T37 l0 x13_1).f1).length c228_1, .slice A228_2 ((rd_T37 l0 x13_1).f2).length c228_2, .slice A228_3 ((rd_T37 l0 x13_1).f3).length c228_3, .slice (some ad233) ((rd_T37 l0 x13_1).f4).length c228_4] 37 (0, 0)) (by (with_reducible repeat (first | refine blk_drewN ?_ _ | refine blk_drew ?_ | refine blk_alloc ?_ _)); exact BK229.out)) : gb229 ≠ gb234)); have n6_ := Aside0.mk ((by rw [hg]; exact Nat.ne_of_gt (blk_lt (g := gb229) (o := .cells #[.int .i64 ((rd_T37 l0 x13_1).f0), .slice A228_1 ((rd_T37 l0 x13_1).f1).length c228_1, .slice A228_2 ((rd_T37 l0 x13_1).f2).length c228_2, .slice A228_3 ((rd_T37 l0 x13_1).f3).length c228_3, .slice (some ad233) ((rd_T37 l0 x13_1).f4).length c228_4] 37 (0, 0)) (by (with_reducible repeat (first | refine blk_drewN ?_ _ | refine blk_drew ?_ | refine blk_alloc ?_ _)); exact BK229.out)) : gb234 ≠ gb229)); clear BK229; clear HB; have BK229 := n0_; have HB := n1_; have BK234 := n2_; have GW234 := n3_; have GE234 := n4_; have NB229_234 := n5_; have NB234_229 := n6_; clear n0_ n1_ n2_ n3_ n4_ n5_ n6_; clear hb hbox hg; have hnb34 := NB234_229.out; have hnc34 := NB229_234.out; have hcz35_0 : w33.cell? ⟨gb234, 0, none⟩ = some (.int .i64 0) := (blk_cell BK234.out 0).trans rfl; have hcz35_1 : w33.cell? ⟨gb234, 1, none⟩ = some (.string (⟨#[]⟩ : ByteArray)) := (blk_cell BK234.out 1).trans rfl; have hcz35_2 : w33.cell? ⟨gb234, 2, none⟩ = some (.int .i64 0) := (blk_cell BK234.out 2).trans rfl; have hfz35_0 := blk_frozen BK234.out 0; have hfz35_1 := blk_frozen BK234.out 1; have hfz35_2 := blk_frozen BK234.out 2) | ((with_reducible refine gate_callee (f := 16) rfl ?_); refine goesL_ (some 49) rfl rfl Tryd.func16 (by kernel_rfl) rfl #[.agg #[.int .i64 ((rd_T40 ((rd_T37 l0 x13_1).f4) x43_3).f0), .string ((rd_T40 ((rd_T37 l0 x13_1).f4) x43_3).f1), .int .i64 ((rd_T40 ((rd_T37 l0 x13_1).f4) x43_3).f2)]] rfl (by (try simp only [List.map_toArray, List.map_cons, List.map_nil]); first | done | rfl | (simp only [List.length_drop, List.length_take]; rfl)) ?_; (with_reducible refine (impl_writeCondition.calls ((rd_T40 ((rd_T37 l0 x13_1).f4) x43_3).f0) ((rd_T40 ((rd_T37 l0 x13_1).f4) x43_3).f1) ((rd_T40 ((rd_T37 l0 x13_1).f4) x43_3).f2) t235 _ ?sideT A31.out).mono ?_); (case sideT => exact TabW.below HT.out (by repeat (first | (with_reducible first | exact HB.out | apply below_alloc | apply pw_below_drewN | apply below_drew1 | refine below_set ?_ GE229.out | refine below_set ?_ GE234.out) | exact HB.out))); rintro e w36 ⟨rfl, hb⟩; refine ⟨_, rfl, ?_⟩; have n0_ := Aside0.mk (blk_below (g := gb229) (o := .cells #[.int .i64 ((rd_T37 l0 x13_1).f0), .slice A228_1 ((rd_T37 l0 x13_1).f1).length c228_1, .slice A228_2 ((rd_T37 l0 x13_1).f2).length c228_2, .slice A228_3 ((rd_T37 l0 x13_1).f3).length c228_3, .slice (some ad233) ((rd_T37 l0 x13_1).f4).length c228_4] 37 (0, 0)) (by (with_reducible repeat (first | refine blk_drewN ?_ _ | refine blk_drew ?_ | refine blk_alloc ?_ _)); refine blk_far ?_ NB229_234.out _; (with_reducible repeat (first | refine blk_drewN ?_ _ | refine blk_drew ?_ | refine blk_alloc ?_ _)); refine blk_far ?_ NB229_234.out _; (with_reducible repeat (first | refine blk_drewN ?_ _ | refine blk_drew ?_ | refine blk_alloc ?_ _)); refine blk_far ?_ NB229_234.out _; (with_reducible repeat (first | refine blk_drewN ?_ _ | refine blk_drew ?_ | refine blk_alloc ?_ _)); exact BK229.out) hb); have n1_ := Aside0.mk (blk_below (g := gb234) (o := .cells #[.int .i64 ((rd_T40 ((rd_T37 l0 x13_1).f4) x43_3).f0), .string ((rd_T40 ((rd_T37 l0 x13_1).f4) x43_3).f1), .int .i64 ((rd_T40 ((rd_T37 l0 x13_1).f4) x43_3).f2)] 40 (0, 0)) (by (with_reducible repeat (first | refine blk_drewN ?_ _ | refine blk_drew ?_ | refine blk_alloc ?_ _)); refine blk_put (cs := #[.int .i64 ((rd_T40 ((rd_T37 l0 x13_1).f4) x43_3).f0), .string ((rd_T40 ((rd_T37 l0 x13_1).f4) x43_3).f1), .int .i64 0]) ?_ 2 _ rfl; (with_reducible repeat (first | refine blk_drewN ?_ _ | refine blk_drew ?_ | refine blk_alloc ?_ _)); refine blk_put (cs := #[.int .i64 ((rd_T40 ((rd_T37 l0 x13_1).f4) x43_3).f0), .string (⟨#[]⟩ : ByteArray), .int .i64 0]) ?_ 1 _ rfl; (with_reducible repeat (first | refine blk_drewN ?_ _ | refine blk_drew ?_ | refine blk_alloc ?_ _)); refine blk_put (cs := #[.int .i64 0, .string (⟨#[]⟩ : ByteArray), .int .i64 0]) ?_ 0 _ rfl; (with_reducible repeat (first | refine blk_drewN ?_ _ | refine blk_drew ?_ | refine blk_alloc ?_ _)); exact BK234.out) hb); have n2_ := Aside0.mk (below_step (by repeat (first | (with_reducible first | exact HB.out | apply below_alloc | apply pw_below_drewN | apply below_drew1 | refine below_set ?_ GE229.out | refine below_set ?_ GE234.out) | exact HB.out)) hb); clear BK229; clear BK234; clear HB; have BK229 := n0_; have BK234 := n1_; have HB := n2_; clear n0_ n1_ n2_; (try clear hb); (try clear hb2); (try clear hk); (try clear hi)))
                     go_roundg k3
                     case measure => have := HK1.out; have := HJ7.out; have := HK3.out; omega
                     case rel => exact ⟨(x3_3 ++ t235), (wrap64 (x43_3 + 1)), (by first | rfl | (simp; done) | (simp [*]; done)), (by first | rfl | (simp; done) | (simp [*]; done)), H', ⟨by have := HK1.out; have := HJ7.out; have := HK3.out; omega⟩, ⟨by (with_reducible repeat (first | refine blk_drewN ?_ _ | refine blk_drew ?_ | refine blk_alloc ?_ _)); exact BK229.out⟩, ⟨by repeat (first | (with_reducible first | exact HB.out | apply below_alloc | apply pw_below_drewN | apply below_drew1 | refine below_set ?_ GE229.out | refine below_set ?_ GE234.out) | exact HB.out)⟩⟩
                    ·rw [if_neg c32] at H
                     exact absurd H (by simp)
                   ·rw [if_neg c30] at H
                    exact absurd H (by simp)
                  ·rw [if_neg c29] at H
                   exact absurd H (by simp)
                 ·rw [if_neg c28] at H
                  have c28b0 : decide (x43_3 < (((rd_T37 l0 x13_1).f4).length : Int)) = false := decide_eq_false c28
                  clear c28
                  by_cases c37 : x3_3.size + 1 ≤ 9223372036854775807
                  ·rw [if_pos c37] at H
                   have c37b0 := eq_true c37
                   have c37b1 : decide (x3_3.size + 1 ≤ 9223372036854775807) = true := decide_eq_true c37
                   try have c37b2 : (9223372036854775807 < x3_3.size + 1) = False := eq_false (Nat.not_lt.2 c37)
                   have H' := Aside0.mk H
                   clear H
                   go_wp2
                   go_roundg k3
                   case measure => have := HK1.out; have := HJ7.out; have := HK3.out; omega
                   case rel => exact ⟨(x3_3 ++ (⟨#[10]⟩ : ByteArray)), (wrap64 (x13_1 + 1)), (by first | rfl | (simp; done) | (simp [*]; done)), (by first | rfl | (simp; done) | (simp [*]; done)), H', ⟨by have := HK1.out; have := HJ7.out; have := HK3.out; omega⟩, ⟨by repeat (first | (with_reducible first | exact HB.out | apply below_alloc | apply pw_below_drewN | apply below_drew1 | refine below_set ?_ GE229.out) | exact HB.out)⟩⟩
                  ·rw [if_neg c37] at H
                   exact absurd H (by simp)
              ·rw [if_neg c22] at H
               exact absurd H (by simp)
             ·rw [if_neg c21] at H
              exact absurd H (by simp)
            ·rw [if_neg c19] at H
             exact absurd H (by simp)
           ·rw [if_neg c18] at H
            exact absurd H (by simp)
          ·rw [if_neg c16] at H
           exact absurd H (by simp)
         ·rw [if_neg c15] at H
          exact absurd H (by simp)
      ·rw [if_neg c7] at H
       exact absurd H (by simp)
     ·rw [if_neg c6] at H
      exact absurd H (by simp)
    ·rw [if_neg c5] at H
     have c5b0 : decide (x13_1 < (l0.length : Int)) = false := decide_eq_false c5
     clear c5
     by_cases c38 : (x3_1.size : Int) > 10000
     ·rw [if_pos c38] at H
      have c38b0 : decide (10000 < (x3_1.size : Int)) = true := decide_eq_true c38
      have c38b1 : decide (10000 < x3_1.size) = true := decide_eq_true (by omega)
      clear c38
      obtain rfl := Option.some.inj H
      go_wp2
      go_ret
      exact ⟨by first | rfl | (simp [errW_none, errW_some] <;> rfl) | (simp [*, errW_none, errW_some] <;> rfl), by repeat (first | (with_reducible first | exact HB.out | apply below_alloc | apply pw_below_drewN | apply below_drew1) | exact HB.out)⟩
     ·rw [if_neg c38] at H
      have c38b0 : decide (10000 < (x3_1.size : Int)) = false := decide_eq_false c38
      have c38b1 : decide (10000 < x3_1.size) = false := decide_eq_false (by omega)
      clear c38
      obtain rfl := Option.some.inj H
      go_wp2
      go_ret
      exact ⟨by first | rfl | (simp [errW_none, errW_some] <;> rfl) | (simp [*, errW_none, errW_some] <;> rfl), by repeat (first | (with_reducible first | exact HB.out | apply below_alloc | apply pw_below_drewN | apply below_drew1) | exact HB.out)⟩
 ·rw [if_neg c3] at H
  have c3b0 : (t227 == 0) = false := beq_eq_false_iff_ne.mpr c3
  have c3b1 : (t227 != 0) = true := bne_iff_ne.mpr c3
  obtain rfl := Option.some.inj H
  go_enter Tryd.func7, Tryd.ntmps7
  go_wp2_with (first | ((with_reducible refine gate_callee (f := 14) rfl ?_); refine goesL_ (some 9) rfl rfl Tryd.func14 (by kernel_rfl) rfl #[.slice A0 l0.length c0] rfl (by (try simp only [List.map_toArray, List.map_cons, List.map_nil]); first | done | rfl | (simp only [List.length_drop, List.length_take]; rfl)) ?_; (with_reducible refine (impl_PolicyFault.calls k _ _ l0 t227 _ ?side1 ?side2 A2.out).mono ?_); (case side1 => repeat (first | exact HR0.out | (with_reducible refine Kd.C_alloc ?_ _) | (with_reducible refine Kd.C_drewN ?_ _) | (with_reducible refine Kd.C_drew ?_))); (case side2 => exact HC0.out); rintro e w39 ⟨rfl, hb⟩; refine ⟨_, rfl, ?_⟩; have n0_ := Aside0.mk (below_step (by repeat (first | (with_reducible first | exact HB.out | apply below_alloc | apply pw_below_drewN | apply below_drew1) | exact HB.out)) hb); clear HB; have HB := n0_; clear n0_; (try clear hb); (try clear hb2); (try clear hk); (try clear hi)))
  go_ret
  exact ⟨by first | rfl | (simp [errW_none, errW_some] <;> rfl) | (simp [*, errW_none, errW_some] <;> rfl), by repeat (first | (with_reducible first | exact HB.out | apply below_alloc | apply pw_below_drewN | apply below_drew1) | exact HB.out)⟩

end Go.Proofs.YtpdgopabnihpiaaDoor.QA
