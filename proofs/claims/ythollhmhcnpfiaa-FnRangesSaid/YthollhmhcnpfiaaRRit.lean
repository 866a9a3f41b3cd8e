/- RangeReads' iterator: 'cut.ranges' hands back a value that gives the pieces of a range, in order. Conditions: the code's K, the unit and the size lie in their bounds. -/
import Derived.RangeFuncNested
import Derived.RangeFuncBound
import Derived.RangeFuncCalls
import Derived.RangeFuncLeaves
import Derived.RangeFuncBox
import Derived.Shelf.Abstract
import Derived.Shelf.RegionOpen
import Derived.WalkKit
import Derived.OwnWalkIn
import Derived.TacticsInMore
import Derived.LoopNIn
import Derived.LoopIn
import Derived.Lib.Hide
import Derived.Test.YthollhmhcnpfiaaQAx0
namespace Go.Proofs.Ythollhmhcnpfiaa.QA
open Go.RowKit Go.Shelf Go.Proofs.YthollhmhcnpfiaaW.PrintWords Go.Proofs.YthollhmhcnpfiaaW.PrintLast Go.Proofs.YthollhmhcnpfiaaW.PrintMore
attribute [local go_sem] Oper.semAt_some
attribute [local go_sem] min2_int min_two
set_option linter.unusedVariables false

/-- One piece. -/
def rgOne (K unit e a : Int) : S43 := ⟨a / (K * unit), a % (K * unit) / unit, a % unit, mn (unit - a % unit) (e - a)⟩
/-- The pieces from a to e, d of them at most. -/
def rgList (K unit e : Int) : Nat → Int → List S43
  | 0, _ => []
  | d + 1, a => if a < e then rgOne K unit e a :: rgList K unit e d (a + (rgOne K unit e a).f3) else []
def rgEnd (size fr count : Int) : Int := if count < size - fr then fr + count else size
def rgAll (K unit size fr count : Int) : List S43 := if fr ≥ size then [] else rgList K unit (rgEnd size fr count) size.toNat fr

theorem rgList_stop (K unit e : Int) (d : Nat) (a : Int) (h : ¬ a < e) : rgList K unit e d a = [] := by cases d <;> simp [rgList, h]

/-- Which row the variable in block b holds in its second cell. -/
def rowAt (W : World) (b : Nat) : Option Nat := match W.heap[b]? with | some (.cells cs _ _) => (cs[1]?.getD undef).ownBlock | _ => none
theorem rowAt_eq {A B : World} {b : Nat} (h : B.heap[b]? = A.heap[b]?) : rowAt B b = rowAt A b := by unfold rowAt; rw [h]

theorem grown_drew1 {w w' : World} {row : Option Nat} (h : w.grownBy w' row) : w.grownBy w'.drew row := ⟨h.os, h.tape, h.output, h.size, h.block⟩
/-- The row is there. -/
def RowOk (b : Nat) (A : World) : Prop := ∀ r, rowAt A b = some r → r < A.heap.size
/-- What a round keeps: each block of cells, but for the variable b and the row that it holds. -/
structure Kp0 (b : Nat) (A B : World) : Prop where
  size : A.heap.size ≤ B.heap.size
  same : ∀ k o, A.heap[k]? = some o → o.isCells = true → k ≠ b → rowAt A b ≠ some k → B.heap[k]? = some o
  row : ∀ r, rowAt B b = some r → (rowAt A b = some r ∨ A.heap.size ≤ r) ∧ r < B.heap.size
def Kpp (b : Nat) (A B : World) : Prop := RowOk b A → RowOk b B ∧ Kp0 b A B
theorem Kpp.trans {b : Nat} {A B C : World} (h : Kpp b A B) (k : Kpp b B C) : Kpp b A C := fun hv => by
  obtain ⟨vB, h⟩ := h hv
  obtain ⟨vC, k⟩ := k vB
  refine ⟨vC, Nat.le_trans h.size k.size, fun i o hi ho hb hr => ?_, fun r e => ?_⟩
  · have hB := h.same i o hi ho hb hr
    refine k.same i o hB ho hb (fun e => ?_)
    rcases (h.row i e).1 with h1 | h1
    · exact hr h1
    · have := (Array.getElem?_eq_some_iff.1 hi).1; omega
  · obtain ⟨h1, h2⟩ := k.row r e
    rcases h1 with h1 | h1
    · rcases (h.row r h1).1 with h3 | h3
      · exact ⟨.inl h3, h2⟩
      · exact ⟨.inr h3, h2⟩
    · exact ⟨.inr (Nat.le_trans h.size h1), h2⟩
theorem Kpp.putObj {b : Nat} (W : World) (l : Nat) (o o' : Obj) (h : W.heap[l]? = some o) (hc : o.isCells = false) (hb : l ≠ b) : Kpp b W (W.putObj l o') := fun hv => by
  have he : (W.putObj l o').heap[b]? = W.heap[b]? := World.putObj_heap_other (Ne.symm hb)
  have hs : (W.putObj l o').heap.size = W.heap.size := by simp [World.putObj]
  refine ⟨fun r e => by rw [hs]; rw [rowAt_eq he] at e; exact hv r e, by rw [hs]; exact Nat.le_refl _, fun k p hk hp _ _ => ?_, fun r e => ?_⟩
  · rw [World.putObj_heap_other (fun e => ?_)]
    · exact hk
    · subst e; rw [h] at hk; cases hk; rw [hc] at hp; cases hp
  · rw [rowAt_eq he] at e; exact ⟨.inl e, by rw [hs]; exact hv r e⟩

set_option maxRecDepth 100000 in
set_option maxHeartbeats 1000000 in
theorem ranges1_lt (n : Nat) (hn : 1 ≤ n) (l b B3 B4 B5 N : Nat) (K M G unit size fr count : Int) (J Jx : List S43 → World → Prop)
    (hK : 1 ≤ K) (hK' : K ≤ 32) (hu : 1 ≤ unit) (hu' : unit ≤ 4096) (hs : 0 ≤ size) (hs' : size ≤ 100000) (hf : 0 ≤ fr) (hf' : fr < size) (hc : 0 ≤ count)
    (hN : (rgAll K unit size fr count).length = N) (h3 : B3 ≠ b)
    (hY : ∀ pre x W, J pre W → pre.length < N → YieldAt Fence.wide (n - 1) Try.prog l #[.agg #[.int .i64 x.f0, .int .i64 x.f1, .int .i64 x.f2, .int .i64 x.f3]] W fun e W' =>
      (e = .returned (.bool true) ∧ J (pre ++ [x]) W' ∧ Kpp b W W') ∨ (e = .returned (.bool false) ∧ Jx (pre ++ [x]) W'))
    (W : World) (hJ : ∀ s A B, J s A → A.grownBy B none → J s B) (hv : RowOk b W) (hb : b < W.heap.size)
    (q3 : W.heap[B3]? = some (.cells #[.int .i64 K, .int .i64 M, .int .i64 G, .int .i64 unit, .int .i64 size] 74 (0, 0)))
    (q4 : W.heap[B4]? = some (.cells #[.int .i64 fr] 2 (0, 0))) (q5 : W.heap[B5]? = some (.cells #[.int .i64 count] 2 (0, 0)))
    (r3 : rowAt W b ≠ some B3) (h0 : J [] W) (hcnt : count < size - fr) :
    CallsIn Fence.wide n Try.prog 73 #[.func (.yield l) #[] #[], .pointer (some ⟨B4, 0, none⟩), .pointer (some ⟨B3, 0, none⟩), .pointer (some ⟨B5, 0, none⟩)] W fun e W' => (∃ v, e = .returned v) ∧
      ((∃ ys, ys = rgAll K unit size fr count ∧ J ys W') ∨ (∃ pre, True ∧ Jx pre W')) := by
  have c30 : W.cell? ⟨B3, 0, none⟩ = some (.int .i64 K) := by simp [World.cell?, q3]
  have c33 : W.cell? ⟨B3, 3, none⟩ = some (.int .i64 unit) := by simp [World.cell?, q3]
  have c34 : W.cell? ⟨B3, 4, none⟩ = some (.int .i64 size) := by simp [World.cell?, q3]
  have c40 : W.cell? ⟨B4, 0, none⟩ = some (.int .i64 fr) := by simp [World.cell?, q4]
  have c50 : W.cell? ⟨B5, 0, none⟩ = some (.int .i64 count) := by simp [World.cell?, q5]
  have hE : rgAll K unit size fr count = rgList K unit (fr + count) size.toNat fr := by
    unfold rgAll rgEnd
    rw [if_neg (by omega)]; rw [if_pos hcnt]
  refine callsIn_of_wp Try.func73 rfl trivial ?_ rfl
  simp only [Try.ntmps73, List.size_toArray, List.length_cons, List.length_nil, Nat.reduceAdd, Nat.reduceSub, Array.replicate_succ, Array.replicate_zero, List.push_toArray, List.append_toArray, List.nil_append, List.cons_append]
  have H0 := Lib.hid h0; clear h0
  have HN := Lib.hid hN; clear hN
  have Q3 := Lib.hid q3; clear q3
  clear q4 q5
  have HE := Lib.hid hE; clear hE
  have HJ := Lib.hid hJ; clear hJ
  have HY := Lib.hid hY; clear hY
  have hKU1 : 1 ≤ K * unit := by have := Int.mul_le_mul hK hu (by omega) (by omega); omega
  have hKU2 : K * unit ≤ 131072 := by have := Int.mul_le_mul hK' hu' (by omega) (by omega); omega
  gi_wp2
  gi_loopw [6] (fun v6 wr => ∃ (pre : List S43) (a : Int) (d : Nat), v6 = .int .i64 a ∧ 0 ≤ a ∧ a ≤ 200000 ∧ (fr + count) - a ≤ d ∧ Hid (rgAll K unit size fr count = pre ++ rgList K unit (fr + count) d a) ∧ Hid (J pre wr) ∧ RowOk b wr ∧ b < wr.heap.size ∧
      Hid (wr.heap[B3]? = some (.cells #[.int .i64 K, .int .i64 M, .int .i64 G, .int .i64 unit, .int .i64 size] 74 (0, 0))) ∧ rowAt wr b ≠ some B3)
      (fun v6 _ => (200000 - intOf v6).toNat)
  case atStart => exact ⟨[], fr, size.toNat, rfl, hf, by omega, by omega, HE, H0, hv, hb, Q3, r3⟩
  case round =>
    clear H0 Q3 r3 hv hb HE c30 c33 c34 c40 c50
    obtain ⟨pre, a, d, rfl, ha0, ha1, hd, hx, hJs, hv, hb, Q3, r3⟩ := hrel
    by_cases hlt : a < (fr + count)
    · have c30 : wr.cell? ⟨B3, 0, none⟩ = some (.int .i64 K) := by simp [World.cell?, Q3.out]
      have c33 : wr.cell? ⟨B3, 3, none⟩ = some (.int .i64 unit) := by simp [World.cell?, Q3.out]
      have hB3 : B3 < wr.heap.size := (Array.getElem?_eq_some_iff.1 Q3.out).1
      have c30a : ∀ o, (wr.alloc o).cell? ⟨B3, 0, none⟩ = some (.int .i64 K) := fun o => (World.cell?_alloc_lt wr (a := ⟨B3, 0, none⟩) (o := o) hB3).trans c30
      have c33a : ∀ o, (wr.alloc o).cell? ⟨B3, 3, none⟩ = some (.int .i64 unit) := fun o => (World.cell?_alloc_lt wr (a := ⟨B3, 3, none⟩) (o := o) hB3).trans c33
      have hm0 : 0 ≤ a % (K * unit) := Int.emod_nonneg _ (by omega)
      have hm1 : a % (K * unit) < K * unit := Int.emod_lt_of_pos _ (by omega)
      have hd0 : 0 ≤ a / (K * unit) := Int.ediv_nonneg ha0 (by omega)
      have hd1 : a / (K * unit) ≤ a := Int.ediv_le_self _ ha0
      have hz0 : 0 ≤ a % unit := Int.emod_nonneg _ (by omega)
      have hz1 : a % unit < unit := Int.emod_lt_of_pos _ (by omega)
      have hlen : pre.length < N := by rw [← HN.out, hx.out]; cases d with | zero => omega | succ d => simp [rgList, hlt]
      obtain ⟨d, rfl⟩ : ∃ m, d = m + 1 := ⟨d - 1, by omega⟩
      by_cases hmin : (fr + count) - a < unit - a % unit
      · have HO : Hid (rgOne K unit (fr + count) a = ⟨a / (K * unit), a % (K * unit) / unit, a % unit, (fr + count) - a⟩) := by
          show rgOne K unit (fr + count) a = _
          simp only [rgOne, mn]; rw [if_pos hmin]
        gi_wp2
        gi_region
        obtain ⟨W1, hW1⟩ : ∃ W1, W1 = (wr.alloc (.cells #[.int .i64 (a / (K * unit)), .int .i64 (a % (K * unit) / unit), .int .i64 (a % unit), .int .i64 ((fr + count) - a)] 43)).drew := ⟨_, rfl⟩
        have hs1 : W1.heap.size = wr.heap.size + 1 := by rw [hW1]; show (wr.alloc _).heap.size = _; simp
        have hq1 : W1.heap[wr.heap.size]? = some (.cells #[.int .i64 (a / (K * unit)), .int .i64 (a % (K * unit) / unit), .int .i64 (a % unit), .int .i64 ((fr + count) - a)] 43) := by rw [hW1]; exact World.alloc_heap_new wr _
        have hg1 : wr.grownBy W1 none := by rw [hW1]; exact grown_drew1 (World.grownBy_alloc wr _ none)
        have hb1 : rowAt W1 b = rowAt wr b := rowAt_eq (hg1.block b hb (by simp))
        have hv1 : RowOk b W1 := fun r e => by rw [hb1] at e; have := hv r e; omega
        obtain ⟨fn, tmps, assign, body, hy, hR⟩ := HY.out pre ⟨a / (K * unit), a % (K * unit) / unit, a % unit, (fr + count) - a⟩ W1 (HJ.out pre wr W1 hJs.out hg1) hlen
        have HR := Lib.hid hR; clear hR
        have Hq1 := Lib.hid hq1; clear hq1
        have Hs1 := Lib.hid hs1; clear hs1
        have Hb1 := Lib.hid hb1; clear hb1
        dsimp only at hy
        rw [hW1] at hy
        have HW1 := Lib.hid hW1; clear hW1
        gi_wp2
        rw [← HW1.out]
        refine HR.out.mono ?_
        rintro e W3 (⟨rfl, hJ3, hk3⟩ | ⟨rfl, hJx3⟩)
        · obtain ⟨hv3, hk⟩ := hk3 hv1
          have q33 : W3.heap[wr.heap.size]? = some (.cells #[.int .i64 (a / (K * unit)), .int .i64 (a % (K * unit) / unit), .int .i64 (a % unit), .int .i64 ((fr + count) - a)] 43) :=
            hk.same _ _ Hq1.out rfl (by omega) (fun e => by rw [Hb1.out] at e; have := hv _ e; omega)
          have c33' : W3.cell? ⟨wr.heap.size, 3, none⟩ = some (.int .i64 ((fr + count) - a)) := by simp [World.cell?, q33]
          have Q33 := Lib.hid q33; clear q33
          have Q3' : Hid (W3.heap[B3]? = some (.cells #[.int .i64 K, .int .i64 M, .int .i64 G, .int .i64 unit, .int .i64 size] 74 (0, 0))) :=
            hk.same _ _ ((hg1.block B3 hB3 (by simp)).trans Q3.out) rfl h3 (fun e => r3 (Hb1.out.symm.trans e))
          have r3' : rowAt W3 b ≠ some B3 := fun e => by
            rcases (hk.row _ e).1 with h | h
            · exact r3 (Hb1.out.symm.trans h)
            · have := Hs1.out; omega
          have hs3 : b < W3.heap.size := by have := hk.size; have := Hs1.out; omega
          have hx' : Hid (rgAll K unit size fr count = (pre ++ [⟨a / (K * unit), a % (K * unit) / unit, a % unit, (fr + count) - a⟩]) ++ rgList K unit (fr + count) d (a + ((fr + count) - a))) := by
            show _ = _
            rw [hx.out]; simp only [rgList]; rw [if_pos hlt, HO.out]; simp
          have hJ3' := Lib.hid hJ3; clear hJ3
          clear hk hk3 r3 Q3 c30 c33 c30a c33a hv hb hx hJs hy
          gi_wp2
          go_roundw
          case rel => exact ⟨_, a + ((fr + count) - a), d, rfl, by omega, by omega, by omega, hx', hJ3', hv3, hs3, Q3', r3'⟩
          case measure => simp [intOf]; omega
        · gi_wp2
          refine bodyPost_ret (results_none rfl _ _ _) rfl ?_
          exact ⟨⟨_, rfl⟩, .inr ⟨_, trivial, hJx3⟩⟩
      · have HO : Hid (rgOne K unit (fr + count) a = ⟨a / (K * unit), a % (K * unit) / unit, a % unit, unit - a % unit⟩) := by
          show rgOne K unit (fr + count) a = _
          simp only [rgOne, mn]; rw [if_neg hmin]
        gi_wp2
        gi_region
        obtain ⟨W1, hW1⟩ : ∃ W1, W1 = (wr.alloc (.cells #[.int .i64 (a / (K * unit)), .int .i64 (a % (K * unit) / unit), .int .i64 (a % unit), .int .i64 (unit - a % unit)] 43)).drew := ⟨_, rfl⟩
        have hs1 : W1.heap.size = wr.heap.size + 1 := by rw [hW1]; show (wr.alloc _).heap.size = _; simp
        have hq1 : W1.heap[wr.heap.size]? = some (.cells #[.int .i64 (a / (K * unit)), .int .i64 (a % (K * unit) / unit), .int .i64 (a % unit), .int .i64 (unit - a % unit)] 43) := by rw [hW1]; exact World.alloc_heap_new wr _
        have hg1 : wr.grownBy W1 none := by rw [hW1]; exact grown_drew1 (World.grownBy_alloc wr _ none)
        have hb1 : rowAt W1 b = rowAt wr b := rowAt_eq (hg1.block b hb (by simp))
        have hv1 : RowOk b W1 := fun r e => by rw [hb1] at e; have := hv r e; omega
        obtain ⟨fn, tmps, assign, body, hy, hR⟩ := HY.out pre ⟨a / (K * unit), a % (K * unit) / unit, a % unit, unit - a % unit⟩ W1 (HJ.out pre wr W1 hJs.out hg1) hlen
        have HR := Lib.hid hR; clear hR
        have Hq1 := Lib.hid hq1; clear hq1
        have Hs1 := Lib.hid hs1; clear hs1
        have Hb1 := Lib.hid hb1; clear hb1
        dsimp only at hy
        rw [hW1] at hy
        have HW1 := Lib.hid hW1; clear hW1
        gi_wp2
        rw [← HW1.out]
        refine HR.out.mono ?_
        rintro e W3 (⟨rfl, hJ3, hk3⟩ | ⟨rfl, hJx3⟩)
        · obtain ⟨hv3, hk⟩ := hk3 hv1
          have q33 : W3.heap[wr.heap.size]? = some (.cells #[.int .i64 (a / (K * unit)), .int .i64 (a % (K * unit) / unit), .int .i64 (a % unit), .int .i64 (unit - a % unit)] 43) :=
            hk.same _ _ Hq1.out rfl (by omega) (fun e => by rw [Hb1.out] at e; have := hv _ e; omega)
          have c33' : W3.cell? ⟨wr.heap.size, 3, none⟩ = some (.int .i64 (unit - a % unit)) := by simp [World.cell?, q33]
          have Q33 := Lib.hid q33; clear q33
          have Q3' : Hid (W3.heap[B3]? = some (.cells #[.int .i64 K, .int .i64 M, .int .i64 G, .int .i64 unit, .int .i64 size] 74 (0, 0))) :=
            hk.same _ _ ((hg1.block B3 hB3 (by simp)).trans Q3.out) rfl h3 (fun e => r3 (Hb1.out.symm.trans e))
          have r3' : rowAt W3 b ≠ some B3 := fun e => by
            rcases (hk.row _ e).1 with h | h
            · exact r3 (Hb1.out.symm.trans h)
            · have := Hs1.out; omega
          have hs3 : b < W3.heap.size := by have := hk.size; have := Hs1.out; omega
          have hx' : Hid (rgAll K unit size fr count = (pre ++ [⟨a / (K * unit), a % (K * unit) / unit, a % unit, unit - a % unit⟩]) ++ rgList K unit (fr + count) d (a + (unit - a % unit))) := by
            show _ = _
            rw [hx.out]; simp only [rgList]; rw [if_pos hlt, HO.out]; simp
          have hJ3' := Lib.hid hJ3; clear hJ3
          clear hk hk3 r3 Q3 c30 c33 c30a c33a hv hb hx hJs hy
          gi_wp2
          go_roundw
          case rel => exact ⟨_, a + (unit - a % unit), d, rfl, by omega, by omega, by omega, hx', hJ3', hv3, hs3, Q3', r3'⟩
          case measure => simp [intOf]; omega
        · gi_wp2
          refine bodyPost_ret (results_none rfl _ _ _) rfl ?_
          exact ⟨⟨_, rfl⟩, .inr ⟨_, trivial, hJx3⟩⟩
    · gi_wp2
      go_end0
      refine ⟨⟨_, rfl⟩, .inl ?_⟩
      have hh := hx.out
      rw [rgList_stop K unit ((fr + count)) d a (by omega), List.append_nil] at hh
      rw [hh]; exact hJs.out
set_option maxRecDepth 100000 in
set_option maxHeartbeats 1000000 in
theorem ranges1_ge (n : Nat) (hn : 1 ≤ n) (l b B3 B4 B5 N : Nat) (K M G unit size fr count : Int) (J Jx : List S43 → World → Prop)
    (hK : 1 ≤ K) (hK' : K ≤ 32) (hu : 1 ≤ unit) (hu' : unit ≤ 4096) (hs : 0 ≤ size) (hs' : size ≤ 100000) (hf : 0 ≤ fr) (hf' : fr < size) (hc : 0 ≤ count)
    (hN : (rgAll K unit size fr count).length = N) (h3 : B3 ≠ b)
    (hY : ∀ pre x W, J pre W → pre.length < N → YieldAt Fence.wide (n - 1) Try.prog l #[.agg #[.int .i64 x.f0, .int .i64 x.f1, .int .i64 x.f2, .int .i64 x.f3]] W fun e W' =>
      (e = .returned (.bool true) ∧ J (pre ++ [x]) W' ∧ Kpp b W W') ∨ (e = .returned (.bool false) ∧ Jx (pre ++ [x]) W'))
    (W : World) (hJ : ∀ s A B, J s A → A.grownBy B none → J s B) (hv : RowOk b W) (hb : b < W.heap.size)
    (q3 : W.heap[B3]? = some (.cells #[.int .i64 K, .int .i64 M, .int .i64 G, .int .i64 unit, .int .i64 size] 74 (0, 0)))
    (q4 : W.heap[B4]? = some (.cells #[.int .i64 fr] 2 (0, 0))) (q5 : W.heap[B5]? = some (.cells #[.int .i64 count] 2 (0, 0)))
    (r3 : rowAt W b ≠ some B3) (h0 : J [] W) (hcnt : ¬ count < size - fr) :
    CallsIn Fence.wide n Try.prog 73 #[.func (.yield l) #[] #[], .pointer (some ⟨B4, 0, none⟩), .pointer (some ⟨B3, 0, none⟩), .pointer (some ⟨B5, 0, none⟩)] W fun e W' => (∃ v, e = .returned v) ∧
      ((∃ ys, ys = rgAll K unit size fr count ∧ J ys W') ∨ (∃ pre, True ∧ Jx pre W')) := by
  have c30 : W.cell? ⟨B3, 0, none⟩ = some (.int .i64 K) := by simp [World.cell?, q3]
  have c33 : W.cell? ⟨B3, 3, none⟩ = some (.int .i64 unit) := by simp [World.cell?, q3]
  have c34 : W.cell? ⟨B3, 4, none⟩ = some (.int .i64 size) := by simp [World.cell?, q3]
  have c40 : W.cell? ⟨B4, 0, none⟩ = some (.int .i64 fr) := by simp [World.cell?, q4]
  have c50 : W.cell? ⟨B5, 0, none⟩ = some (.int .i64 count) := by simp [World.cell?, q5]
  have hE : rgAll K unit size fr count = rgList K unit size size.toNat fr := by
    unfold rgAll rgEnd
    rw [if_neg (by omega)]; rw [if_neg hcnt]
  refine callsIn_of_wp Try.func73 rfl trivial ?_ rfl
  simp only [Try.ntmps73, List.size_toArray, List.length_cons, List.length_nil, Nat.reduceAdd, Nat.reduceSub, Array.replicate_succ, Array.replicate_zero, List.push_toArray, List.append_toArray, List.nil_append, List.cons_append]
  have H0 := Lib.hid h0; clear h0
  have HN := Lib.hid hN; clear hN
  have Q3 := Lib.hid q3; clear q3
  clear q4 q5
  have HE := Lib.hid hE; clear hE
  have HJ := Lib.hid hJ; clear hJ
  have HY := Lib.hid hY; clear hY
  have hKU1 : 1 ≤ K * unit := by have := Int.mul_le_mul hK hu (by omega) (by omega); omega
  have hKU2 : K * unit ≤ 131072 := by have := Int.mul_le_mul hK' hu' (by omega) (by omega); omega
  gi_wp2
  gi_loopw [6] (fun v6 wr => ∃ (pre : List S43) (a : Int) (d : Nat), v6 = .int .i64 a ∧ 0 ≤ a ∧ a ≤ 200000 ∧ size - a ≤ d ∧ Hid (rgAll K unit size fr count = pre ++ rgList K unit size d a) ∧ Hid (J pre wr) ∧ RowOk b wr ∧ b < wr.heap.size ∧
      Hid (wr.heap[B3]? = some (.cells #[.int .i64 K, .int .i64 M, .int .i64 G, .int .i64 unit, .int .i64 size] 74 (0, 0))) ∧ rowAt wr b ≠ some B3)
      (fun v6 _ => (200000 - intOf v6).toNat)
  case atStart => exact ⟨[], fr, size.toNat, rfl, hf, by omega, by omega, HE, H0, hv, hb, Q3, r3⟩
  case round =>
    clear H0 Q3 r3 hv hb HE c30 c33 c34 c40 c50
    obtain ⟨pre, a, d, rfl, ha0, ha1, hd, hx, hJs, hv, hb, Q3, r3⟩ := hrel
    by_cases hlt : a < size
    · have c30 : wr.cell? ⟨B3, 0, none⟩ = some (.int .i64 K) := by simp [World.cell?, Q3.out]
      have c33 : wr.cell? ⟨B3, 3, none⟩ = some (.int .i64 unit) := by simp [World.cell?, Q3.out]
      have hB3 : B3 < wr.heap.size := (Array.getElem?_eq_some_iff.1 Q3.out).1
      have c30a : ∀ o, (wr.alloc o).cell? ⟨B3, 0, none⟩ = some (.int .i64 K) := fun o => (World.cell?_alloc_lt wr (a := ⟨B3, 0, none⟩) (o := o) hB3).trans c30
      have c33a : ∀ o, (wr.alloc o).cell? ⟨B3, 3, none⟩ = some (.int .i64 unit) := fun o => (World.cell?_alloc_lt wr (a := ⟨B3, 3, none⟩) (o := o) hB3).trans c33
      have hm0 : 0 ≤ a % (K * unit) := Int.emod_nonneg _ (by omega)
      have hm1 : a % (K * unit) < K * unit := Int.emod_lt_of_pos _ (by omega)
      have hd0 : 0 ≤ a / (K * unit) := Int.ediv_nonneg ha0 (by omega)
      have hd1 : a / (K * unit) ≤ a := Int.ediv_le_self _ ha0
      have hz0 : 0 ≤ a % unit := Int.emod_nonneg _ (by omega)
      have hz1 : a % unit < unit := Int.emod_lt_of_pos _ (by omega)
      have hlen : pre.length < N := by rw [← HN.out, hx.out]; cases d with | zero => omega | succ d => simp [rgList, hlt]
      obtain ⟨d, rfl⟩ : ∃ m, d = m + 1 := ⟨d - 1, by omega⟩
      by_cases hmin : size - a < unit - a % unit
      · have HO : Hid (rgOne K unit size a = ⟨a / (K * unit), a % (K * unit) / unit, a % unit, size - a⟩) := by
          show rgOne K unit size a = _
          simp only [rgOne, mn]; rw [if_pos hmin]
        gi_wp2
        gi_region
        obtain ⟨W1, hW1⟩ : ∃ W1, W1 = (wr.alloc (.cells #[.int .i64 (a / (K * unit)), .int .i64 (a % (K * unit) / unit), .int .i64 (a % unit), .int .i64 (size - a)] 43)).drew := ⟨_, rfl⟩
        have hs1 : W1.heap.size = wr.heap.size + 1 := by rw [hW1]; show (wr.alloc _).heap.size = _; simp
        have hq1 : W1.heap[wr.heap.size]? = some (.cells #[.int .i64 (a / (K * unit)), .int .i64 (a % (K * unit) / unit), .int .i64 (a % unit), .int .i64 (size - a)] 43) := by rw [hW1]; exact World.alloc_heap_new wr _
        have hg1 : wr.grownBy W1 none := by rw [hW1]; exact grown_drew1 (World.grownBy_alloc wr _ none)
        have hb1 : rowAt W1 b = rowAt wr b := rowAt_eq (hg1.block b hb (by simp))
        have hv1 : RowOk b W1 := fun r e => by rw [hb1] at e; have := hv r e; omega
        obtain ⟨fn, tmps, assign, body, hy, hR⟩ := HY.out pre ⟨a / (K * unit), a % (K * unit) / unit, a % unit, size - a⟩ W1 (HJ.out pre wr W1 hJs.out hg1) hlen
        have HR := Lib.hid hR; clear hR
        have Hq1 := Lib.hid hq1; clear hq1
        have Hs1 := Lib.hid hs1; clear hs1
        have Hb1 := Lib.hid hb1; clear hb1
        dsimp only at hy
        rw [hW1] at hy
        have HW1 := Lib.hid hW1; clear hW1
        gi_wp2
        rw [← HW1.out]
        refine HR.out.mono ?_
        rintro e W3 (⟨rfl, hJ3, hk3⟩ | ⟨rfl, hJx3⟩)
        · obtain ⟨hv3, hk⟩ := hk3 hv1
          have q33 : W3.heap[wr.heap.size]? = some (.cells #[.int .i64 (a / (K * unit)), .int .i64 (a % (K * unit) / unit), .int .i64 (a % unit), .int .i64 (size - a)] 43) :=
            hk.same _ _ Hq1.out rfl (by omega) (fun e => by rw [Hb1.out] at e; have := hv _ e; omega)
          have c33' : W3.cell? ⟨wr.heap.size, 3, none⟩ = some (.int .i64 (size - a)) := by simp [World.cell?, q33]
          have Q33 := Lib.hid q33; clear q33
          have Q3' : Hid (W3.heap[B3]? = some (.cells #[.int .i64 K, .int .i64 M, .int .i64 G, .int .i64 unit, .int .i64 size] 74 (0, 0))) :=
            hk.same _ _ ((hg1.block B3 hB3 (by simp)).trans Q3.out) rfl h3 (fun e => r3 (Hb1.out.symm.trans e))
          have r3' : rowAt W3 b ≠ some B3 := fun e => by
            rcases (hk.row _ e).1 with h | h
            · exact r3 (Hb1.out.symm.trans h)
            · have := Hs1.out; omega
          have hs3 : b < W3.heap.size := by have := hk.size; have := Hs1.out; omega
          have hx' : Hid (rgAll K unit size fr count = (pre ++ [⟨a / (K * unit), a % (K * unit) / unit, a % unit, size - a⟩]) ++ rgList K unit size d (a + (size - a))) := by
            show _ = _
            rw [hx.out]; simp only [rgList]; rw [if_pos hlt, HO.out]; simp
          have hJ3' := Lib.hid hJ3; clear hJ3
          clear hk hk3 r3 Q3 c30 c33 c30a c33a hv hb hx hJs hy
          gi_wp2
          go_roundw
          case rel => exact ⟨_, a + (size - a), d, rfl, by omega, by omega, by omega, hx', hJ3', hv3, hs3, Q3', r3'⟩
          case measure => simp [intOf]; omega
        · gi_wp2
          refine bodyPost_ret (results_none rfl _ _ _) rfl ?_
          exact ⟨⟨_, rfl⟩, .inr ⟨_, trivial, hJx3⟩⟩
      · have HO : Hid (rgOne K unit size a = ⟨a / (K * unit), a % (K * unit) / unit, a % unit, unit - a % unit⟩) := by
          show rgOne K unit size a = _
          simp only [rgOne, mn]; rw [if_neg hmin]
        gi_wp2
        gi_region
        obtain ⟨W1, hW1⟩ : ∃ W1, W1 = (wr.alloc (.cells #[.int .i64 (a / (K * unit)), .int .i64 (a % (K * unit) / unit), .int .i64 (a % unit), .int .i64 (unit - a % unit)] 43)).drew := ⟨_, rfl⟩
        have hs1 : W1.heap.size = wr.heap.size + 1 := by rw [hW1]; show (wr.alloc _).heap.size = _; simp
        have hq1 : W1.heap[wr.heap.size]? = some (.cells #[.int .i64 (a / (K * unit)), .int .i64 (a % (K * unit) / unit), .int .i64 (a % unit), .int .i64 (unit - a % unit)] 43) := by rw [hW1]; exact World.alloc_heap_new wr _
        have hg1 : wr.grownBy W1 none := by rw [hW1]; exact grown_drew1 (World.grownBy_alloc wr _ none)
        have hb1 : rowAt W1 b = rowAt wr b := rowAt_eq (hg1.block b hb (by simp))
        have hv1 : RowOk b W1 := fun r e => by rw [hb1] at e; have := hv r e; omega
        obtain ⟨fn, tmps, assign, body, hy, hR⟩ := HY.out pre ⟨a / (K * unit), a % (K * unit) / unit, a % unit, unit - a % unit⟩ W1 (HJ.out pre wr W1 hJs.out hg1) hlen
        have HR := Lib.hid hR; clear hR
        have Hq1 := Lib.hid hq1; clear hq1
        have Hs1 := Lib.hid hs1; clear hs1
        have Hb1 := Lib.hid hb1; clear hb1
        dsimp only at hy
        rw [hW1] at hy
        have HW1 := Lib.hid hW1; clear hW1
        gi_wp2
        rw [← HW1.out]
        refine HR.out.mono ?_
        rintro e W3 (⟨rfl, hJ3, hk3⟩ | ⟨rfl, hJx3⟩)
        · obtain ⟨hv3, hk⟩ := hk3 hv1
          have q33 : W3.heap[wr.heap.size]? = some (.cells #[.int .i64 (a / (K * unit)), .int .i64 (a % (K * unit) / unit), .int .i64 (a % unit), .int .i64 (unit - a % unit)] 43) :=
            hk.same _ _ Hq1.out rfl (by omega) (fun e => by rw [Hb1.out] at e; have := hv _ e; omega)
          have c33' : W3.cell? ⟨wr.heap.size, 3, none⟩ = some (.int .i64 (unit - a % unit)) := by simp [World.cell?, q33]
          have Q33 := Lib.hid q33; clear q33
          have Q3' : Hid (W3.heap[B3]? = some (.cells #[.int .i64 K, .int .i64 M, .int .i64 G, .int .i64 unit, .int .i64 size] 74 (0, 0))) :=
            hk.same _ _ ((hg1.block B3 hB3 (by simp)).trans Q3.out) rfl h3 (fun e => r3 (Hb1.out.symm.trans e))
          have r3' : rowAt W3 b ≠ some B3 := fun e => by
            rcases (hk.row _ e).1 with h | h
            · exact r3 (Hb1.out.symm.trans h)
            · have := Hs1.out; omega
          have hs3 : b < W3.heap.size := by have := hk.size; have := Hs1.out; omega
          have hx' : Hid (rgAll K unit size fr count = (pre ++ [⟨a / (K * unit), a % (K * unit) / unit, a % unit, unit - a % unit⟩]) ++ rgList K unit size d (a + (unit - a % unit))) := by
            show _ = _
            rw [hx.out]; simp only [rgList]; rw [if_pos hlt, HO.out]; simp
          have hJ3' := Lib.hid hJ3; clear hJ3
          clear hk hk3 r3 Q3 c30 c33 c30a c33a hv hb hx hJs hy
          gi_wp2
          go_roundw
          case rel => exact ⟨_, a + (unit - a % unit), d, rfl, by omega, by omega, by omega, hx', hJ3', hv3, hs3, Q3', r3'⟩
          case measure => simp [intOf]; omega
        · gi_wp2
          refine bodyPost_ret (results_none rfl _ _ _) rfl ?_
          exact ⟨⟨_, rfl⟩, .inr ⟨_, trivial, hJx3⟩⟩
    · gi_wp2
      go_end0
      refine ⟨⟨_, rfl⟩, .inl ?_⟩
      have hh := hx.out
      rw [rgList_stop K unit (size) d a (by omega), List.append_nil] at hh
      rw [hh]; exact hJs.out
set_option maxRecDepth 100000 in
set_option maxHeartbeats 1000000 in
theorem ranges1_none (n : Nat) (hn : 1 ≤ n) (l B3 B4 B5 : Nat) (K M G unit size fr count : Int) (J Jx : List S43 → World → Prop) (hf : size ≤ fr) (W : World)
    (q3 : W.heap[B3]? = some (.cells #[.int .i64 K, .int .i64 M, .int .i64 G, .int .i64 unit, .int .i64 size] 74 (0, 0)))
    (q4 : W.heap[B4]? = some (.cells #[.int .i64 fr] 2 (0, 0))) (h0 : J [] W) :
    CallsIn Fence.wide n Try.prog 73 #[.func (.yield l) #[] #[], .pointer (some ⟨B4, 0, none⟩), .pointer (some ⟨B3, 0, none⟩), .pointer (some ⟨B5, 0, none⟩)] W fun e W' => (∃ v, e = .returned v) ∧
      ((∃ ys, ys = rgAll K unit size fr count ∧ J ys W') ∨ (∃ pre, True ∧ Jx pre W')) := by
  have c34 : W.cell? ⟨B3, 4, none⟩ = some (.int .i64 size) := by simp [World.cell?, q3]
  have c40 : W.cell? ⟨B4, 0, none⟩ = some (.int .i64 fr) := by simp [World.cell?, q4]
  have hE : rgAll K unit size fr count = [] := by
    unfold rgAll
    rw [if_pos (by omega)]
  refine callsIn_of_wp Try.func73 rfl trivial ?_ rfl
  simp only [Try.ntmps73, List.size_toArray, List.length_cons, List.length_nil, Nat.reduceAdd, Nat.reduceSub, Array.replicate_succ, Array.replicate_zero, List.push_toArray, List.append_toArray, List.nil_append, List.cons_append]
  have H0 := Lib.hid h0; clear h0
  have HE := Lib.hid hE; clear hE
  clear q3 q4
  gi_wp2
  refine bodyPost_ret (results_none rfl _ _ _) rfl ?_
  exact ⟨⟨_, rfl⟩, .inl ⟨_, HE.out.symm, H0.out⟩⟩

theorem ranges_stops (n : Nat) (hn : 1 ≤ n) (b B3 B4 B5 : Nat) (K M G unit size fr count : Int)
    (hK : 1 ≤ K) (hK' : K ≤ 32) (hu : 1 ≤ unit) (hu' : unit ≤ 4096) (hs : 0 ≤ size) (hs' : size ≤ 100000) (hf : 0 ≤ fr) (hc : 0 ≤ count)
    (h3 : B3 ≠ b) (w : World) (hv : RowOk b w) (hb : b < w.heap.size)
    (q3 : w.heap[B3]? = some (.cells #[.int .i64 K, .int .i64 M, .int .i64 G, .int .i64 unit, .int .i64 size] 74 (0, 0)))
    (q4 : w.heap[B4]? = some (.cells #[.int .i64 fr] 2 (0, 0))) (q5 : w.heap[B5]? = some (.cells #[.int .i64 count] 2 (0, 0)))
    (r3 : rowAt w b ≠ some B3) :
    SeqStopsK Fence.wide n Try.prog 73 #[.pointer (some ⟨B4, 0, none⟩), .pointer (some ⟨B3, 0, none⟩), .pointer (some ⟨B5, 0, none⟩)]
      (fun x : S43 => #[.agg #[.int .i64 x.f0, .int .i64 x.f1, .int .i64 x.f2, .int .i64 x.f3]]) (Kpp b) (fun ys => ys = rgAll K unit size fr count) (fun _ => True) (rgAll K unit size fr count).length w := by
  intro l J Jx W hW hJ hJx hY h0
  have lt : ∀ k o, w.heap[k]? = some o → W.heap[k]? = some o := fun k o h => (hW.block k (Array.getElem?_eq_some_iff.1 h).1).trans h
  have hrb : rowAt W b = rowAt w b := rowAt_eq (hW.block b hb)
  have hJ' : ∀ s A B, J s A → A.grownBy B none → J s B := fun s A B h hg => hJ s A B none h hg (fun r e => by cases e)
  have hv' : RowOk b W := fun r e => by rw [hrb] at e; exact Nat.lt_of_lt_of_le (hv r e) hW.size
  have hb' : b < W.heap.size := Nat.lt_of_lt_of_le hb hW.size
  have r3' : rowAt W b ≠ some B3 := by rw [hrb]; exact r3
  by_cases h : size ≤ fr
  · exact ranges1_none n hn l B3 B4 B5 K M G unit size fr count J Jx h W (lt _ _ q3) (lt _ _ q4) h0
  · by_cases hcnt : count < size - fr
    · exact ranges1_lt n hn l b B3 B4 B5 _ K M G unit size fr count J Jx hK hK' hu hu' hs hs' hf (by omega) hc rfl h3 hY W hJ' hv' hb' (lt _ _ q3) (lt _ _ q4) (lt _ _ q5) r3' h0 hcnt
    · exact ranges1_ge n hn l b B3 B4 B5 _ K M G unit size fr count J Jx hK hK' hu hu' hs hs' hf (by omega) hc rfl h3 hY W hJ' hv' hb' (lt _ _ q3) (lt _ _ q4) (lt _ _ q5) r3' h0 hcnt

set_option maxHeartbeats 1000000 in
/-- 'cut.ranges': its three arguments are boxed; the function value captures the boxes. -/
theorem ranges_in (n : Nat) (K M G unit size fr count : Int) (w : World) :
    CallsIn Fence.wide n Try.prog 37 #[.agg #[.int .i64 K, .int .i64 M, .int .i64 G, .int .i64 unit, .int .i64 size], .int .i64 fr, .int .i64 count] w fun e w' =>
      e = .returned (.func (.func 73) #[] #[.pointer (some ⟨w.heap.size + 1, 0, none⟩), .pointer (some ⟨w.heap.size, 0, none⟩), .pointer (some ⟨w.heap.size + 1 + 1, 0, none⟩)]) ∧
      w' = ((w.alloc (.cells #[.int .i64 K, .int .i64 M, .int .i64 G, .int .i64 unit, .int .i64 size] 74)).alloc (.cells #[.int .i64 fr] 2)).alloc (.cells #[.int .i64 count] 2) := by
  refine callsIn_of_wp Try.func37 rfl trivial ?_ rfl
  simp only [Try.ntmps37, List.size_toArray, List.length_cons, List.length_nil, Nat.reduceAdd, Nat.reduceSub, Array.replicate_succ, Array.replicate_zero, List.push_toArray, List.append_toArray, List.nil_append, List.cons_append]
  gi_wp2
  go_ret
  exact ⟨rfl, rfl⟩
end Go.Proofs.Ythollhmhcnpfiaa.QA
