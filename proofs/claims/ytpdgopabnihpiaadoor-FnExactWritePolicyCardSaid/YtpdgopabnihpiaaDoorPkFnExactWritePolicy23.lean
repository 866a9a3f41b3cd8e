/- Policies: the specification's PolicyFault is the program's, the whole. Policies written: joins, numerals, conditions. Policies written: both sides' text. Conditions: those that each theorem states. -/
import Derived.Test.YtpdgopabnihpiaaDoorPkFnExactWritePolicy22
import Derived.Lib.ItoaMem
import Derived.Test.YtpdgopabnihpiaaDoorPkFnExactWritePolicy16
import Derived.Test.YtpdgopabnihpiaaDoorPkFnExactWritePolicy9
namespace Go.Proofs.YtpdgopabnihpiaaDoor.QA
open Go.RowKit Go.Proofs.YtpdgopabnihpiaaDoorW.PrintWords Go.Proofs.YtpdgopabnihpiaaDoorW.PrintLast Go.Proofs.YtpdgopabnihpiaaDoorW.PrintMore
set_option linter.unusedVariables false
set_option linter.unusedSimpArgs false

theorem emp_eq (t : ByteArray) : (t.toList = ([] : List UInt8)) = (t = ⟨#[]⟩) := by
 apply propext
 constructor
 ·intro e
  rw [ByteArray.toList_eq] at e
  exact ByteArray.ext (Array.ext' e)
 ·rintro rfl; rw [ByteArray.toList_eq]
def condOkB (c : S40) : Bool := !condB c.f0 c.f1 c.f2
def ifsB (l : List S40) : Bool := allL z40 condOkB l l.length
theorem ifs_l0 (l : List S40) (hl : l.length ≤ 1048576) : ∀ d i : Nat, i + d = l.length → allL z40 condOkB l i = true → Evn (fun k => spec_l09Ifs.l0 k l (i : Int)) (ifsB l)
 | 0, i, hi, ha => by
  obtain rfl : i = l.length := by omega
  refine (Evn.const _).step fun k => ?_
  unfold ifsB
  rw [spec_l09Ifs.l0, if_neg (by omega), ha]
 | d + 1, i, hi, ha => by
  have hbad : condOkB (l.getD i z40) = false → ifsB l = false := fun e => allL_false (show i < l.length by omega) e
  have hgood : condOkB (l.getD i z40) = true → Evn (fun k => spec_l09Ifs.l0 k l ((i + 1 : Nat) : Int)) (ifsB l) := fun e => ifs_l0 l hl d (i + 1) (by omega) (allL_step ha e)
  have hin : 0 ≤ (i : Int) ∧ (i : Int) < (l.length : Int) := by omega
  have hw := wn1 i (by omega)
  clear hi ha
  unfold condOkB condB at hbad hgood
  have hr := rd40 l i
  generalize l.getD i z40 = c at hr hbad hgood
  obtain ⟨c0, c1, c2⟩ := c
  dsimp only at hbad hgood
  by_cases hA : c0 = 1 ∨ c0 = 4
  ·simp only [if_pos hA] at hbad hgood
   have hs : ∀ k, spec_l09Ifs.l0 (k + 1) l (i : Int) = spec_l09Ifs.j1 k l (i : Int) c0 true c0 c1 c2 := fun k => by
    rw [spec_l09Ifs.l0, if_pos hin.2, if_pos hin.1, hr]
    dsimp only
    rcases hA with rfl | rfl
    ·rw [if_pos rfl]; rfl
    ·rw [if_neg (by decide)]; rfl
   obtain ⟨k1, e1⟩ := word_ev c1
   cases hp : plainB c1 0 with
   | false =>
    rw [hp] at e1 hbad
    rw [hbad (by split <;> rfl)]
    refine ⟨k1 + 2, fun k hk => ?_⟩
    obtain ⟨k, rfl⟩ : ∃ n, k = n + 1 + 1 := ⟨k - 2, by omega⟩
    show spec_l09Ifs.l0 (k + 1 + 1) _ _ = _
    rw [hs, spec_l09Ifs.j1, if_pos rfl]
    exact bind_step (e1 k (by omega)) (if_no (by decide) rfl)
   | true =>
    rw [hp] at e1 hbad hgood
    by_cases h0 : c2 = 0
    ·rw [if_pos h0] at hgood
     obtain ⟨k2, e2⟩ := hgood rfl
     refine ⟨k1 + k2 + 2, fun k hk => ?_⟩
     obtain ⟨k, rfl⟩ : ∃ n, k = n + 1 + 1 := ⟨k - 2, by omega⟩
     have e2' := e2 k (by omega)
     show spec_l09Ifs.l0 (k + 1 + 1) _ _ = _
     rw [hs, spec_l09Ifs.j1, if_pos rfl, hw]
     exact bind_step (e1 k (by omega)) (if_yes rfl (if_yes h0 e2'))
    ·rw [if_neg h0] at hbad
     rw [hbad rfl]
     refine ⟨k1 + 2, fun k hk => ?_⟩
     obtain ⟨k, rfl⟩ : ∃ n, k = n + 1 + 1 := ⟨k - 2, by omega⟩
     show spec_l09Ifs.l0 (k + 1 + 1) _ _ = _
     rw [hs, spec_l09Ifs.j1, if_pos rfl]
     exact bind_step (e1 k (by omega)) (if_yes rfl (if_no h0 rfl))
  ·simp only [if_neg hA] at hbad hgood
   have n1 : ¬ c0 = 1 := fun e => hA (.inl e)
   have n4 : ¬ c0 = 4 := fun e => hA (.inr e)
   have hs : ∀ k, spec_l09Ifs.l0 (k + 2) l (i : Int) = spec_l09Ifs.j2 k l (i : Int) (decide (c0 = 2 ∨ c0 = 3)) c0 c1 c2 := fun k => by
    rw [spec_l09Ifs.l0, if_pos hin.2, if_pos hin.1, hr]
    dsimp only
    rw [if_neg n1]
    have e4 : (c0 == 4) = false := beq_eq_false_iff_ne.2 n4
    rw [e4, spec_l09Ifs.j1, if_neg (by decide)]
    by_cases h2 : c0 = 2
    ·subst h2; rw [if_pos rfl]; rfl
    ·rw [if_neg h2]
     congr 1
     rw [Bool.eq_iff_iff, beq_iff_eq, decide_eq_true_iff]
     exact ⟨fun e => .inr e, fun e => e.resolve_left h2⟩
   by_cases hB : c0 = 2 ∨ c0 = 3
   ·simp only [if_pos hB] at hbad hgood
    rw [decide_eq_true hB] at hs
    by_cases ht : c1 = ⟨#[]⟩
    ·simp only [if_pos ht] at hbad hgood
     by_cases hn : c2 < 0
     ·simp only [if_pos hn] at hbad
      rw [hbad rfl]
      refine ⟨3, fun k hk => ?_⟩
      obtain ⟨k, rfl⟩ : ∃ n, k = n + 1 + 2 := ⟨k - 3, by omega⟩
      show spec_l09Ifs.l0 (k + 1 + 2) _ _ = _
      rw [hs, spec_l09Ifs.j2, if_pos rfl, if_pos ((emp_eq c1).symm ▸ ht), if_pos hn]
     ·simp only [if_neg hn] at hbad hgood
      by_cases hm : c2 > 4102444800
      ·rw [decide_eq_true hm] at hbad
       rw [hbad rfl]
       refine ⟨3, fun k hk => ?_⟩
       obtain ⟨k, rfl⟩ : ∃ n, k = n + 1 + 2 := ⟨k - 3, by omega⟩
       show spec_l09Ifs.l0 (k + 1 + 2) _ _ = _
       rw [hs, spec_l09Ifs.j2, if_pos rfl, if_pos ((emp_eq c1).symm ▸ ht), if_neg hn, if_pos hm]
      ·rw [decide_eq_false hm] at hgood
       obtain ⟨k2, e2⟩ := hgood rfl
       refine ⟨k2 + 3, fun k hk => ?_⟩
       obtain ⟨k, rfl⟩ : ∃ n, k = n + 1 + 2 := ⟨k - 3, by omega⟩
       have e2' := e2 k (by omega)
       show spec_l09Ifs.l0 (k + 1 + 2) _ _ = _
       rw [hs, spec_l09Ifs.j2, if_pos rfl, if_pos ((emp_eq c1).symm ▸ ht), if_neg hn, if_neg hm, hw]
       exact e2'
    ·simp only [if_neg ht] at hbad
     rw [hbad rfl]
     refine ⟨3, fun k hk => ?_⟩
     obtain ⟨k, rfl⟩ : ∃ n, k = n + 1 + 2 := ⟨k - 3, by omega⟩
     show spec_l09Ifs.l0 (k + 1 + 2) _ _ = _
     rw [hs, spec_l09Ifs.j2, if_pos rfl, if_neg (fun e => ht ((emp_eq c1) ▸ e))]
   ·simp only [if_neg hB] at hbad
    rw [decide_eq_false hB] at hs
    rw [hbad rfl]
    refine ⟨3, fun k hk => ?_⟩
    obtain ⟨k, rfl⟩ : ∃ n, k = n + 1 + 2 := ⟨k - 3, by omega⟩
    show spec_l09Ifs.l0 (k + 1 + 2) _ _ = _
    rw [hs, spec_l09Ifs.j2, if_neg (by decide)]
theorem ifs_ev (l : List S40) (hl : l.length ≤ 1048576) : Evn (fun k => spec_l09Ifs.f k l) (ifsB l) := ifs_l0 l hl l.length 0 (by omega) rfl
def rightB (s : S37) : Bool := (decide (s.f0 = 1) || decide (s.f0 = 2)) && (listB s.f1 && (listB s.f2 && (listB s.f3 && ifsB s.f4)))
theorem right_ev (s : S37) (hs : FitT s) : Evn (fun k => spec_l09Right.f k s.f0 s.f1 s.f2 s.f3 s.f4) (rightB s) := by
 obtain ⟨k1, e1⟩ := list_ev s.f1 hs.1
 obtain ⟨k2, e2⟩ := list_ev s.f2 hs.2.1
 obtain ⟨k3, e3⟩ := list_ev s.f3 hs.2.2.1
 obtain ⟨k4, e4⟩ := ifs_ev s.f4 hs.2.2.2
 refine ⟨k1 + k2 + k3 + k4, fun k hk => ?_⟩
 have e1 := e1 k (by omega)
 have e2 := e2 k (by omega)
 have e3 := e3 k (by omega)
 have e4 := e4 k (by omega)
 clear hk hs
 simp only at e1 e2 e3 e4
 show spec_l09Right.f k s.f0 s.f1 s.f2 s.f3 s.f4 = _
 unfold spec_l09Right.f rightB
 rw [e1, e2, e3, e4]
 simp only [Option.bind_some]
 by_cases h1 : s.f0 = 1
 ·rw [if_pos h1, decide_eq_true h1]
  cases listB s.f1 <;> cases listB s.f2 <;> cases listB s.f3 <;> cases ifsB s.f4 <;> rfl
 ·rw [if_neg h1, decide_eq_false h1]
  by_cases h2 : s.f0 = 2
  ·rw [if_pos h2, decide_eq_true h2]
   cases listB s.f1 <;> cases listB s.f2 <;> cases listB s.f3 <;> cases ifsB s.f4 <;> rfl
  ·rw [if_neg h2, decide_eq_false h2]; rfl
def okB (s : S37) : Bool := rightB s && decide (s.f4.length ≤ 10)
def polI (l : List S37) : Int := if l.length ≤ 50 ∧ allL z37 okB l l.length = true then 0 else 1
def allI (l : List S37) : Int := if allL z37 okB l l.length = true then 0 else 1
theorem polI_small {l : List S37} (h : l.length ≤ 50) : polI l = allI l := by
 unfold polI allI
 by_cases h2 : allL z37 okB l l.length = true
 ·rw [if_pos ⟨h, h2⟩, if_pos h2]
 ·rw [if_neg (fun e => h2 e.2), if_neg h2]
theorem fault_l0 (l : List S37) (hl : l.length ≤ 50) (hq : ∀ j, j < l.length → FitT (rd_T37 l (j : Int))) : ∀ d i : Nat, i + d = l.length → allL z37 okB l i = true → Evn (fun k => spec_PolicyFault.l0 k l (i : Int)) (allI l)
 | 0, i, hi, ha => by
  obtain rfl : i = l.length := by omega
  refine (Evn.const _).step fun k => ?_
  unfold allI
  rw [spec_PolicyFault.l0, if_neg (by omega), if_pos ha]
 | d + 1, i, hi, ha => by
  obtain ⟨k1, e1⟩ := right_ev _ (hq i (by omega))
  have hr := rd37 l i
  have hbad : okB (rd_T37 l (i : Int)) = false → allI l = 1 := fun e => by
   unfold allI
   rw [allL_false (show i < l.length by omega) (hr ▸ e)]; rfl
  have hgood : okB (rd_T37 l (i : Int)) = true → Evn (fun k => spec_PolicyFault.l0 k l ((i + 1 : Nat) : Int)) (allI l) := fun e => fault_l0 l hl hq d (i + 1) (by omega) (allL_step ha (hr ▸ e))
  cases hR : rightB (rd_T37 l (i : Int)) with
  | false =>
   rw [hR] at e1
   rw [hbad (by unfold okB; rw [hR]; rfl)]
   refine ⟨k1 + 1, fun k hk => ?_⟩
   obtain ⟨k, rfl⟩ : ∃ n, k = n + 1 := ⟨k - 1, by omega⟩
   show spec_PolicyFault.l0 (k + 1) _ _ = _
   rw [spec_PolicyFault.l0]
   exact if_yes (by omega) (if_yes (by omega) (bind_step (e1 k (by omega)) (if_no (by decide) rfl)))
  | true =>
   rw [hR] at e1
   by_cases h10 : (rd_T37 l (i : Int)).f4.length ≤ 10
   ·obtain ⟨k2, e2⟩ := hgood (by unfold okB; rw [hR, decide_eq_true h10]; rfl)
    refine ⟨k1 + k2 + 1, fun k hk => ?_⟩
    obtain ⟨k, rfl⟩ : ∃ n, k = n + 1 := ⟨k - 1, by omega⟩
    have e2' := e2 k (by omega)
    show spec_PolicyFault.l0 (k + 1) _ _ = _
    rw [spec_PolicyFault.l0, wn1 i (by omega)]
    exact if_yes (by omega) (if_yes (by omega) (bind_step (e1 k (by omega)) (if_yes rfl (if_no (by omega) e2'))))
   ·rw [hbad (by unfold okB; rw [decide_eq_false h10, Bool.and_false])]
    refine ⟨k1 + 1, fun k hk => ?_⟩
    obtain ⟨k, rfl⟩ : ∃ n, k = n + 1 := ⟨k - 1, by omega⟩
    show spec_PolicyFault.l0 (k + 1) _ _ = _
    rw [spec_PolicyFault.l0]
    exact if_yes (by omega) (if_yes (by omega) (bind_step (e1 k (by omega)) (if_yes rfl (if_yes (by omega) rfl))))
theorem fault_ev (l : List S37) (hq : ∀ j, j < l.length → FitT (rd_T37 l (j : Int))) : Evn (fun k => spec_PolicyFault.f k l) (polI l) := by
 by_cases h : (l.length : Int) > 50
 ·refine (Evn.const _).of_eq fun k => ?_
  unfold spec_PolicyFault.f polI
  rw [if_pos h, if_neg (fun e => by have := e.1; omega)]
 ·rw [polI_small (by omega)]
  refine (fault_l0 l (by omega) hq l.length 0 (by omega) rfl).of_eq fun k => ?_
  unfold spec_PolicyFault.f
  rw [if_neg h]; rfl

/-! ### the program's -/
theorem ifault_l1 (l : List S37) (i : Nat) (hi : i < 1000) (c : List S40) (hc : c.length ≤ 1048576) (R : Int) (h0 : ifsB c = true → Evn (fun k => impl_PolicyFault.l0 k l (l.length : Int) ((i + 1 : Nat) : Int)) R) (h1 : ifsB c = false → R = 1) :
  ∀ d j : Nat, j + d = c.length → allL z40 condOkB c j = true → Evn (fun k => impl_PolicyFault.l1 k l (l.length : Int) (i : Int) c (c.length : Int) (j : Int)) R
 | 0, j, hj, ha => by
  obtain rfl : j = c.length := by omega
  refine (h0 ha).step fun k => ?_
  rw [impl_PolicyFault.l1, if_neg (by omega), wn1 i (by omega)]
 | d + 1, j, hj, ha => by
  have hr := rd40 c j
  cases hb : condOkB (c.getD j z40) with
  | false =>
   rw [h1 (allL_false (show j < c.length by omega) hb)]
   have hb' : condB (c.getD j z40).f0 (c.getD j z40).f1 (c.getD j z40).f2 = true := by unfold condOkB at hb; simpa using hb
   refine (Evn.const _).step fun k => ?_
   rw [impl_PolicyFault.l1, if_pos (by omega), if_pos (by omega), if_pos (by omega), hr]
   unfold impl_conditionFault.f
   rw [hb', Option.bind_some, if_pos rfl]
  | true =>
   have hb' : condB (c.getD j z40).f0 (c.getD j z40).f1 (c.getD j z40).f2 = false := by unfold condOkB at hb; simpa using hb
   refine (ifault_l1 l i hi c hc R h0 h1 d (j + 1) (by omega) (allL_step ha hb)).step fun k => ?_
   rw [impl_PolicyFault.l1, if_pos (by omega), if_pos (by omega), if_pos (by omega), hr, wn1 j (by omega)]
   unfold impl_conditionFault.f
   rw [hb', Option.bind_some, if_neg (by decide)]
def bodyF (k : Nat) (l : List S37) (n i : Int) (s : S37) : Option Int := (impl_listFault.f k s.f1).bind fun t215 => (if t215 = true then (impl_PolicyFault.j1 k l n i true s.f0 s.f1 s.f2 s.f3 s.f4) else ((impl_listFault.f k s.f2).bind fun t216 => (if t216 = true then (impl_PolicyFault.j1 k l n i true s.f0 s.f1 s.f2 s.f3 s.f4) else ((impl_listFault.f k s.f3).bind fun t217 => (if t217 = true then (impl_PolicyFault.j1 k l n i true s.f0 s.f1 s.f2 s.f3 s.f4) else (impl_PolicyFault.j1 k l n i (decide ((s.f4.length : Int) > 10)) s.f0 s.f1 s.f2 s.f3 s.f4))))))
theorem j1_bad (l : List S37) (n i : Int) (s : S37) (k : Nat) (hk : 1 ≤ k) : impl_PolicyFault.j1 k l n i true s.f0 s.f1 s.f2 s.f3 s.f4 = some 1 := by
 obtain ⟨k, rfl⟩ : ∃ n, k = n + 1 := ⟨k - 1, by omega⟩
 rw [impl_PolicyFault.j1, if_pos rfl]
theorem bodyF_ev (l : List S37) (i : Nat) (hi : i < 1000) (s : S37) (hs : FitT s) (R : Int) (h0 : (listB s.f1 && (listB s.f2 && (listB s.f3 && ifsB s.f4)) && decide (s.f4.length ≤ 10)) = true → Evn (fun k => impl_PolicyFault.l0 k l (l.length : Int) ((i + 1 : Nat) : Int)) R) (h1 : (listB s.f1 && (listB s.f2 && (listB s.f3 && ifsB s.f4)) && decide (s.f4.length ≤ 10)) = false → R = 1) : Evn (fun k => bodyF k l (l.length : Int) (i : Int) s) R := by
 obtain ⟨k1, e1⟩ := ilist_ev s.f1 hs.1
 obtain ⟨k2, e2⟩ := ilist_ev s.f2 hs.2.1
 obtain ⟨k3, e3⟩ := ilist_ev s.f3 hs.2.2.1
 have JB := j1_bad l (l.length : Int) (i : Int) s
 cases b1 : listB s.f1 with
 | false =>
  rw [b1] at e1 h1
  rw [h1 rfl]
  exact ⟨k1 + 1, fun k hk => bind_step (e1 k (by omega)) (if_yes rfl (JB k (by omega)))⟩
 | true =>
 rw [b1] at e1 h1 h0
 cases b2 : listB s.f2 with
 | false =>
  rw [b2] at e2 h1
  rw [h1 rfl]
  exact ⟨k1 + k2 + 1, fun k hk => bind_step (e1 k (by omega)) (if_no (by decide) (bind_step (e2 k (by omega)) (if_yes rfl (JB k (by omega)))))⟩
 | true =>
 rw [b2] at e2 h1 h0
 cases b3 : listB s.f3 with
 | false =>
  rw [b3] at e3 h1
  rw [h1 rfl]
  exact ⟨k1 + k2 + k3 + 1, fun k hk => bind_step (e1 k (by omega)) (if_no (by decide) (bind_step (e2 k (by omega)) (if_no (by decide) (bind_step (e3 k (by omega)) (if_yes rfl (JB k (by omega)))))))⟩
 | true =>
 rw [b3] at e3 h1 h0
 by_cases h10 : s.f4.length ≤ 10
 ·rw [decide_eq_true h10] at h0 h1
  have L := ifault_l1 l i hi s.f4 hs.2.2.2 R (fun e => h0 (by rw [e]; rfl)) (fun e => h1 (by rw [e]; rfl)) s.f4.length 0 (by omega) rfl
  obtain ⟨k4, e4⟩ := L
  refine ⟨k1 + k2 + k3 + k4 + 1, fun k hk => bind_step (e1 k (by omega)) (if_no (by decide) (bind_step (e2 k (by omega)) (if_no (by decide) (bind_step (e3 k (by omega)) (if_no (by decide) ?_)))))⟩
  obtain ⟨k, rfl⟩ : ∃ n, k = n + 1 := ⟨k - 1, by omega⟩
  have e4' := e4 k (by omega)
  rw [decide_eq_false (show ¬ (s.f4.length : Int) > 10 by omega), impl_PolicyFault.j1, if_neg (by decide)]
  exact e4'
 ·rw [h1 (by rw [decide_eq_false h10, Bool.and_false])]
  refine ⟨k1 + k2 + k3 + 1, fun k hk => bind_step (e1 k (by omega)) (if_no (by decide) (bind_step (e2 k (by omega)) (if_no (by decide) (bind_step (e3 k (by omega)) (if_no (by decide) ?_)))))⟩
  rw [decide_eq_true (show (s.f4.length : Int) > 10 by omega)]
  exact JB k (by omega)
theorem ifault_l0 (l : List S37) (hl : l.length ≤ 50) (hq : ∀ j, j < l.length → FitT (rd_T37 l (j : Int))) : ∀ d i : Nat, i + d = l.length → allL z37 okB l i = true → Evn (fun k => impl_PolicyFault.l0 k l (l.length : Int) (i : Int)) (allI l)
 | 0, i, hi, ha => by
  obtain rfl : i = l.length := by omega
  refine (Evn.const _).step fun k => ?_
  unfold allI
  rw [impl_PolicyFault.l0, if_neg (by omega), if_pos ha]
 | d + 1, i, hi, ha => by
  have hf := hq i (by omega)
  have hr := rd37 l i
  have hbad : okB (rd_T37 l (i : Int)) = false → allI l = 1 := fun e => by
   unfold allI
   rw [allL_false (show i < l.length by omega) (hr ▸ e)]; rfl
  have hgood : okB (rd_T37 l (i : Int)) = true → Evn (fun k => impl_PolicyFault.l0 k l (l.length : Int) ((i + 1 : Nat) : Int)) (allI l) := fun e => ifault_l0 l hl hq d (i + 1) (by omega) (allL_step ha (hr ▸ e))
  by_cases hF : (rd_T37 l (i : Int)).f0 = 1 ∨ (rd_T37 l (i : Int)).f0 = 2
  ·have hE : okB (rd_T37 l (i : Int)) = (listB (rd_T37 l (i : Int)).f1 && (listB (rd_T37 l (i : Int)).f2 && (listB (rd_T37 l (i : Int)).f3 && ifsB (rd_T37 l (i : Int)).f4)) && decide ((rd_T37 l (i : Int)).f4.length ≤ 10)) := by
    unfold okB rightB
    have : (decide ((rd_T37 l (i : Int)).f0 = 1) || decide ((rd_T37 l (i : Int)).f0 = 2)) = true := by
     rcases hF with e | e
     ·rw [decide_eq_true e]; rfl
     ·rw [decide_eq_true e, Bool.or_true]
    rw [this, Bool.true_and]
   obtain ⟨k1, e1⟩ := bodyF_ev l i (by omega) (rd_T37 l (i : Int)) hf (allI l) (fun e => hgood (hE.trans e)) (fun e => hbad (hE.trans e))
   refine ⟨k1 + 1, fun k hk => ?_⟩
   obtain ⟨k, rfl⟩ : ∃ n, k = n + 1 := ⟨k - 1, by omega⟩
   have e1' := e1 k (by omega)
   show impl_PolicyFault.l0 (k + 1) _ _ _ = _
   rw [impl_PolicyFault.l0]
   refine if_yes (by omega) (if_yes (by omega) (if_yes (by omega) ?_))
   by_cases h1 : (rd_T37 l (i : Int)).f0 = 1
   ·exact if_yes h1 e1'
   ·exact if_no h1 (if_yes (hF.resolve_left h1) e1')
  ·have n1 : ¬ (rd_T37 l (i : Int)).f0 = 1 := fun e => hF (.inl e)
   have n2 : ¬ (rd_T37 l (i : Int)).f0 = 2 := fun e => hF (.inr e)
   rw [hbad (by unfold okB rightB; rw [decide_eq_false n1, decide_eq_false n2]; rfl)]
   refine ⟨2, fun k hk => ?_⟩
   obtain ⟨k, rfl⟩ : ∃ n, k = n + 1 + 1 := ⟨k - 2, by omega⟩
   show impl_PolicyFault.l0 (k + 1 + 1) _ _ _ = _
   rw [impl_PolicyFault.l0]
   exact if_yes (by omega) (if_yes (by omega) (if_yes (by omega) (if_no n1 (if_no n2 (j1_bad l _ _ _ (k + 1) (by omega))))))
theorem ifault_ev (l : List S37) (hq : ∀ j, j < l.length → FitT (rd_T37 l (j : Int))) : Evn (fun k => impl_PolicyFault.f k l) (polI l) := by
 by_cases h : (l.length : Int) > 50
 ·refine (Evn.const _).of_eq fun k => ?_
  unfold impl_PolicyFault.f polI
  rw [if_pos h, if_neg (fun e => by have := e.1; omega)]
 ·rw [polI_small (by omega)]
  refine (ifault_l0 l (by omega) hq l.length 0 (by omega) rfl).of_eq fun k => ?_
  unfold impl_PolicyFault.f
  rw [if_neg h]; rfl

theorem sz1 (c : UInt8) : (⟨#[c]⟩ : ByteArray).size = 1 := rfl
theorem joinTail_snoc (sep : List UInt8) (r : List (List UInt8)) (y : List UInt8) : Lib.joinTail sep (r ++ [y]) = Lib.joinTail sep r ++ sep ++ y := by
 unfold Lib.joinTail; simp
theorem joinS_one (y sep : ByteArray) : joinS [y] sep = y := by
 unfold joinS
 rw [List.map_cons, List.map_nil, Lib.join_one]
theorem joinS_snoc (l : List ByteArray) (y sep : ByteArray) (hl : l ≠ []) : joinS (l ++ [y]) sep = (joinS l sep ++ sep) ++ y := by
 obtain ⟨a, r, rfl⟩ : ∃ a r, l = a :: r := by cases l with | nil => exact absurd rfl hl | cons a r => exact ⟨a, r, rfl⟩
 refine ByteArray.ext (Array.ext' ?_)
 unfold joinS
 rw [ByteArray.data_append, ByteArray.data_append, Array.toList_append, Array.toList_append]
 show Lib.join _ _ = Lib.join _ _ ++ _ ++ _
 rw [List.cons_append, List.map_cons, List.map_cons, List.map_append, Lib.join_cons, Lib.join_cons, List.map_cons, List.map_nil, joinTail_snoc]
 simp only [List.append_assoc]
def firsts (l : List ByteArray) (i : Nat) : List ByteArray := (List.range i).map fun j : Nat => l.getD j ByteArray.empty
theorem firsts_succ (l : List ByteArray) (i : Nat) : firsts l (i + 1) = firsts l i ++ [l.getD i ByteArray.empty] := by unfold firsts; rw [List.range_succ, List.map_append]; rfl
theorem firsts_all (l : List ByteArray) : firsts l l.length = l := by
 unfold firsts
 refine List.ext_getElem (by rw [List.length_map, List.length_range]) fun i h1 h2 => ?_
 rw [List.getElem_map, List.getElem_range, List.getD_eq_getElem?_getD, List.getElem?_eq_getElem h2]; rfl
def jTo (l : List ByteArray) (i : Nat) : ByteArray := joinS (firsts l i) (⟨#[44]⟩ : ByteArray)
theorem jTo_zero (l : List ByteArray) : jTo l 0 = ⟨#[]⟩ := rfl
theorem jTo_one (l : List ByteArray) : jTo l 1 = l.getD 0 ByteArray.empty := joinS_one _ _
theorem jTo_succ (l : List ByteArray) (i : Nat) (h : 0 < i) : jTo l (i + 1) = (jTo l i ++ (⟨#[44]⟩ : ByteArray)) ++ l.getD i ByteArray.empty := by
 unfold jTo
 rw [firsts_succ, joinS_snoc _ _ _ (by obtain ⟨n, rfl⟩ : ∃ n, i = n + 1 := ⟨i - 1, by omega⟩; rw [firsts_succ]; simp)]
/-- A list of few short texts. -/
def ShortL (l : List ByteArray) : Prop := l.length ≤ 20 ∧ ∀ j, j < l.length → (l.getD j ByteArray.empty).size ≤ 200
theorem jTo_size {l : List ByteArray} (h : ShortL l) : ∀ i, i ≤ l.length → (jTo l i).size ≤ 201 * i
 | 0, _ => by rw [jTo_zero]; exact Nat.le_refl 0
 | 1, hi => by rw [jTo_one]; have := h.2 0 (by omega); omega
 | i + 2, hi => by
  have h1 := jTo_size h (i + 1) (by omega)
  have h2 := h.2 (i + 1) (by omega)
  rw [jTo_succ l (i + 1) (by omega), ByteArray.size_append, ByteArray.size_append, sz1]
  omega
def jS (l : List ByteArray) : ByteArray := joinS l (⟨#[44]⟩ : ByteArray)
theorem jTo_all (l : List ByteArray) : jTo l l.length = jS l := by unfold jTo jS; rw [firsts_all]
theorem jS_size {l : List ByteArray} (h : ShortL l) : (jS l).size ≤ 4020 := by
 have h1 := jTo_size h l.length (Nat.le_refl _)
 have h2 := h.1
 rw [jTo_all] at h1
 omega
theorem join_l0 (l : List ByteArray) (h : ShortL l) : ∀ d i : Nat, i + d = l.length → Evn (fun k => spec_l09Join.l0 k l (jTo l i) (i : Int)) (jS l)
 | 0, i, hi => by
  obtain rfl : i = l.length := by omega
  refine (Evn.const _).step fun k => ?_
  rw [spec_l09Join.l0, if_neg (by omega), jTo_all]
 | d + 1, i, hi => by
  have hl := h.1
  have h1 := jTo_size h i (by omega)
  have h2 := h.2 i (by omega)
  refine (join_l0 l h d (i + 1) (by omega)).step fun k => ?_
  rw [spec_l09Join.l0, rdO, wn1 i (by omega)]
  by_cases h0 : i = 0
  ·subst h0
   refine if_yes (by omega) (if_no (by omega) (if_yes (by omega) (if_yes (by omega) ?_)))
   have em : ∀ y : ByteArray, (⟨#[]⟩ : ByteArray) ++ y = y := fun y => ByteArray.empty_append
   rw [jTo_zero, jTo_one, em]
  ·refine if_yes (by omega) (if_yes (by omega) (if_yes (by omega) (if_yes (by omega) (if_yes ?_ ?_))))
   ·rw [ByteArray.size_append, sz1]; omega
   ·rw [jTo_succ l i (by omega)]
theorem join_ev (l : List ByteArray) (h : ShortL l) : Evn (fun k => spec_l09Join.f k l) (jS l) := join_l0 l h l.length 0 (by omega)
theorem ijoin (l : List ByteArray) (h : ShortL l) : strings_Join.f l (⟨#[44]⟩ : ByteArray) = some (jS l) := by
 have h1 := jS_size h
 have h2 := h.1
 unfold jS at h1
 unfold strings_Join.f
 exact if_yes ⟨by omega, by omega⟩ rfl

/-! ### the numeral -/
def decS (n : Nat) : ByteArray := ⟨(Lib.decDigits n).toArray⟩
theorem decLen : ∀ n : Nat, (Lib.decDigits n).length ≤ n + 1 := fun n => by
 induction n using Nat.strongRecOn with
 | _ n ih =>
  rw [Lib.decDigits]
  split
  ·exact Nat.le_add_left 1 n
  ·have := ih (n / 10) (by omega)
   rw [List.length_append]
   show _ + 1 ≤ n + 1
   omega
theorem decS_size (n : Nat) : (decS n).size ≤ n + 1 := decLen n
theorem dec_ev (n : Nat) : n ≤ 10000000000 → Evn (fun k => spec_l01Dec.f k (n : Int)) (decS n) := by
 induction n using Nat.strongRecOn with
 | _ n ih =>
  intro hn
  by_cases h : n < 10
  ·refine (Evn.const _).step fun k => ?_
   rw [spec_l01Dec.f, if_neg (by omega), if_pos (by omega), w64n (by omega) (by omega)]
   unfold decS
   rw [Lib.decDigits, dif_pos h]
   unfold strOfNums
   have : ((48 + (n : Int)) % 256).toNat = 48 + n := by omega
   rw [List.map_cons, this]; rfl
  ·obtain ⟨k0, e0⟩ := ih (n / 10) (by omega) (by omega)
   refine ⟨k0 + 1, fun k hk => ?_⟩
   obtain ⟨k, rfl⟩ : ∃ n, k = n + 1 := ⟨k - 1, by omega⟩
   have e1 : wrap64 (Int.tdiv (n : Int) 10) = ((n / 10 : Nat) : Int) := by
    rw [Int.tdiv_eq_ediv_of_nonneg (by omega), w64n (by omega) (by omega)]; omega
   have e2 : (wrap64 (48 + (Int.tmod (n : Int) 10)) % 256).toNat = 48 + n % 10 := by
    rw [Int.tmod_eq_emod_of_nonneg (by omega), w64n (by omega) (by omega)]; omega
   have hs := decS_size (n / 10)
   show spec_l01Dec.f (k + 1) (n : Int) = _
   rw [spec_l01Dec.f, if_neg (by omega), if_neg (by omega), e1]
   refine bind_step (e0 k (by omega)) (bind_step rfl (if_yes ?_ ?_))
   ·rw [strOfNums_size]; show _ + 1 ≤ _; omega
   ·congr 1
    refine ByteArray.ext (Array.ext' ?_)
    rw [ByteArray.data_append, Array.toList_append, strOfNums_data, List.map_cons, e2]
    unfold decS
    rw [Lib.decDigits.eq_def n, dif_neg h]; rfl
theorem ifmt (n : Int) (h0 : 0 ≤ n) (h1 : n ≤ 10000000000) : strconv_FormatInt.f n 10 = some (decS n.toNat) := by
 obtain ⟨m, rfl⟩ : ∃ m : Nat, n = m := ⟨n.toNat, by omega⟩
 unfold strconv_FormatInt.f
 exact if_yes ⟨rfl, by omega, by omega⟩ (by rw [Lib.itoa_nonneg]; rfl)

/-! ### conditions -/
/-- A condition that can be written. -/
def GoodC (c : S40) : Prop := ((c.f0 = 1 ∨ c.f0 = 4) ∧ c.f1.size ≤ 200) ∨ ((c.f0 = 2 ∨ c.f0 = 3) ∧ 0 ≤ c.f2 ∧ c.f2 ≤ 4102444800)
theorem good_of {c : S40} (h : condOkB c = true) : GoodC c := by
 unfold condOkB condB at h
 by_cases hA : c.f0 = 1 ∨ c.f0 = 4
 ·rw [if_pos hA] at h
  by_cases h0 : c.f2 = 0
  ·rw [if_pos h0] at h
   have hp : plainB c.f1 0 = true := by simpa using h
   exact .inl ⟨hA, plain_small hp⟩
  ·rw [if_neg h0] at h; cases h
 ·rw [if_neg hA] at h
  by_cases hB : c.f0 = 2 ∨ c.f0 = 3
  ·rw [if_pos hB] at h
   by_cases ht : c.f1 = ⟨#[]⟩
   ·rw [if_pos ht] at h
    by_cases hn : c.f2 < 0
    ·rw [if_pos hn] at h; cases h
    ·rw [if_neg hn] at h
     by_cases hm : c.f2 > 4102444800
     ·rw [decide_eq_true hm] at h; cases h
     ·exact .inr ⟨hB, by omega, by omega⟩
   ·rw [if_neg ht] at h; cases h
  ·rw [if_neg hB] at h; cases h
def condS (c : S40) : ByteArray :=
 if c.f0 = 1 then (⟨#[32, 112, 114, 101, 102, 105, 120, 32]⟩ : ByteArray) ++ c.f1
 else if c.f0 = 2 then (⟨#[32, 98, 101, 102, 111, 114, 101, 32]⟩ : ByteArray) ++ decS c.f2.toNat
 else if c.f0 = 3 then (⟨#[32, 97, 102, 116, 101, 114, 32]⟩ : ByteArray) ++ decS c.f2.toNat
 else (⟨#[32, 102, 114, 111, 109, 32]⟩ : ByteArray) ++ c.f1
theorem icond (c : S40) (h : GoodC c) : impl_writeCondition.f c.f0 c.f1 c.f2 = some (condS c) ∧ (condS c).size ≤ 4102444810 := by
 obtain ⟨c0, c1, c2⟩ := c
 unfold impl_writeCondition.f condS
 rcases h with ⟨h | h, hs⟩ | ⟨h | h, h0, h1⟩ <;> dsimp only at h <;> subst h <;> dsimp only at *
 ·exact ⟨if_yes rfl (if_yes (by omega) rfl), by rw [if_pos rfl, ByteArray.size_append]; show 8 + _ ≤ _; omega⟩
 ·exact ⟨if_no (by decide) (if_no (by decide) (if_no (by decide) (if_yes (by omega) rfl))), by rw [if_neg (by decide), if_neg (by decide), if_neg (by decide), ByteArray.size_append]; show 6 + _ ≤ _; omega⟩
 ·have hd := decS_size c2.toNat
  exact ⟨if_no (by decide) (if_yes rfl (bind_step (ifmt c2 h0 (by omega)) (if_yes (by omega) rfl))), by rw [if_neg (by decide), if_pos rfl, ByteArray.size_append]; show 8 + _ ≤ _; omega⟩
 ·have hd := decS_size c2.toNat
  exact ⟨if_no (by decide) (if_no (by decide) (if_yes rfl (bind_step (ifmt c2 h0 (by omega)) (if_yes (by omega) rfl)))), by rw [if_neg (by decide), if_neg (by decide), if_pos rfl, ByteArray.size_append]; show 7 + _ ≤ _; omega⟩

def GoodS (s : S37) : Prop := (s.f0 = 1 ∨ s.f0 = 2) ∧ ShortL s.f1 ∧ ShortL s.f2 ∧ ShortL s.f3 ∧ s.f4.length ≤ 10 ∧ ∀ j, j < s.f4.length → GoodC (s.f4.getD j z40)
theorem short_of {l : List ByteArray} (h : listB l = true) : ShortL l := by
 unfold listB at h
 rw [Bool.and_eq_true, Bool.and_eq_true] at h
 have h2 := of_decide_eq_true h.2.1
 exact ⟨by omega, fun j hj => plain_small (allL_at h.2.2 j hj)⟩
theorem goodS_of {s : S37} (h : okB s = true) : GoodS s := by
 unfold okB rightB at h
 rw [Bool.and_eq_true, Bool.and_eq_true, Bool.and_eq_true, Bool.and_eq_true, Bool.and_eq_true] at h
 obtain ⟨⟨h0, h1, h2, h3, h4⟩, h5⟩ := h
 refine ⟨?_, short_of h1, short_of h2, short_of h3, of_decide_eq_true h5, fun j hj => good_of (allL_at h4 j hj)⟩
 rw [Bool.or_eq_true] at h0
 exact h0.imp of_decide_eq_true of_decide_eq_true
def efS (e : Int) : ByteArray := if e = 1 then (⟨#[97, 108, 108, 111, 119]⟩ : ByteArray) else (⟨#[100, 101, 110, 121]⟩ : ByteArray)
def headS (x : ByteArray) (s : S37) : ByteArray := ((((((x ++ efS s.f0) ++ (⟨#[32, 119, 104, 111, 32]⟩ : ByteArray)) ++ jS s.f1) ++ (⟨#[32, 100, 111, 32]⟩ : ByteArray)) ++ jS s.f2) ++ (⟨#[32, 111, 110, 32]⟩ : ByteArray)) ++ jS s.f3
def cTo (c : List S40) (x : ByteArray) : Nat → ByteArray
 | 0 => x
 | j + 1 => cTo c x j ++ condS (c.getD j z40)
def stS (x : ByteArray) (s : S37) : ByteArray := cTo s.f4 (headS x s) s.f4.length ++ (⟨#[10]⟩ : ByteArray)
def polTo (l : List S37) : Nat → ByteArray
 | 0 => ⟨#[]⟩
 | i + 1 => stS (polTo l i) (rd_T37 l (i : Int))
theorem efS_size (e : Int) : (efS e).size ≤ 5 := by unfold efS; split <;> decide
theorem z5 : (⟨#[32, 119, 104, 111, 32]⟩ : ByteArray).size = 5 := rfl
theorem z4a : (⟨#[32, 100, 111, 32]⟩ : ByteArray).size = 4 := rfl
theorem z4b : (⟨#[32, 111, 110, 32]⟩ : ByteArray).size = 4 := rfl
theorem headS_size (x : ByteArray) {s : S37} (h : GoodS s) : (headS x s).size ≤ x.size + 13000 := by
 have h0 := efS_size s.f0
 have h1 := jS_size h.2.1
 have h2 := jS_size h.2.2.1
 have h3 := jS_size h.2.2.2.1
 unfold headS
 simp only [ByteArray.size_append, z5, z4a, z4b]
 omega
theorem cTo_size {c : List S40} (hc : ∀ j, j < c.length → GoodC (c.getD j z40)) (x : ByteArray) : ∀ j, j ≤ c.length → (cTo c x j).size ≤ x.size + 4102444810 * j
 | 0, _ => Nat.le_refl _
 | j + 1, hj => by
  have h1 := cTo_size hc x j (by omega)
  have h2 := (icond _ (hc j (by omega))).2
  rw [cTo, ByteArray.size_append]
  omega
theorem cTo_ge (c : List S40) (x : ByteArray) : ∀ j, x.size ≤ (cTo c x j).size
 | 0 => Nat.le_refl _
 | j + 1 => by
  have h1 := cTo_ge c x j
  rw [cTo, ByteArray.size_append]
  omega
theorem stS_ge (x : ByteArray) (s : S37) : x.size ≤ (stS x s).size := by
 have h1 := cTo_ge s.f4 (headS x s) s.f4.length
 have h2 : x.size ≤ (headS x s).size := by
  unfold headS
  simp only [ByteArray.size_append]
  omega
 unfold stS
 rw [ByteArray.size_append]
 omega
theorem polTo_ge (l : List S37) (i : Nat) : ∀ d, (polTo l i).size ≤ (polTo l (i + d)).size
 | 0 => Nat.le_refl _
 | d + 1 => Nat.le_trans (polTo_ge l i d) (stS_ge _ _)
theorem stS_size (x : ByteArray) {s : S37} (h : GoodS s) : (stS x s).size ≤ x.size + 50000000000 := by
 have h1 := headS_size x h
 have h2 := cTo_size h.2.2.2.2.2 (headS x s) s.f4.length (Nat.le_refl _)
 have h3 := h.2.2.2.2.1
 unfold stS
 rw [ByteArray.size_append, sz1]
 omega
theorem polTo_size {l : List S37} (h : ∀ j, j < l.length → GoodS (rd_T37 l (j : Int))) : ∀ i, i ≤ l.length → (polTo l i).size ≤ 50000000000 * i
 | 0, _ => Nat.le_refl _
 | i + 1, hi => by
  have h1 := polTo_size h i (by omega)
  have h2 := stS_size (polTo l i) (h i (by omega))
  rw [polTo]
  omega
/-- What both sides write. -/
def outS (l : List S37) : ByteArray := if ((polTo l l.length).size : Int) > 10000 then ⟨#[]⟩ else polTo l l.length

/-! ### the program's -/
theorem iw_l1 (l : List S37) (hn : l.length ≤ 50) (i : Nat) (hi : i < l.length) (c : List S40) (hc10 : c.length ≤ 10) (hc : ∀ j, j < c.length → GoodC (c.getD j z40)) (x : ByteArray) (hx : x.size ≤ 9000000000000) (R : ByteArray)
  (h0 : Evn (fun k => impl_WritePolicy.l0 k (cTo c x c.length ++ (⟨#[10]⟩ : ByteArray)) l (l.length : Int) ((i + 1 : Nat) : Int)) R) :
  ∀ d j : Nat, j + d = c.length → Evn (fun k => impl_WritePolicy.l1 k (cTo c x j) l (l.length : Int) (i : Int) c (c.length : Int) (j : Int)) R
 | 0, j, hj => by
  obtain rfl : j = c.length := by omega
  have hs := cTo_size hc x c.length (Nat.le_refl _)
  refine h0.step fun k => ?_
  rw [impl_WritePolicy.l1, if_neg (by omega), if_pos (by omega), wn1 i (by omega)]
 | d + 1, j, hj => by
  have hs := cTo_size hc x j (by omega)
  obtain ⟨e, hz⟩ := icond _ (hc j (by omega))
  refine (iw_l1 l hn i hi c hc10 hc x hx R h0 d (j + 1) (by omega)).step fun k => ?_
  rw [impl_WritePolicy.l1, rd40, wn1 j (by omega)]
  exact if_yes (by omega) (if_yes (by omega) (if_yes (by omega) (bind_step e (if_yes (by omega) rfl))))
theorem iw_j1 (l : List S37) (hn : l.length ≤ 50) (i : Nat) (hi : i < l.length) (s : S37) (hs : GoodS s) (x : ByteArray) (hx : x.size ≤ 5000000000000) (R : ByteArray)
  (h0 : Evn (fun k => impl_WritePolicy.l0 k (stS x s) l (l.length : Int) ((i + 1 : Nat) : Int)) R) : Evn (fun k => impl_WritePolicy.j1 k (x ++ efS s.f0) l (l.length : Int) (i : Int) s.f0 s.f1 s.f2 s.f3 s.f4) R := by
 have z0 := efS_size s.f0
 have z1 := jS_size hs.2.1
 have z2 := jS_size hs.2.2.1
 have z3 := jS_size hs.2.2.2.1
 have zh := headS_size x hs
 obtain ⟨k1, e1⟩ := iw_l1 l hn i hi s.f4 hs.2.2.2.2.1 hs.2.2.2.2.2 (headS x s) (by omega) R h0 s.f4.length 0 (by omega)
 refine ⟨k1 + 1, fun k hk => ?_⟩
 obtain ⟨k, rfl⟩ : ∃ n, k = n + 1 := ⟨k - 1, by omega⟩
 have e1' := e1 k (by omega)
 show impl_WritePolicy.j1 (k + 1) _ _ _ _ _ _ _ _ _ = _
 rw [impl_WritePolicy.j1]
 refine bind_step (ijoin s.f1 hs.2.1) (if_yes (by omega) (if_yes ?_ (bind_step (ijoin s.f2 hs.2.2.1) (if_yes ?_ (if_yes ?_ (bind_step (ijoin s.f3 hs.2.2.2.1) (if_yes ?_ (if_yes ?_ ?_))))))))
 ·simp only [ByteArray.size_append, z5]; omega
 ·simp only [ByteArray.size_append, z5, z4a]; omega
 ·simp only [ByteArray.size_append, z5, z4a]; omega
 ·simp only [ByteArray.size_append, z5, z4a, z4b]; omega
 ·simp only [ByteArray.size_append, z5, z4a, z4b]; omega
 ·have e : (x ++ efS s.f0) ++ ((((((⟨#[32, 119, 104, 111, 32]⟩ : ByteArray) ++ jS s.f1) ++ (⟨#[32, 100, 111, 32]⟩ : ByteArray)) ++ jS s.f2) ++ (⟨#[32, 111, 110, 32]⟩ : ByteArray)) ++ jS s.f3) = headS x s := by
   unfold headS
   simp only [ByteArray.append_assoc]
  rw [e]
  exact e1'
theorem iw_l0 (l : List S37) (hn : l.length ≤ 50) (h : ∀ j, j < l.length → GoodS (rd_T37 l (j : Int))) : ∀ d i : Nat, i + d = l.length → Evn (fun k => impl_WritePolicy.l0 k (polTo l i) l (l.length : Int) (i : Int)) (outS l)
 | 0, i, hi => by
  obtain rfl : i = l.length := by omega
  refine (Evn.const _).step fun k => ?_
  unfold outS
  rw [impl_WritePolicy.l0, if_neg (by omega)]
  split <;> rfl
 | d + 1, i, hi => by
  have hs := polTo_size h i (by omega)
  have hg := h i (by omega)
  obtain ⟨k1, e1⟩ := iw_j1 l hn i (by omega) (rd_T37 l (i : Int)) hg (polTo l i) (by omega) (outS l) (iw_l0 l hn h d (i + 1) (by omega))
  refine ⟨k1 + 1, fun k hk => ?_⟩
  obtain ⟨k, rfl⟩ : ∃ n, k = n + 1 := ⟨k - 1, by omega⟩
  have e1' := e1 k (by omega)
  show impl_WritePolicy.l0 (k + 1) _ _ _ _ = _
  rw [impl_WritePolicy.l0]
  refine if_yes (by omega) (if_yes (by omega) (if_yes (by omega) ?_))
  by_cases h1 : (rd_T37 l (i : Int)).f0 = 1
  ·refine if_yes h1 (if_yes (by omega) ?_)
   have e : efS (rd_T37 l (i : Int)).f0 = (⟨#[97, 108, 108, 111, 119]⟩ : ByteArray) := by unfold efS; rw [if_pos h1]
   rw [e] at e1'
   exact e1'
  ·refine if_no h1 (if_yes (by omega) ?_)
   have e : efS (rd_T37 l (i : Int)).f0 = (⟨#[100, 101, 110, 121]⟩ : ByteArray) := by unfold efS; rw [if_neg h1]
   rw [e] at e1'
   exact e1'
end Go.Proofs.YtpdgopabnihpiaaDoor.QA
