/- Policies: what the laws' sizes, copies and comparisons come to. Policies: the specification's PolicyFault is the program's. Conditions: those that each theorem states. -/
import Derived.Test.YtpdgopabnihpiaaDoorPkFnExactWritePolicy13
import Derived.Test.YtpdgopabnihpiaaDoorPkFnExactWritePolicy3
import Derived.Test.YtpdgopabnihpiaaDoorPkFnExactWritePolicy12
import Derived.Test.YtpdgopabnihpiaaDoorPkFnExactWritePolicy20
import Derived.Test.YtpdgopabnihpiaaDoorPkFnExactWritePolicy14
import Derived.Test.YtpdgopabnihpiaaDoorPkFnExactWritePolicy7
namespace Go.Proofs.YtpdgopabnihpiaaDoor.QA
open Go.RowKit Go.Proofs.YtpdgopabnihpiaaDoorW.PrintWords Go.Proofs.YtpdgopabnihpiaaDoorW.PrintLast Go.Proofs.YtpdgopabnihpiaaDoorW.PrintMore
set_option linter.unusedVariables false
set_option linter.unusedSimpArgs false

theorem sz_step (left : Int) (n : Nat) (h0 : 0 ≤ left) (h1 : left ≤ 1048576) (hn : (n : Int) ≤ 9223372036854775807) : wrap64 (left - (n : Int)) = left - (n : Int) := w64n (by omega) (by omega)
theorem getD_mem {α : Type} (l : List α) (d : α) (i : Nat) (hi : i < l.length) : l.getD i d ∈ l := by
 rw [List.getD_eq_getElem?_getD, List.getElem?_eq_getElem hi]
 exact List.getElem_mem hi
theorem rdO (l : List ByteArray) (i : Nat) : rdOf ByteArray.empty l (i : Int) = l.getD i ByteArray.empty := by unfold rdOf; rw [Int.toNat_natCast]
theorem rd33 (l : List S33) (i : Nat) : rd_T33 l (i : Int) = l.getD i z33 := by unfold rd_T33; rw [Int.toNat_natCast]
theorem rd37 (l : List S37) (i : Nat) : rd_T37 l (i : Int) = l.getD i z37 := by unfold rd_T37; rw [Int.toNat_natCast]
theorem rd67 (l : List S67) (i : Nat) : rd_T67 l (i : Int) = l.getD i z67 := by unfold rd_T67; rw [Int.toNat_natCast]
theorem rd40 (l : List S40) (i : Nat) : rd_T40 l (i : Int) = l.getD i z40 := by unfold rd_T40; rw [Int.toNat_natCast]

/-! ### sizes -/
def BigB (l : List ByteArray) : Prop := (l.length : Int) ≤ 9223372036854775807 ∧ ∀ x ∈ l, (x.size : Int) ≤ 9223372036854775807
def BigC (l : List S67) : Prop := (l.length : Int) ≤ 9223372036854775807 ∧ ∀ x ∈ l, (x.f1.size : Int) ≤ 9223372036854775807
def BigS (x : S33) : Prop := BigB x.f1 ∧ BigB x.f2 ∧ BigB x.f3 ∧ BigC x.f4
def FitS (x : S33) : Prop := x.f1.length ≤ 1048576 ∧ x.f2.length ≤ 1048576 ∧ x.f3.length ≤ 1048576 ∧ x.f4.length ≤ 1048576
theorem szString_l0 (l : List ByteArray) (hl : l.length ≤ 1048576) (hq : ∀ x ∈ l, (x.size : Int) ≤ 9223372036854775807) :
  ∀ (d i : Nat) (left : Int), i + d = l.length → 0 ≤ left → left ≤ 1048576 → ∃ t, Evn (fun k => laws_szStringS.l0 k l left (i : Int)) t ∧ (t < 0 ∨ (0 ≤ t ∧ t ≤ left))
 | 0, i, left, hi, h0, h1 => by
  refine ⟨left, (Evn.const _).step fun k => ?_, .inr ⟨h0, Int.le_refl _⟩⟩
  rw [laws_szStringS.l0, if_neg (by omega)]
 | d + 1, i, left, hi, h0, h1 => by
  have q1 := hq _ (getD_mem l ByteArray.empty i (by omega))
  rw [← rdO] at q1
  have hs := sz_step left _ h0 h1 q1
  by_cases hneg : left - ((rdOf ByteArray.empty l (i : Int)).size : Int) < 0
  ·refine ⟨-1, (Evn.const _).step fun k => ?_, .inl (by omega)⟩
   rw [laws_szStringS.l0, if_pos (by clear hs; omega), if_pos (by clear hs; omega), hs, if_pos hneg]
  ·obtain ⟨t', ht', hc'⟩ := szString_l0 l hl hq d (i + 1) _ (by clear hs; omega) (Int.not_lt.1 hneg) (by clear hs; omega)
   refine ⟨t', ht'.step fun k => ?_, hc'.imp id fun ⟨a, b⟩ => ⟨a, by clear hs; omega⟩⟩
   rw [laws_szStringS.l0, if_pos (by clear hs; omega), if_pos (by clear hs; omega), hs, if_neg hneg, wn1 i (by clear hs; omega)]
theorem szString_ex (l : List ByteArray) (left : Int) (h0 : 0 ≤ left) (h1 : left ≤ 1048576) (hq : BigB l) :
  ∃ t, Evn (fun k => laws_szStringS.f k l left) t ∧ (t < 0 ∨ (0 ≤ t ∧ t ≤ 1048576 ∧ l.length ≤ 1048576)) := by
 have hs := sz_step left l.length h0 h1 hq.1
 by_cases h2 : left - (l.length : Int) < 0
 ·refine ⟨-1, (Evn.const _).of_eq fun k => ?_, .inl (by omega)⟩
  unfold laws_szStringS.f
  rw [hs, if_pos h2]
 ·have hl2 : l.length ≤ 1048576 := by clear hs; omega
  obtain ⟨t, ht, hc⟩ := szString_l0 l hl2 hq.2 l.length 0 (left - (l.length : Int)) (by clear hs; omega) (by clear hs; omega) (by clear hs; omega)
  refine ⟨t, ht.of_eq fun k => ?_, hc.imp id fun ⟨a, b⟩ => ⟨a, by clear hs; omega, hl2⟩⟩
  unfold laws_szStringS.f
  rw [hs, if_neg h2]
  rfl
theorem szCond_l0 (l : List S67) (hl : l.length ≤ 1048576) (hq : ∀ x ∈ l, (x.f1.size : Int) ≤ 9223372036854775807) :
  ∀ (d i : Nat) (left : Int), i + d = l.length → 0 ≤ left → left ≤ 1048576 → ∃ t, Evn (fun k => laws_szConditionS.l0 k l left (i : Int)) t ∧ (t < 0 ∨ (0 ≤ t ∧ t ≤ left))
 | 0, i, left, hi, h0, h1 => by
  refine ⟨left, (Evn.const _).step fun k => ?_, .inr ⟨h0, Int.le_refl _⟩⟩
  rw [laws_szConditionS.l0, if_neg (by omega)]
 | d + 1, i, left, hi, h0, h1 => by
  have q1 := hq _ (getD_mem l z67 i (by omega))
  rw [← rd67] at q1
  have hs := sz_step left _ h0 h1 q1
  by_cases hneg : left - ((rd_T67 l (i : Int)).f1.size : Int) < 0
  ·refine ⟨-1, (Evn.const _).step fun k => ?_, .inl (by omega)⟩
   rw [laws_szConditionS.l0, if_pos (by clear hs; omega), if_pos (by clear hs; omega)]
   unfold laws_szCondition.f
   rw [hs, if_pos hneg]
   exact bind_step rfl (by rw [if_pos (by clear hs; omega)])
  ·obtain ⟨t', ht', hc'⟩ := szCond_l0 l hl hq d (i + 1) _ (by clear hs; omega) (Int.not_lt.1 hneg) (by clear hs; omega)
   refine ⟨t', ht'.step fun k => ?_, hc'.imp id fun ⟨a, b⟩ => ⟨a, by clear hs; omega⟩⟩
   rw [laws_szConditionS.l0, if_pos (by clear hs; omega), if_pos (by clear hs; omega), wn1 i (by clear hs; omega)]
   unfold laws_szCondition.f
   rw [hs, if_neg hneg]
   exact bind_step rfl (by rw [if_neg hneg])
theorem szCond_ex (l : List S67) (left : Int) (h0 : 0 ≤ left) (h1 : left ≤ 1048576) (hq : BigC l) :
  ∃ t, Evn (fun k => laws_szConditionS.f k l left) t ∧ (t < 0 ∨ (0 ≤ t ∧ t ≤ 1048576 ∧ l.length ≤ 1048576)) := by
 have hs := sz_step left l.length h0 h1 hq.1
 by_cases h2 : left - (l.length : Int) < 0
 ·refine ⟨-1, (Evn.const _).of_eq fun k => ?_, .inl (by omega)⟩
  unfold laws_szConditionS.f
  rw [hs, if_pos h2]
 ·have hl2 : l.length ≤ 1048576 := by clear hs; omega
  obtain ⟨t, ht, hc⟩ := szCond_l0 l hl2 hq.2 l.length 0 (left - (l.length : Int)) (by clear hs; omega) (by clear hs; omega) (by clear hs; omega)
  refine ⟨t, ht.of_eq fun k => ?_, hc.imp id fun ⟨a, b⟩ => ⟨a, by clear hs; omega, hl2⟩⟩
  unfold laws_szConditionS.f
  rw [hs, if_neg h2]
  rfl
theorem szSt_ex (x : S33) (left : Int) (h0 : 0 ≤ left) (h1 : left ≤ 1048576) (hq : BigS x) :
  ∃ t, Evn (fun k => laws_szStatement.f k x.f0 x.f1 x.f2 x.f3 x.f4 left) t ∧ (t < 0 ∨ (0 ≤ t ∧ t ≤ 1048576 ∧ FitS x)) := by
 obtain ⟨q1, q2, q3, q4⟩ := hq
 obtain ⟨t1, ⟨k1, e1⟩, c1⟩ := szString_ex x.f1 left h0 h1 q1
 by_cases n1 : t1 < 0
 ·refine ⟨-1, ⟨k1, fun k hk => ?_⟩, .inl (by omega)⟩
  show laws_szStatement.f k _ _ _ _ _ _ = _
  unfold laws_szStatement.f
  exact bind_step (e1 k hk) (if_yes n1 rfl)
 obtain ⟨a1, b1, l1⟩ := c1.resolve_left n1
 obtain ⟨t2, ⟨k2, e2⟩, c2⟩ := szString_ex x.f2 t1 a1 b1 q2
 by_cases n2 : t2 < 0
 ·refine ⟨-1, ⟨k1 + k2, fun k hk => ?_⟩, .inl (by omega)⟩
  show laws_szStatement.f k _ _ _ _ _ _ = _
  unfold laws_szStatement.f
  exact bind_step (e1 k (by omega)) (if_no n1 (bind_step (e2 k (by omega)) (if_yes n2 rfl)))
 obtain ⟨a2, b2, l2⟩ := c2.resolve_left n2
 obtain ⟨t3, ⟨k3, e3⟩, c3⟩ := szString_ex x.f3 t2 a2 b2 q3
 by_cases n3 : t3 < 0
 ·refine ⟨-1, ⟨k1 + k2 + k3, fun k hk => ?_⟩, .inl (by omega)⟩
  show laws_szStatement.f k _ _ _ _ _ _ = _
  unfold laws_szStatement.f
  exact bind_step (e1 k (by omega)) (if_no n1 (bind_step (e2 k (by omega)) (if_no n2 (bind_step (e3 k (by omega)) (if_yes n3 rfl)))))
 obtain ⟨a3, b3, l3⟩ := c3.resolve_left n3
 obtain ⟨t4, ⟨k4, e4⟩, c4⟩ := szCond_ex x.f4 t3 a3 b3 q4
 by_cases n4 : t4 < 0
 ·refine ⟨-1, ⟨k1 + k2 + k3 + k4, fun k hk => ?_⟩, .inl (by omega)⟩
  show laws_szStatement.f k _ _ _ _ _ _ = _
  unfold laws_szStatement.f
  exact bind_step (e1 k (by omega)) (if_no n1 (bind_step (e2 k (by omega)) (if_no n2 (bind_step (e3 k (by omega)) (if_no n3 (bind_step (e4 k (by omega)) (if_yes n4 rfl)))))))
 obtain ⟨a4, b4, l4⟩ := c4.resolve_left n4
 refine ⟨t4, ⟨k1 + k2 + k3 + k4, fun k hk => ?_⟩, .inr ⟨a4, b4, l1, l2, l3, l4⟩⟩
 show laws_szStatement.f k _ _ _ _ _ _ = _
 unfold laws_szStatement.f
 exact bind_step (e1 k (by omega)) (if_no n1 (bind_step (e2 k (by omega)) (if_no n2 (bind_step (e3 k (by omega)) (if_no n3 (bind_step (e4 k (by omega)) (if_no n4 rfl)))))))
theorem szStS_l0 (l : List S33) (hl : l.length ≤ 1048576) (hq : ∀ x ∈ l, BigS x) :
  ∀ (d i : Nat) (left : Int), i + d = l.length → 0 ≤ left → left ≤ 1048576 → ∃ t, Evn (fun k => laws_szStatementS.l0 k l left (i : Int)) t ∧ (t < 0 ∨ ∀ j, i ≤ j → j < l.length → FitS (rd_T33 l (j : Int)))
 | 0, i, left, hi, h0, h1 => by
  refine ⟨left, (Evn.const _).step fun k => ?_, .inr fun j a b => by omega⟩
  rw [laws_szStatementS.l0, if_neg (by omega)]
 | d + 1, i, left, hi, h0, h1 => by
  have q1 := hq _ (getD_mem l z33 i (by omega))
  rw [← rd33] at q1
  obtain ⟨t, ⟨k1, e1⟩, c⟩ := szSt_ex _ left h0 h1 q1
  by_cases hneg : t < 0
  ·refine ⟨-1, ⟨k1 + 1, fun k hk => ?_⟩, .inl (by omega)⟩
   obtain ⟨k, rfl⟩ : ∃ n, k = n + 1 := ⟨k - 1, by omega⟩
   show laws_szStatementS.l0 (k + 1) _ _ _ = _
   rw [laws_szStatementS.l0]
   exact if_yes (by omega) (if_yes (by omega) (bind_step (e1 k (by omega)) (if_yes hneg rfl)))
  ·obtain ⟨a, b, f⟩ := c.resolve_left hneg
   obtain ⟨t', ⟨k2, e2⟩, hc'⟩ := szStS_l0 l hl hq d (i + 1) t (by omega) a b
   refine ⟨t', ⟨k1 + k2 + 1, fun k hk => ?_⟩, hc'.imp id fun hj j a b => ?_⟩
   ·obtain ⟨k, rfl⟩ : ∃ n, k = n + 1 := ⟨k - 1, by omega⟩
    have hr := e2 k (by omega)
    show laws_szStatementS.l0 (k + 1) _ _ _ = _
    rw [laws_szStatementS.l0, wn1 i (by omega)]
    exact if_yes (by omega) (if_yes (by omega) (bind_step (e1 k (by omega)) (if_no hneg hr)))
   ·by_cases e : j = i
    ·subst e; exact f
    ·exact hj j (by omega) b
theorem szStS_ex (l : List S33) (hl : (l.length : Int) ≤ 9223372036854775807) (hq : ∀ x ∈ l, BigS x) :
  ∃ t, Evn (fun k => laws_szStatementS.f k l 1048576) t ∧ (t < 0 ∨ (l.length ≤ 1048576 ∧ ∀ j, j < l.length → FitS (rd_T33 l (j : Int)))) := by
 have hs := sz_step 1048576 l.length (by omega) (by omega) hl
 by_cases h2 : 1048576 - (l.length : Int) < 0
 ·refine ⟨-1, (Evn.const _).of_eq fun k => ?_, .inl (by omega)⟩
  unfold laws_szStatementS.f
  rw [hs, if_pos h2]
 ·have hl2 : l.length ≤ 1048576 := by clear hs; omega
  obtain ⟨t, ht, hc⟩ := szStS_l0 l hl2 hq l.length 0 (1048576 - (l.length : Int)) (by clear hs; omega) (by clear hs; omega) (by clear hs; omega)
  refine ⟨t, ht.of_eq fun k => ?_, hc.imp id fun a => ⟨hl2, fun j hj => a j (Nat.zero_le _) hj⟩⟩
  unfold laws_szStatementS.f
  rw [hs, if_neg h2]
  rfl

/-! ### copies -/
def convC (x : S67) : S40 := ⟨x.f0, x.f1, x.f2⟩
def convS (x : S33) : S37 := ⟨x.f0, x.f1, x.f2, x.f3, x.f4.map convC⟩
def cvTo {α β : Type} (g : α → β) (z : β) (l : List α) (i : Nat) : List β := (l.take i).map g ++ List.replicate (l.length - i) z
theorem cvTo_len {α β : Type} (g : α → β) (z : β) (l : List α) (i : Nat) (hi : i ≤ l.length) : (cvTo g z l i).length = l.length := by
 unfold cvTo; rw [List.length_append, List.length_map, List.length_take, List.length_replicate]; omega
theorem cvTo_set {α β : Type} (g : α → β) (z : β) (l : List α) (d : α) (i : Nat) (hi : i < l.length) : (cvTo g z l i).set i (g (l.getD i d)) = cvTo g z l (i + 1) := by
 have e : l.getD i d = l[i] := by rw [List.getD_eq_getElem?_getD, List.getElem?_eq_getElem hi]; rfl
 unfold cvTo
 have hlen : ((l.take i).map g).length = i := by rw [List.length_map, List.length_take]; omega
 rw [List.set_append_right _ _ (by omega), hlen, Nat.sub_self, List.take_succ_eq_append_getElem hi, List.map_append, List.append_assoc]
 congr 1
 obtain ⟨n, hn⟩ : ∃ n, l.length - i = n + 1 := ⟨l.length - i - 1, by omega⟩
 rw [hn, List.replicate_succ, List.set_cons_zero, e, show l.length - (i + 1) = n by omega]
 rfl
theorem cvTo_end {α β : Type} (g : α → β) (z : β) (l : List α) : cvTo g z l l.length = l.map g := by unfold cvTo; simp
theorem toString_l0 (l : List ByteArray) (hl : l.length ≤ 1048576) : ∀ d i : Nat, i + d = l.length → Evn (fun k => laws_toStringS.l0 k l (cvTo id (⟨#[]⟩ : ByteArray) l i) (i : Int)) l
 | 0, i, hi => by
  obtain rfl : i = l.length := by omega
  refine (Evn.const _).step fun k => ?_
  rw [laws_toStringS.l0, if_neg (by omega), cvTo_end, List.map_id]
 | d + 1, i, hi => by
  have ih := toString_l0 l hl d (i + 1) (by omega)
  rw [← cvTo_set id _ l ByteArray.empty i (by omega), ← rdO] at ih
  refine ih.step fun k => ?_
  rw [laws_toStringS.l0, if_pos (by omega), if_pos (by omega), wn1 i (by omega), if_pos (by rw [cvTo_len _ _ l i (by omega)]; omega), Int.toNat_natCast]
  rfl
theorem toString_ev (l : List ByteArray) (hl : l.length ≤ 1048576) : Evn (fun k => laws_toStringS.f k l) l := by
 refine (toString_l0 l hl l.length 0 (by omega)).of_eq fun k => ?_
 unfold laws_toStringS.f
 rw [if_pos (by omega), Int.toNat_natCast, if_pos (by omega)]
 rfl
theorem toCond_l0 (l : List S67) (hl : l.length ≤ 1048576) : ∀ d i : Nat, i + d = l.length → Evn (fun k => laws_toConditionS.l0 k l (cvTo convC z40 l i) (i : Int)) (l.map convC)
 | 0, i, hi => by
  obtain rfl : i = l.length := by omega
  refine (Evn.const _).step fun k => ?_
  rw [laws_toConditionS.l0, if_neg (by omega), cvTo_end]
 | d + 1, i, hi => by
  have ih := toCond_l0 l hl d (i + 1) (by omega)
  rw [← cvTo_set convC _ l z67 i (by omega), ← rd67] at ih
  refine ih.step fun k => ?_
  rw [laws_toConditionS.l0, if_pos (by omega), if_pos (by omega), wn1 i (by omega)]
  unfold laws_toCondition.f
  rw [Option.bind_some, if_pos (by rw [cvTo_len _ _ l i (by omega)]; omega), Int.toNat_natCast]
  rfl
theorem toCond_ev (l : List S67) (hl : l.length ≤ 1048576) : Evn (fun k => laws_toConditionS.f k l) (l.map convC) := by
 refine (toCond_l0 l hl l.length 0 (by omega)).of_eq fun k => ?_
 unfold laws_toConditionS.f
 rw [if_pos (by omega), Int.toNat_natCast, if_pos (by omega)]
 rfl
theorem toSt_ev (x : S33) (hx : FitS x) : Evn (fun k => laws_toStatement.f k x.f0 x.f1 x.f2 x.f3 x.f4) (x.f0, x.f1, x.f2, x.f3, x.f4.map convC) := by
 obtain ⟨k1, e1⟩ := toString_ev x.f1 hx.1
 obtain ⟨k2, e2⟩ := toString_ev x.f2 hx.2.1
 obtain ⟨k3, e3⟩ := toString_ev x.f3 hx.2.2.1
 obtain ⟨k4, e4⟩ := toCond_ev x.f4 hx.2.2.2
 refine ⟨k1 + k2 + k3 + k4, fun k hk => ?_⟩
 show laws_toStatement.f k _ _ _ _ _ = _
 unfold laws_toStatement.f
 exact bind_step (e1 k (by omega)) (bind_step (e2 k (by omega)) (bind_step (e3 k (by omega)) (bind_step (e4 k (by omega)) rfl)))
theorem toStS_l0 (l : List S33) (hl : l.length ≤ 1048576) (hq : ∀ j, j < l.length → FitS (rd_T33 l (j : Int))) : ∀ d i : Nat, i + d = l.length → Evn (fun k => laws_toStatementS.l0 k l (cvTo convS z37 l i) (i : Int)) (l.map convS)
 | 0, i, hi => by
  obtain rfl : i = l.length := by omega
  refine (Evn.const _).step fun k => ?_
  rw [laws_toStatementS.l0, if_neg (by omega), cvTo_end]
 | d + 1, i, hi => by
  obtain ⟨k1, e1⟩ := toSt_ev _ (hq i (by omega))
  have ih := toStS_l0 l hl hq d (i + 1) (by omega)
  rw [← cvTo_set convS _ l z33 i (by omega), ← rd33] at ih
  obtain ⟨k2, e2⟩ := ih
  refine ⟨k1 + k2 + 1, fun k hk => ?_⟩
  obtain ⟨k, rfl⟩ : ∃ n, k = n + 1 := ⟨k - 1, by omega⟩
  have hr := e2 k (by omega)
  show laws_toStatementS.l0 (k + 1) _ _ _ = _
  rw [laws_toStatementS.l0, wn1 i (by omega)]
  refine if_yes (by omega) (if_yes (by omega) (bind_step (e1 k (by omega)) (if_yes (by rw [cvTo_len _ _ l i (by omega)]; omega) ?_)))
  rw [Int.toNat_natCast]
  exact hr
theorem toStS_ev (l : List S33) (hl : l.length ≤ 1048576) (hq : ∀ j, j < l.length → FitS (rd_T33 l (j : Int))) : Evn (fun k => laws_toStatementS.f k l) (l.map convS) := by
 refine (toStS_l0 l hl hq l.length 0 (by omega)).of_eq fun k => ?_
 unfold laws_toStatementS.f
 rw [if_pos (by omega), Int.toNat_natCast, if_pos (by omega)]
 rfl

/-! ### the comparison with itself -/
def FitT (x : S37) : Prop := x.f1.length ≤ 1048576 ∧ x.f2.length ≤ 1048576 ∧ x.f3.length ≤ 1048576 ∧ x.f4.length ≤ 1048576
theorem eqString_l0 (l : List ByteArray) (hl : l.length ≤ 1048576) : ∀ d i : Nat, i + d = l.length → Evn (fun k => laws_eqStringS.l0 k l l (i : Int)) true
 | 0, i, hi => (Evn.const _).step fun k => by rw [laws_eqStringS.l0, if_neg (by omega)]
 | d + 1, i, hi => by
  refine (eqString_l0 l hl d (i + 1) (by omega)).step fun k => ?_
  rw [laws_eqStringS.l0, if_pos (by omega), if_pos (by omega), if_pos (by omega), wn1 i (by omega), if_pos rfl]
theorem eqString_ev (l : List ByteArray) (hl : l.length ≤ 1048576) : Evn (fun k => laws_eqStringS.f k l l) true :=
 (eqString_l0 l hl l.length 0 (by omega)).of_eq fun k => by unfold laws_eqStringS.f; rw [if_pos rfl]; rfl
theorem eqCond_l0 (l : List S40) (hl : l.length ≤ 1048576) : ∀ d i : Nat, i + d = l.length → Evn (fun k => laws_eqConditionS.l0 k l l (i : Int)) true
 | 0, i, hi => (Evn.const _).step fun k => by rw [laws_eqConditionS.l0, if_neg (by omega)]
 | d + 1, i, hi => by
  refine (eqCond_l0 l hl d (i + 1) (by omega)).step fun k => ?_
  rw [laws_eqConditionS.l0, if_pos (by omega), if_pos (by omega), if_pos (by omega), wn1 i (by omega)]
  unfold laws_eqCondition.f
  rw [if_pos rfl, if_pos rfl, if_pos rfl, Option.bind_some, if_pos rfl]
theorem eqCond_ev (l : List S40) (hl : l.length ≤ 1048576) : Evn (fun k => laws_eqConditionS.f k l l) true :=
 (eqCond_l0 l hl l.length 0 (by omega)).of_eq fun k => by unfold laws_eqConditionS.f; rw [if_pos rfl]; rfl
theorem eqSt_ev (x : S37) (hx : FitT x) : Evn (fun k => laws_eqStatement.f k x.f0 x.f1 x.f2 x.f3 x.f4 x.f0 x.f1 x.f2 x.f3 x.f4) true := by
 obtain ⟨k1, e1⟩ := eqString_ev x.f1 hx.1
 obtain ⟨k2, e2⟩ := eqString_ev x.f2 hx.2.1
 obtain ⟨k3, e3⟩ := eqString_ev x.f3 hx.2.2.1
 obtain ⟨k4, e4⟩ := eqCond_ev x.f4 hx.2.2.2
 refine ⟨k1 + k2 + k3 + k4, fun k hk => ?_⟩
 show laws_eqStatement.f k _ _ _ _ _ _ _ _ _ _ = _
 unfold laws_eqStatement.f
 exact if_yes rfl (bind_step (e1 k (by omega)) (if_yes rfl (bind_step (e2 k (by omega)) (if_yes rfl (bind_step (e3 k (by omega)) (if_yes rfl (bind_step (e4 k (by omega)) (if_yes rfl rfl))))))))
theorem eqStS_l0 (l : List S37) (hl : l.length ≤ 1048576) (hq : ∀ j, j < l.length → FitT (rd_T37 l (j : Int))) : ∀ d i : Nat, i + d = l.length → Evn (fun k => laws_eqStatementS.l0 k l l (i : Int)) true
 | 0, i, hi => (Evn.const _).step fun k => by rw [laws_eqStatementS.l0, if_neg (by omega)]
 | d + 1, i, hi => by
  obtain ⟨k1, e1⟩ := eqSt_ev _ (hq i (by omega))
  obtain ⟨k2, e2⟩ := eqStS_l0 l hl hq d (i + 1) (by omega)
  refine ⟨k1 + k2 + 1, fun k hk => ?_⟩
  obtain ⟨k, rfl⟩ : ∃ n, k = n + 1 := ⟨k - 1, by omega⟩
  have hr := e2 k (by omega)
  show laws_eqStatementS.l0 (k + 1) _ _ _ = _
  rw [laws_eqStatementS.l0, wn1 i (by omega)]
  exact if_yes (by omega) (if_yes (by omega) (if_yes (by omega) (bind_step (e1 k (by omega)) (if_yes rfl hr))))
theorem eqStS_ev (l : List S37) (hl : l.length ≤ 1048576) (hq : ∀ j, j < l.length → FitT (rd_T37 l (j : Int))) : Evn (fun k => laws_eqStatementS.f k l l) true :=
 (eqStS_l0 l hl hq l.length 0 (by omega)).of_eq fun k => by unfold laws_eqStatementS.f; rw [if_pos rfl]; rfl
theorem rd_convS (l : List S33) (i : Nat) (hi : i < l.length) : rd_T37 (l.map convS) (i : Int) = convS (rd_T33 l (i : Int)) := by
 rw [rd37, rd33, List.getD_eq_getElem?_getD, List.getD_eq_getElem?_getD, List.getElem?_map, List.getElem?_eq_getElem hi]
 rfl

theorem wrd0 (c : Int) : wrdB 0 c = (decide (33 ≤ c) && decide (c ≤ 126)) := by
 unfold wrdB
 by_cases h : 33 ≤ c
 ·have h0 : ¬ c = 0 := by omega
  rw [decide_eq_true h, decide_eq_false h0]; simp
 ·rw [decide_eq_false h]; rfl
theorem word_l0 (s : ByteArray) (hs : (s.size : Int) ≤ 200) : ∀ d i : Nat, i + d = s.size → allTo (wrdB 0) s i = true → Evn (fun k => spec_l09Word.l0 k s (i : Int)) (allTo (wrdB 0) s s.size)
 | 0, i, hi, ha => by
  obtain rfl : i = s.size := by omega
  refine (Evn.const _).step fun k => ?_
  rw [spec_l09Word.l0, if_neg (by omega), ha]
 | d + 1, i, hi, ha => by
  by_cases h1 : bt s (i : Int) < 33
  ·rw [allTo_false (s := s) (n := s.size) (show i < s.size by omega) (by rw [wrd0, decide_eq_false (by omega)]; rfl)]
   refine (Evn.const _).step fun k => ?_
   rw [spec_l09Word.l0, if_pos (by omega), if_pos (by omega), if_pos h1]
  by_cases h2 : bt s (i : Int) > 126
  ·rw [allTo_false (s := s) (n := s.size) (show i < s.size by omega) (by rw [wrd0, decide_eq_false (show ¬ bt s (i : Int) ≤ 126 by omega), Bool.and_false])]
   refine (Evn.const _).step fun k => ?_
   rw [spec_l09Word.l0, if_pos (by omega), if_pos (by omega), if_neg h1, if_pos h2]
  refine (word_l0 s hs d (i + 1) (by omega) (allTo_step ha (by rw [wrd0, decide_eq_true (by omega), decide_eq_true (show bt s (i : Int) ≤ 126 by omega)]; rfl))).step fun k => ?_
  rw [spec_l09Word.l0, if_pos (by omega), if_pos (by omega), if_neg h1, if_neg h2, wn1 i (by omega)]
theorem word_ev (s : ByteArray) : Evn (fun k => spec_l09Word.f k s) (plainB s 0) := by
 by_cases h1 : (s.size : Int) < 1
 ·refine (Evn.const _).step fun k => ?_
  unfold spec_l09Word.f plainB
  rw [if_pos h1, spec_l09Word.j0, if_pos rfl, decide_eq_false (by omega)]; rfl
 ·by_cases h2 : (s.size : Int) > 200
  ·refine (Evn.const _).step fun k => ?_
   unfold spec_l09Word.f plainB
   rw [if_neg h1, decide_eq_true h2, spec_l09Word.j0, if_pos rfl, decide_eq_false (show ¬ (s.size : Int) ≤ 200 by omega), Bool.false_and, Bool.and_false]
  ·have e : plainB s 0 = allTo (wrdB 0) s s.size := by
    unfold plainB
    rw [decide_eq_true (show (s.size : Int) ≤ 200 by omega), decide_eq_true (show 1 ≤ (s.size : Int) by omega)]; rfl
   rw [e]
   refine (word_l0 s (by omega) s.size 0 (by omega) rfl).step fun k => ?_
   unfold spec_l09Word.f
   rw [if_neg h1, decide_eq_false h2, spec_l09Word.j0, if_neg (by decide)]; rfl
/-! ### the byte ',' -/
def noC (c : Int) : Bool := !decide (c = 44)
theorem ext_one (s : ByteArray) (i : Nat) (hi : i < s.size) : ((s.extract i (i + 1)).toList = (⟨#[44]⟩ : ByteArray).toList) = (bt s (i : Int) = 44) := by
 have hb : bt s (i : Int) = ((s[i]'hi).toNat : Int) := (bt_at s (i : Int) hi).symm
 have hd : i < s.data.toList.length := by rw [Array.length_toList]; exact hi
 have hl : s.data.toList[i] = s[i]'hi := by rw [Array.getElem_toList]; rfl
 rw [hb, ByteArray.toList_eq, ByteArray.toList_eq, ByteArray.data_extract, Array.toList_extract, List.extract_eq_take_drop, show i + 1 - i = 1 by omega, List.drop_eq_getElem_cons hd, List.take_succ_cons, List.take_zero, hl]
 apply propext
 constructor
 ·intro e
  have := (List.cons.inj e).1
  rw [this]; rfl
 ·intro e
  have h44 : (s[i]'hi).toNat = 44 := by omega
  have : s[i]'hi = 44 := UInt8.toNat_inj.1 (h44.trans rfl)
  rw [this]
theorem comma_l0 (s : ByteArray) (hs : s.size ≤ 1000) : ∀ d i : Nat, i + d = s.size → allTo noC s i = true → ∃ t, Evn (fun k => spec_l01Index.l0 k s (⟨#[44]⟩ : ByteArray) (i : Int)) t ∧ decide (t ≥ 0) = !allTo noC s s.size
 | 0, i, hi, ha => by
  obtain rfl : i = s.size := by omega
  refine ⟨-1, (Evn.const _).step fun k => ?_, by rw [ha]; rfl⟩
  have e : wrap64 ((s.size : Int) + ((⟨#[44]⟩ : ByteArray).size : Int)) = ((s.size + 1 : Nat) : Int) := wn1 s.size (by omega)
  rw [spec_l01Index.l0, e, if_neg (by clear e; omega)]
 | d + 1, i, hi, ha => by
  have e : wrap64 ((i : Int) + ((⟨#[44]⟩ : ByteArray).size : Int)) = ((i + 1 : Nat) : Int) := wn1 i (by omega)
  have hx := ext_one s i (by clear e; omega)
  by_cases h : bt s (i : Int) = 44
  ·refine ⟨i, (Evn.const _).step fun k => ?_, ?_⟩
   ·rw [spec_l01Index.l0, e, if_pos (by clear e; omega), if_pos (by clear e; omega), if_pos (by clear e; omega), Int.toNat_natCast, Int.toNat_natCast, if_pos (hx ▸ h)]
   ·rw [allTo_false (s := s) (n := s.size) (show i < s.size by clear e; omega) (by unfold noC; rw [decide_eq_true h]; rfl), decide_eq_true (by clear e; omega)]; rfl
  ·obtain ⟨t, ht, hc⟩ := comma_l0 s hs d (i + 1) (by clear e; omega) (allTo_step ha (by unfold noC; rw [decide_eq_false h]; rfl))
   refine ⟨t, ht.step fun k => ?_, hc⟩
   rw [spec_l01Index.l0, e, if_pos (by clear e; omega), if_pos (by clear e; omega), if_pos (by clear e; omega), Int.toNat_natCast, Int.toNat_natCast, if_neg (fun q => h (hx ▸ q)), wn1 i (by clear e; omega)]
theorem allTo_and (p q r : Int → Bool) (h : ∀ c, r c = (p c && q c)) (s : ByteArray) : ∀ n, allTo r s n = (allTo p s n && allTo q s n)
 | 0 => rfl
 | n + 1 => by
  rw [allTo_succ, allTo_succ, allTo_succ, allTo_and p q r h s n, h]
  cases allTo p s n <;> cases allTo q s n <;> cases p (bt s (n : Int)) <;> cases q (bt s (n : Int)) <;> rfl
theorem plain44 (s : ByteArray) : plainB s 44 = (plainB s 0 && allTo noC s s.size) := by
 unfold plainB
 rw [allTo_and (wrdB 0) noC (wrdB 44) (fun c => by rw [wrd0]; unfold wrdB noC; cases decide (33 ≤ c) <;> cases decide (c ≤ 126) <;> rfl)]
 cases decide (1 ≤ (s.size : Int)) <;> cases decide ((s.size : Int) ≤ 200) <;> cases allTo (wrdB 0) s s.size <;> rfl
theorem plain_small {s : ByteArray} {x : Int} (h : plainB s x = true) : s.size ≤ 200 := by
 unfold plainB at h
 rw [Bool.and_eq_true, Bool.and_eq_true] at h
 have := of_decide_eq_true h.2.1
 omega
/-! ### lists -/
def allL {α : Type} (d : α) (p : α → Bool) (l : List α) (n : Nat) : Bool := (List.range n).all fun i => p (l.getD i d)
theorem allL_succ {α : Type} (d : α) (p : α → Bool) (l : List α) (n : Nat) : allL d p l (n + 1) = (allL d p l n && p (l.getD n d)) := by
 unfold allL; rw [List.range_succ, List.all_append]; simp
theorem allL_false {α : Type} {d : α} {p : α → Bool} {l : List α} {i n : Nat} (hi : i < n) (h : p (l.getD i d) = false) : allL d p l n = false := by
 unfold allL
 rw [List.all_eq_false]
 exact ⟨i, List.mem_range.2 hi, by rw [h]; decide⟩
theorem allL_step {α : Type} {d : α} {p : α → Bool} {l : List α} {i : Nat} (h : allL d p l i = true) (hq : p (l.getD i d) = true) : allL d p l (i + 1) = true := by rw [allL_succ, h, hq]; rfl
theorem allL_at {α : Type} {d : α} {p : α → Bool} {l : List α} {n : Nat} (h : allL d p l n = true) (i : Nat) (hi : i < n) : p (l.getD i d) = true := by
 unfold allL at h
 rw [List.all_eq_true] at h
 exact h i (List.mem_range.2 hi)
def entB (s : ByteArray) : Bool := plainB s 44
def listB (l : List ByteArray) : Bool := decide (1 ≤ (l.length : Int)) && (decide ((l.length : Int) ≤ 20) && allL ByteArray.empty entB l l.length)
theorem list_l0 (l : List ByteArray) (hl : l.length ≤ 1048576) : ∀ d i : Nat, i + d = l.length → allL ByteArray.empty entB l i = true → Evn (fun k => spec_l09List.l0 k l (i : Int)) (allL ByteArray.empty entB l l.length)
 | 0, i, hi, ha => by
  obtain rfl : i = l.length := by omega
  refine (Evn.const _).step fun k => ?_
  rw [spec_l09List.l0, if_neg (by omega), ha]
 | d + 1, i, hi, ha => by
  obtain ⟨k1, e1⟩ := word_ev (l.getD i ByteArray.empty)
  have hp : entB (l.getD i ByteArray.empty) = _ := plain44 (l.getD i ByteArray.empty)
  cases hw : plainB (l.getD i ByteArray.empty) 0 with
  | false =>
   rw [hw] at hp e1
   rw [allL_false (n := l.length) (show i < l.length by omega) hp]
   refine ⟨k1 + 1, fun k hk => ?_⟩
   obtain ⟨k, rfl⟩ : ∃ n, k = n + 1 := ⟨k - 1, by omega⟩
   show spec_l09List.l0 (k + 1) _ _ = _
   rw [spec_l09List.l0, rdO]
   exact if_yes (by omega) (if_yes (by omega) (bind_step (e1 k (by omega)) (if_no (by decide) rfl)))
  | true =>
   have hsm := plain_small hw
   rw [hw] at hp e1
   obtain ⟨t, ⟨k2, e2⟩, hc⟩ := comma_l0 (l.getD i ByteArray.empty) (by omega) (l.getD i ByteArray.empty).size 0 (by omega) rfl
   cases hn : allTo noC (l.getD i ByteArray.empty) (l.getD i ByteArray.empty).size with
   | false =>
    rw [hn] at hp hc
    have ht := of_decide_eq_true (hc : decide (t ≥ 0) = true)
    rw [allL_false (n := l.length) (show i < l.length by omega) hp]
    refine ⟨k1 + k2 + 1, fun k hk => ?_⟩
    obtain ⟨k, rfl⟩ : ∃ n, k = n + 1 := ⟨k - 1, by omega⟩
    have e2' : spec_l01Index.f k (l.getD i ByteArray.empty) (⟨#[44]⟩ : ByteArray) 0 = some t := e2 k (by omega)
    show spec_l09List.l0 (k + 1) _ _ = _
    rw [spec_l09List.l0, rdO]
    exact if_yes (by omega) (if_yes (by omega) (bind_step (e1 k (by omega)) (if_yes rfl (bind_step e2' (if_yes ht rfl)))))
   | true =>
    rw [hn] at hp hc
    have ht : ¬ t ≥ 0 := of_decide_eq_false (hc : decide (t ≥ 0) = false)
    obtain ⟨k3, e3⟩ := list_l0 l hl d (i + 1) (by omega) (allL_step ha hp)
    refine ⟨k1 + k2 + k3 + 1, fun k hk => ?_⟩
    obtain ⟨k, rfl⟩ : ∃ n, k = n + 1 := ⟨k - 1, by omega⟩
    have e2' : spec_l01Index.f k (l.getD i ByteArray.empty) (⟨#[44]⟩ : ByteArray) 0 = some t := e2 k (by omega)
    have e3' := e3 k (by omega)
    show spec_l09List.l0 (k + 1) _ _ = _
    rw [spec_l09List.l0, rdO, wn1 i (by omega)]
    exact if_yes (by omega) (if_yes (by omega) (bind_step (e1 k (by omega)) (if_yes rfl (bind_step e2' (if_no ht e3')))))
theorem list_ev (l : List ByteArray) (hl : l.length ≤ 1048576) : Evn (fun k => spec_l09List.f k l) (listB l) := by
 by_cases h1 : (l.length : Int) < 1
 ·refine (Evn.const _).step fun k => ?_
  unfold spec_l09List.f listB
  rw [if_pos h1, spec_l09List.j0, if_pos rfl, decide_eq_false (by omega)]; rfl
 ·by_cases h2 : (l.length : Int) > 20
  ·refine (Evn.const _).step fun k => ?_
   unfold spec_l09List.f listB
   rw [if_neg h1, decide_eq_true h2, spec_l09List.j0, if_pos rfl, decide_eq_false (show ¬ (l.length : Int) ≤ 20 by omega), Bool.false_and, Bool.and_false]
  ·have e : listB l = allL ByteArray.empty entB l l.length := by
    unfold listB
    rw [decide_eq_true (show (l.length : Int) ≤ 20 by omega), decide_eq_true (show 1 ≤ (l.length : Int) by omega)]; rfl
   rw [e]
   refine (list_l0 l hl l.length 0 (by omega) rfl).step fun k => ?_
   unfold spec_l09List.f
   rw [if_neg h1, decide_eq_false h2, spec_l09List.j0, if_neg (by decide)]; rfl
theorem ilist_l0 (l : List ByteArray) (hl : l.length ≤ 1048576) : ∀ d i : Nat, i + d = l.length → allL ByteArray.empty entB l i = true → Evn (fun k => impl_listFault.l0 k l l (l.length : Int) (i : Int)) (!listB l)
 | 0, i, hi, ha => by
  obtain rfl : i = l.length := by omega
  refine (Evn.const _).step fun k => ?_
  unfold listB
  rw [impl_listFault.l0, if_neg (by omega), ha]
  by_cases h1 : (l.length : Int) < 1
  ·rw [if_pos h1, decide_eq_false (by omega)]; rfl
  ·rw [if_neg h1, decide_eq_true (show 1 ≤ (l.length : Int) by omega)]
   by_cases h2 : (l.length : Int) > 20
   ·rw [decide_eq_true h2, decide_eq_false (show ¬ (l.length : Int) ≤ 20 by omega)]; rfl
   ·rw [decide_eq_false h2, decide_eq_true (show (l.length : Int) ≤ 20 by omega)]; rfl
 | d + 1, i, hi, ha => by
  obtain ⟨k1, e1⟩ := plain_ev (l.getD i ByteArray.empty) 44
  cases hp : entB (l.getD i ByteArray.empty) with
  | false =>
   have hp' : plainB (l.getD i ByteArray.empty) 44 = false := hp
   rw [hp'] at e1
   have : listB l = false := by
    unfold listB
    rw [allL_false (n := l.length) (show i < l.length by omega) hp, Bool.and_false, Bool.and_false]
   rw [this]
   refine ⟨k1 + 1, fun k hk => ?_⟩
   obtain ⟨k, rfl⟩ : ∃ n, k = n + 1 := ⟨k - 1, by omega⟩
   show impl_listFault.l0 (k + 1) _ _ _ _ = _
   rw [impl_listFault.l0, rdO]
   exact if_yes (by omega) (if_yes (by omega) (if_yes (by omega) (bind_step (e1 k (by omega)) (if_no (by decide) rfl))))
  | true =>
   have hp' : plainB (l.getD i ByteArray.empty) 44 = true := hp
   rw [hp'] at e1
   obtain ⟨k3, e3⟩ := ilist_l0 l hl d (i + 1) (by omega) (allL_step ha hp)
   refine ⟨k1 + k3 + 1, fun k hk => ?_⟩
   obtain ⟨k, rfl⟩ : ∃ n, k = n + 1 := ⟨k - 1, by omega⟩
   have e3' := e3 k (by omega)
   show impl_listFault.l0 (k + 1) _ _ _ _ = _
   rw [impl_listFault.l0, rdO, wn1 i (by omega)]
   exact if_yes (by omega) (if_yes (by omega) (if_yes (by omega) (bind_step (e1 k (by omega)) (if_yes rfl e3'))))
theorem ilist_ev (l : List ByteArray) (hl : l.length ≤ 1048576) : Evn (fun k => impl_listFault.f k l) (!listB l) := ilist_l0 l hl l.length 0 (by omega) rfl
end Go.Proofs.YtpdgopabnihpiaaDoor.QA
