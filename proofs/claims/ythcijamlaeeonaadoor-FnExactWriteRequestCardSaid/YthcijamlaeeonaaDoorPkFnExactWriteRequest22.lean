/- Requests written: both sides' text. Requests: what the laws' sizes, copies and comparisons come to. FnExactWriteRequest: what is left of the law, over numbers and lists. The listed table is the table of powers of ten. Conditions: those that each theorem states. -/
import Derived.Test.YthcijamlaeeonaaDoorPkFnExactWriteRequest21
import Derived.Test.YthcijamlaeeonaaDoorPkFnExactWriteRequest19
import Derived.Test.YthcijamlaeeonaaDoorPkFnExactWriteRequest13
import Derived.Test.YthcijamlaeeonaaDoorPkFnExactWriteRequest2
import Derived.Test.YthcijamlaeeonaaDoorPkFnExactWriteRequest3
import Derived.Test.YthcijamlaeeonaaDoorPkFnExactWriteRequest5
import Derived.Test.YthcijamlaeeonaaDoorRows
import Derived.Test.YthcijamlaeeonaaDoorPkFnExactWriteRequest1
namespace Go.Proofs.YthcijamlaeeonaaDoor.QA
open Go.RowKit Go.Proofs.YthcijamlaeeonaaDoorW.PrintWords Go.Proofs.YthcijamlaeeonaaDoorW.PrintLast Go.Proofs.YthcijamlaeeonaaDoorW.PrintMore
set_option linter.unusedVariables false
set_option linter.unusedSimpArgs false

theorem sz2 (c d : UInt8) : (⟨#[c, d]⟩ : ByteArray).size = 2 := rfl
theorem sz8 : (⟨#[108, 101, 110, 103, 116, 104, 58, 32]⟩ : ByteArray).size = 8 := rfl
/-- A list of pairs within the bounds. -/
def gdS (l : List S38) : Prop := l.length ≤ 30 ∧ ∀ i : Nat, i < l.length → (rd_T38 l (i : Int)).f0.size ≤ 1000 ∧ (rd_T38 l (i : Int)).f1.size ≤ 1000
def prS (l : List S38) (i : Nat) : ByteArray := pairS (rd_T38 l (i : Int)).f0 (rd_T38 l (i : Int)).f1
def qryTo (l : List S38) (x : ByteArray) : Nat → ByteArray
 | 0 => x
 | i + 1 => (qryTo l x i ++ (if i = 0 then (⟨#[63]⟩ : ByteArray) else (⟨#[38]⟩ : ByteArray))) ++ prS l i
def hdrTo (l : List S38) (x : ByteArray) : Nat → ByteArray
 | 0 => x
 | i + 1 => (((hdrTo l x i ++ (rd_T38 l (i : Int)).f0) ++ (⟨#[58, 32]⟩ : ByteArray)) ++ (rd_T38 l (i : Int)).f1) ++ (⟨#[10]⟩ : ByteArray)
def endS (x b : ByteArray) : ByteArray := ((x ++ (⟨#[108, 101, 110, 103, 116, 104, 58, 32]⟩ : ByteArray)) ++ decS b.size) ++ (⟨#[10, 10]⟩ : ByteArray)
theorem prS_size {l : List S38} (hl : gdS l) (i : Nat) (hi : i < l.length) : (prS l i).size ≤ 6001 := by
 obtain ⟨h1, h2⟩ := hl.2 i hi
 have := pairS_size (rd_T38 l (i : Int)).f0 (rd_T38 l (i : Int)).f1
 unfold prS
 omega
theorem qryTo_size {l : List S38} (hl : gdS l) (x : ByteArray) : ∀ i, i ≤ l.length → (qryTo l x i).size ≤ x.size + 6002 * i
 | 0, _ => Nat.le_refl _
 | i + 1, hi => by
  have h1 := qryTo_size hl x i (by omega)
  have h2 := prS_size hl i (by omega)
  rw [qryTo, ByteArray.size_append, ByteArray.size_append]
  have : (if i = 0 then (⟨#[63]⟩ : ByteArray) else (⟨#[38]⟩ : ByteArray)).size = 1 := by split <;> rfl
  omega
theorem hdrTo_size {l : List S38} (hl : gdS l) (x : ByteArray) : ∀ i, i ≤ l.length → (hdrTo l x i).size ≤ x.size + 2003 * i
 | 0, _ => Nat.le_refl _
 | i + 1, hi => by
  have h1 := hdrTo_size hl x i (by omega)
  obtain ⟨h2, h3⟩ := hl.2 i (by omega)
  rw [hdrTo, ByteArray.size_append, ByteArray.size_append, ByteArray.size_append, ByteArray.size_append, sz1, sz2]
  omega
section
variable (m p : ByteArray) (q h : List S38) (b : ByteArray)
theorem head_l1 (hb : b.size ≤ 100000) (hh : gdS h) (x : ByteArray) (hx : x.size ≤ 1000000) : ∀ d i : Nat, i + d = h.length → Evn (fun k => spec_l10Head.l1 k (hdrTo h x i) (i : Int) m p q h b) (endS (hdrTo h x h.length) b)
 | 0, i, hi => by
  obtain rfl : i = h.length := by omega
  have hs := hdrTo_size hh x h.length (Nat.le_refl _)
  have hl := hh.1
  have hd := decS_size b.size
  obtain ⟨ka, ea⟩ := dec_ev b.size (by omega)
  refine ⟨ka + 1, fun k hk => ?_⟩
  obtain ⟨k, rfl⟩ : ∃ n, k = n + 1 := ⟨k - 1, by omega⟩
  show spec_l10Head.l1 (k + 1) _ _ m p q h b = _
  rw [spec_l10Head.l1, if_neg (by omega)]
  refine if_yes (by omega) (bind_step (ea k (by omega)) (if_yes ?_ (if_yes ?_ rfl)))
  ·rw [ByteArray.size_append, sz8]; omega
  ·rw [ByteArray.size_append, ByteArray.size_append, sz8]; omega
 | d + 1, i, hi => by
  have ih := head_l1 hb hh x hx d (i + 1) (by omega)
  have hs := hdrTo_size hh x i (by omega)
  have hl := hh.1
  obtain ⟨h2, h3⟩ := hh.2 i (by omega)
  refine ih.step fun k => ?_
  rw [spec_l10Head.l1, if_pos (by omega), if_pos (by omega), wn1 i (by omega)]
  refine if_yes ?_ (if_yes ?_ (if_yes ?_ (if_yes ?_ rfl)))
  ·omega
  ·rw [ByteArray.size_append]; omega
  ·rw [ByteArray.size_append, ByteArray.size_append, sz2]; omega
  ·rw [ByteArray.size_append, ByteArray.size_append, ByteArray.size_append, sz2]; omega
/-- What both sides write of a right request, its body left out. -/
def headS (x : ByteArray) : ByteArray := endS (hdrTo h (qryTo q x q.length ++ (⟨#[10]⟩ : ByteArray)) h.length) b
theorem head_l0 (hb : b.size ≤ 100000) (hq : gdS q) (hh : gdS h) (x : ByteArray) (hx : x.size ≤ 100000) : ∀ d i : Nat, i + d = q.length → Evn (fun k => spec_l10Head.l0 k (qryTo q x i) (i : Int) m p q h b) (headS q h b x)
 | 0, i, hi => by
  obtain rfl : i = q.length := by omega
  have hs := qryTo_size hq x q.length (Nat.le_refl _)
  have hl := hq.1
  refine (head_l1 m p q h b hb hh (qryTo q x q.length ++ (⟨#[10]⟩ : ByteArray)) (by rw [ByteArray.size_append, sz1]; omega) h.length 0 (by omega)).step fun k => ?_
  rw [spec_l10Head.l0, if_neg (by omega), if_pos (by omega)]
  rfl
 | d + 1, i, hi => by
  have hs := qryTo_size hq x i (by omega)
  have hl := hq.1
  obtain ⟨h2, h3⟩ := hq.2 i (by omega)
  have hp := prS_size hq i (by omega)
  obtain ⟨ka, ea⟩ := specPair_ev (rd_T38 q (i : Int)).f0 (rd_T38 q (i : Int)).f1 (by omega) (by omega)
  obtain ⟨kb, eb⟩ := head_l0 hb hq hh x hx d (i + 1) (by omega)
  refine ⟨ka + kb + 1, fun k hk => ?_⟩
  obtain ⟨k, rfl⟩ : ∃ n, k = n + 1 := ⟨k - 1, by omega⟩
  show spec_l10Head.l0 (k + 1) _ _ m p q h b = _
  rw [spec_l10Head.l0, if_pos (by omega), wn1 i (by omega)]
  have hr := eb k (by omega)
  by_cases h0 : i = 0
  ·rw [qryTo, if_pos h0] at hr
   refine if_yes (by omega) (if_yes (by omega) (if_yes (by omega) (bind_step (ea k (by omega)) (if_yes ?_ hr))))
   rw [ByteArray.size_append, sz1]
   unfold prS at hp
   omega
  ·rw [qryTo, if_neg h0] at hr
   refine if_no (by omega) (if_yes (by omega) (if_yes (by omega) (bind_step (ea k (by omega)) (if_yes ?_ hr))))
   rw [ByteArray.size_append, sz1]
   unfold prS at hp
   omega
def begS : ByteArray := (m ++ (⟨#[32]⟩ : ByteArray)) ++ escS p
theorem begS_size (hm : m.size ≤ 1000) (hp : p.size ≤ 1000) : (begS m p).size ≤ 5000 := by
 have := escS_size p
 unfold begS
 rw [ByteArray.size_append, ByteArray.size_append, sz1]; omega
theorem head_ev (hm : m.size ≤ 1000) (hp : p.size ≤ 1000) (hb : b.size ≤ 100000) (hq : gdS q) (hh : gdS h) : Evn (fun k => spec_l10Head.f k m p q h b) (headS q h b (begS m p)) := by
 have hx := begS_size m p hm hp
 have he := escS_size p
 obtain ⟨ka, ea⟩ := escape_ev p (by omega)
 obtain ⟨kb, eb⟩ := head_l0 m p q h b hb hq hh (begS m p) (by omega) q.length 0 (by omega)
 refine ⟨ka + kb, fun k hk => ?_⟩
 show spec_l10Head.f k m p q h b = _
 unfold spec_l10Head.f
 refine if_yes (by omega) (bind_step (ea k (by omega)) (if_yes ?_ (eb k (by omega))))
 rw [ByteArray.size_append, sz1]; omega
theorem headS_size (hb : b.size ≤ 100000) (hq : gdS q) (hh : gdS h) (x : ByteArray) (hx : x.size ≤ 100000) : (headS q h b x).size ≤ 1000000 := by
 have h1 := qryTo_size hq x q.length (Nat.le_refl _)
 have h2 := hdrTo_size hh (qryTo q x q.length ++ (⟨#[10]⟩ : ByteArray)) h.length (Nat.le_refl _)
 have h3 := decS_size b.size
 have h4 := hq.1
 have h5 := hh.1
 rw [ByteArray.size_append, sz1] at h2
 unfold headS endS
 rw [ByteArray.size_append, ByteArray.size_append, ByteArray.size_append, sz2, sz8]
 omega

/-! ### the program's side -/
def prsS (l : List S38) (i : Nat) : List ByteArray := (List.range i).map fun j : Nat => prS l j
theorem prsS_succ (l : List S38) (i : Nat) : prsS l (i + 1) = prsS l i ++ [prS l i] := by unfold prsS; rw [List.range_succ, List.map_append]; rfl
theorem joinTail_snoc (sep : List UInt8) (r : List (List UInt8)) (y : List UInt8) : Lib.joinTail sep (r ++ [y]) = Lib.joinTail sep r ++ sep ++ y := by
 unfold Lib.joinTail; simp
theorem joinS_one (y sep : ByteArray) : joinS [y] sep = y := by
 unfold joinS
 rw [List.map_cons, List.map_nil, Lib.join_one]
theorem joinS_snoc (l : List ByteArray) (y sep : ByteArray) (hl : l ≠ []) : joinS (l ++ [y]) sep = (joinS l sep ++ sep) ++ y := by
 obtain ⟨a, r, rfl⟩ : ∃ a r, l = a :: r := by cases l with | nil => exact absurd rfl hl | cons a r => exact ⟨a, r, rfl⟩
 refine ByteArray.ext (Array.ext' ?_)
 unfold joinS
 rw [ByteArray.data_append, ByteArray.data_append, Array.toList_append, Array.toList_append]
 show Lib.join _ _ = Lib.join _ _ ++ _ ++ _
 rw [List.cons_append, List.map_cons, List.map_cons, List.map_append, Lib.join_cons, Lib.join_cons, List.map_cons, List.map_nil, joinTail_snoc]
 simp only [List.append_assoc]
theorem qryTo_join (l : List S38) (x : ByteArray) : ∀ i, qryTo l x (i + 1) = x ++ ((⟨#[63]⟩ : ByteArray) ++ joinS (prsS l (i + 1)) (⟨#[38]⟩ : ByteArray))
 | 0 => by
  have : prsS l 1 = [prS l 0] := rfl
  rw [this, joinS_one, qryTo, if_pos rfl, qryTo, ByteArray.append_assoc]
 | i + 1 => by
  rw [qryTo, if_neg (by omega), qryTo_join l x i, prsS_succ l (i + 1), joinS_snoc _ _ _ (by rw [prsS_succ]; simp)]
  simp only [ByteArray.append_assoc]
theorem query_l0 (l : List S38) (hl : gdS l) (hb : (joinS (prsS l l.length) (⟨#[38]⟩ : ByteArray)).size ≤ 1000000) : ∀ d i : Nat, i + d = l.length → Evn (fun k => impl_writeQuery.l0 k (prsS l i) l (l.length : Int) (i : Int)) (joinS (prsS l l.length) (⟨#[38]⟩ : ByteArray))
 | 0, i, hi => by
  obtain rfl : i = l.length := by omega
  have hn := hl.1
  refine (Evn.const _).step fun k => ?_
  rw [impl_writeQuery.l0, if_neg (by omega)]
  refine bind_step (v := joinS (prsS l l.length) (⟨#[38]⟩ : ByteArray)) ?_ rfl
  unfold strings_Join.f
  exact if_yes ⟨by unfold prsS; rw [List.length_map, List.length_range]; omega, by omega⟩ rfl
 | d + 1, i, hi => by
  have hn := hl.1
  obtain ⟨h2, h3⟩ := hl.2 i (by omega)
  obtain ⟨ka, ea⟩ := implPair_ev (rd_T38 l (i : Int)).f0 (rd_T38 l (i : Int)).f1 (by omega) (by omega)
  obtain ⟨kb, eb⟩ := query_l0 l hl hb d (i + 1) (by omega)
  refine ⟨ka + kb + 1, fun k hk => ?_⟩
  obtain ⟨k, rfl⟩ : ∃ n, k = n + 1 := ⟨k - 1, by omega⟩
  have hr := eb k (by omega)
  show impl_writeQuery.l0 (k + 1) _ _ _ _ = _
  rw [impl_writeQuery.l0, wn1 i (by omega)]
  refine if_yes (by omega) (if_yes (by omega) (if_yes (by omega) (bind_step (ea k (by omega)) (if_yes ?_ ?_))))
  ·unfold prsS; rw [List.length_map, List.length_range]; omega
  ·rw [prsS_succ] at hr; exact hr
theorem wr_l0 (hb : b.size ≤ 100000) (hh : gdS h) (x : ByteArray) (hx : x.size ≤ 1000000) : ∀ d i : Nat, i + d = h.length → Evn (fun k => impl_WriteRequest.l0 k (hdrTo h x i) h (h.length : Int) (i : Int) m p q h b) (endS (hdrTo h x h.length) b ++ b)
 | 0, i, hi => by
  obtain rfl : i = h.length := by omega
  have hs := hdrTo_size hh x h.length (Nat.le_refl _)
  have hl := hh.1
  have hd := decS_size b.size
  refine (Evn.const _).step fun k => ?_
  rw [impl_WriteRequest.l0, if_neg (by omega)]
  refine if_yes (by omega) (bind_step (v := decS b.size) ?_ (if_yes ?_ (if_yes ?_ (if_yes ?_ rfl))))
  ·unfold strconv_Itoa.f
   exact if_yes (by omega) (by rw [Lib.itoa_nonneg]; rfl)
  ·rw [ByteArray.size_append, sz8]; omega
  ·rw [ByteArray.size_append, ByteArray.size_append, sz8]; omega
  ·rw [ByteArray.size_append, ByteArray.size_append, ByteArray.size_append, sz8, sz2]; omega
 | d + 1, i, hi => by
  have ih := wr_l0 hb hh x hx d (i + 1) (by omega)
  have hs := hdrTo_size hh x i (by omega)
  have hl := hh.1
  obtain ⟨h2, h3⟩ := hh.2 i (by omega)
  refine ih.step fun k => ?_
  rw [impl_WriteRequest.l0, wn1 i (by omega)]
  refine if_yes (by omega) (if_yes (by omega) (if_yes (by omega) (if_yes ?_ (if_yes ?_ (if_yes ?_ (if_yes ?_ ?_))))))
  ·omega
  ·rw [ByteArray.size_append, sz2]; omega
  ·rw [ByteArray.size_append, ByteArray.size_append, sz2]; omega
  ·rw [ByteArray.size_append, ByteArray.size_append, ByteArray.size_append, sz2, sz1]; omega
  ·rw [hdrTo]
   simp only [ByteArray.append_assoc]
theorem wr_j0 (hb : b.size ≤ 100000) (hh : gdS h) (x : ByteArray) (hx : x.size ≤ 500000) : Evn (fun k => impl_WriteRequest.j0 k x m p q h b) (endS (hdrTo h (x ++ (⟨#[10]⟩ : ByteArray)) h.length) b ++ b) := by
 refine (wr_l0 m p q h b hb hh (x ++ (⟨#[10]⟩ : ByteArray)) (by rw [ByteArray.size_append, sz1]; omega) h.length 0 (by omega)).step fun k => ?_
 rw [impl_WriteRequest.j0, if_pos (by omega)]
 rfl
end

def BIG : Int := 9223372036854775807
/-- What is left of a size is no more than it was, and what was taken fits. -/
theorem sz_step (left : Int) (n : Nat) (h0 : 0 ≤ left) (h1 : left ≤ 1048576) (hn : (n : Int) ≤ 9223372036854775807) : wrap64 (left - (n : Int)) = left - (n : Int) := w64n (by omega) (by omega)
theorem rd47_mem (l : List S47) (i : Nat) (hi : i < l.length) : rd_T47 l (i : Int) ∈ l := by
 unfold rd_T47
 rw [Int.toNat_natCast, List.getD_eq_getElem?_getD, List.getElem?_eq_getElem hi]
 exact List.getElem_mem hi
theorem szPair_ex (a b : ByteArray) (left : Int) (h0 : 0 ≤ left) (h1 : left ≤ 1048576) (ha : (a.size : Int) ≤ 9223372036854775807) (hb : (b.size : Int) ≤ 9223372036854775807) :
  ∃ t, laws_szPair.f a b left = some t ∧ (t < 0 ∨ (0 ≤ t ∧ t ≤ left ∧ (a.size : Int) ≤ 1048576 ∧ (b.size : Int) ≤ 1048576)) := by
 unfold laws_szPair.f
 rw [sz_step left a.size h0 h1 ha]
 by_cases h2 : left - (a.size : Int) < 0
 ·rw [if_pos h2]; exact ⟨-1, rfl, .inl (by omega)⟩
 ·rw [if_neg h2, sz_step (left - (a.size : Int)) b.size (by omega) (by omega) hb]
  by_cases h3 : left - (a.size : Int) - (b.size : Int) < 0
  ·rw [if_pos h3]; exact ⟨-1, rfl, .inl (by omega)⟩
  ·rw [if_neg h3]; exact ⟨_, rfl, .inr (by omega)⟩
theorem szPairS_l0 (l : List S47) (hl : l.length ≤ 1048576) (hq : ∀ x ∈ l, (x.f0.size : Int) ≤ 9223372036854775807 ∧ (x.f1.size : Int) ≤ 9223372036854775807) :
  ∀ (d i : Nat) (left : Int), i + d = l.length → 0 ≤ left → left ≤ 1048576 → ∃ t, Evn (fun k => laws_szPairS.l0 k l left (i : Int)) t ∧ (t < 0 ∨ (0 ≤ t ∧ t ≤ left ∧ ∀ j, i ≤ j → j < l.length → ((rd_T47 l (j : Int)).f0.size : Int) ≤ 1048576 ∧ ((rd_T47 l (j : Int)).f1.size : Int) ≤ 1048576))
 | 0, i, left, hi, h0, h1 => by
  refine ⟨left, (Evn.const _).step fun k => ?_, .inr ⟨h0, Int.le_refl _, fun j a b => by omega⟩⟩
  rw [laws_szPairS.l0, if_neg (by omega)]
 | d + 1, i, left, hi, h0, h1 => by
  obtain ⟨q1, q2⟩ := hq _ (rd47_mem l i (by omega))
  obtain ⟨t, ht, hc⟩ := szPair_ex (rd_T47 l (i : Int)).f0 (rd_T47 l (i : Int)).f1 left h0 h1 q1 q2
  by_cases hneg : t < 0
  ·refine ⟨-1, (Evn.const _).step fun k => ?_, .inl (by omega)⟩
   rw [laws_szPairS.l0, if_pos (by omega), if_pos (by omega)]
   exact bind_step ht (by rw [if_pos hneg])
  ·obtain ⟨c0, c1, c2, c3⟩ := hc.resolve_left hneg
   obtain ⟨t', ht', hc'⟩ := szPairS_l0 l hl hq d (i + 1) t (by omega) c0 (by omega)
   refine ⟨t', ht'.step fun k => ?_, hc'.imp id fun ⟨a, b, c⟩ => ⟨a, by omega, fun j hj hjl => ?_⟩⟩
   ·rw [laws_szPairS.l0, if_pos (by omega), if_pos (by omega), wn1 i (by omega)]
    exact bind_step ht (by rw [if_neg hneg])
   ·by_cases e : j = i
    ·subst e; exact ⟨c2, c3⟩
    ·exact c j (by omega) hjl
/-- A list of pairs that fits. -/
def Fit47 (l : List S47) : Prop := l.length ≤ 1048576 ∧ ∀ j, j < l.length → ((rd_T47 l (j : Int)).f0.size : Int) ≤ 1048576 ∧ ((rd_T47 l (j : Int)).f1.size : Int) ≤ 1048576
theorem szPairS_ex (l : List S47) (left : Int) (h0 : 0 ≤ left) (h1 : left ≤ 1048576) (hl : (l.length : Int) ≤ 9223372036854775807) (hq : ∀ x ∈ l, (x.f0.size : Int) ≤ 9223372036854775807 ∧ (x.f1.size : Int) ≤ 9223372036854775807) :
  ∃ t, Evn (fun k => laws_szPairS.f k l left) t ∧ (t < 0 ∨ (0 ≤ t ∧ t ≤ left ∧ Fit47 l)) := by
 have hs := sz_step left l.length h0 h1 hl
 by_cases h2 : left - (l.length : Int) < 0
 ·refine ⟨-1, (Evn.const _).of_eq fun k => ?_, .inl (by omega)⟩
  unfold laws_szPairS.f
  rw [hs, if_pos h2]
 ·have hl2 : l.length ≤ 1048576 := by clear hs; omega
  obtain ⟨t, ht, hc⟩ := szPairS_l0 l hl2 hq l.length 0 (left - (l.length : Int)) (by clear hs; omega) (by clear hs; omega) (by clear hs; omega)
  refine ⟨t, ht.of_eq fun k => ?_, hc.imp id fun ⟨a, b, c⟩ => ⟨a, by clear hs; omega, hl2, fun j hj => c j (by clear hs; omega) hj⟩⟩
  unfold laws_szPairS.f
  rw [hs, if_neg h2]
  rfl
theorem szRequest_ex (m p : ByteArray) (q h : List S47) (b : ByteArray) (hm : (m.size : Int) ≤ 9223372036854775807) (hp : (p.size : Int) ≤ 9223372036854775807) (hb : (b.size : Int) ≤ 9223372036854775807) (hql : (q.length : Int) ≤ 9223372036854775807) (hhl : (h.length : Int) ≤ 9223372036854775807)
  (hq : ∀ x ∈ q, (x.f0.size : Int) ≤ 9223372036854775807 ∧ (x.f1.size : Int) ≤ 9223372036854775807) (hh : ∀ x ∈ h, (x.f0.size : Int) ≤ 9223372036854775807 ∧ (x.f1.size : Int) ≤ 9223372036854775807) (left : Int) (h0 : 0 ≤ left) (h1 : left ≤ 1048576) :
  ∃ t, Evn (fun k => laws_szRequest.f k m p q h b left) t ∧ (t < 0 ∨ (0 ≤ t ∧ t ≤ left ∧ (m.size : Int) ≤ 1048576 ∧ (p.size : Int) ≤ 1048576 ∧ (b.size : Int) ≤ 1048576 ∧ Fit47 q ∧ Fit47 h)) := by
 have s1 := sz_step left m.size h0 h1 hm
 by_cases h2 : left - (m.size : Int) < 0
 ·refine ⟨-1, (Evn.const _).of_eq fun k => ?_, .inl (by omega)⟩
  unfold laws_szRequest.f
  rw [s1, if_pos h2]
 have l1 : 0 ≤ left - (m.size : Int) ∧ left - (m.size : Int) ≤ 1048576 := by clear s1; omega
 have s2 := sz_step (left - (m.size : Int)) p.size l1.1 l1.2 hp
 by_cases h3 : left - (m.size : Int) - (p.size : Int) < 0
 ·refine ⟨-1, (Evn.const _).of_eq fun k => ?_, .inl (by clear s1 s2; omega)⟩
  unfold laws_szRequest.f
  rw [s1, if_neg h2, s2, if_pos h3]
 have l2 : 0 ≤ left - (m.size : Int) - (p.size : Int) ∧ left - (m.size : Int) - (p.size : Int) ≤ 1048576 := by clear s1 s2; omega
 obtain ⟨t1, ht1, c1⟩ := szPairS_ex q _ l2.1 l2.2 hql hq
 by_cases h4 : t1 < 0
 ·refine ⟨-1, (Evn.bind (H := fun t k => if t < 0 then some (-1) else ((laws_szPairS.f k h t).bind fun t106 => (if t106 < 0 then (some (-1)) else (if (wrap64 (t106 - (b.size : Int))) < 0 then (some (-1)) else (some (wrap64 (t106 - (b.size : Int)))))))) ht1 (b := -1) ((Evn.const _).of_eq fun k => by simp only [if_pos h4])).of_eq fun k => ?_, .inl (by clear s1 s2; omega)⟩
  unfold laws_szRequest.f
  rw [s1, if_neg h2, s2, if_neg h3]
 obtain ⟨d0, d1, d2⟩ := c1.resolve_left h4
 obtain ⟨t2, ht2, c2⟩ := szPairS_ex h t1 d0 (by clear s1 s2; omega) hhl hh
 have main : ∀ r, (if t2 < 0 then (some (-1)) else (if (wrap64 (t2 - (b.size : Int))) < 0 then (some (-1)) else (some (wrap64 (t2 - (b.size : Int)))))) = some r → Evn (fun k => laws_szRequest.f k m p q h b left) r := fun r hr => by
  refine (Evn.bind (H := fun t k => if t < 0 then some (-1) else ((laws_szPairS.f k h t).bind fun t106 => (if t106 < 0 then (some (-1)) else (if (wrap64 (t106 - (b.size : Int))) < 0 then (some (-1)) else (some (wrap64 (t106 - (b.size : Int)))))))) ht1 (b := r) ?_).of_eq fun k => ?_
  ·refine (Evn.bind (H := fun t106 k => (if t106 < 0 then (some (-1)) else (if (wrap64 (t106 - (b.size : Int))) < 0 then (some (-1)) else (some (wrap64 (t106 - (b.size : Int))))))) ht2 (b := r) ((Evn.const _).of_eq fun k => hr)).of_eq fun k => ?_
   simp only [if_neg h4]
  ·unfold laws_szRequest.f
   rw [s1, if_neg h2, s2, if_neg h3]
 by_cases h5 : t2 < 0
 ·exact ⟨-1, main _ (by rw [if_pos h5]), .inl (by clear s1 s2; omega)⟩
 obtain ⟨g0, g1, g2⟩ := c2.resolve_left h5
 have s3 := sz_step t2 b.size g0 (by clear s1 s2; omega) hb
 by_cases h6 : t2 - (b.size : Int) < 0
 ·exact ⟨-1, main _ (by rw [if_neg h5, s3, if_pos h6]), .inl (by clear s1 s2 s3; omega)⟩
 ·exact ⟨_, main _ (by rw [if_neg h5, s3, if_neg h6]), .inr (by clear s1 s2 s3 main; exact ⟨by omega, by omega, by omega, by omega, by omega, d2, g2⟩)⟩

/-! ### the copy -/
def conv (x : S47) : S38 := ⟨x.f0, x.f1⟩
def convTo (l : List S47) (i : Nat) : List S38 := (l.take i).map conv ++ List.replicate (l.length - i) z38
theorem convTo_len (l : List S47) (i : Nat) (hi : i ≤ l.length) : (convTo l i).length = l.length := by
 unfold convTo; rw [List.length_append, List.length_map, List.length_take, List.length_replicate]; omega
theorem convTo_set (l : List S47) (i : Nat) (hi : i < l.length) : (convTo l i).set i (conv (rd_T47 l (i : Int))) = convTo l (i + 1) := by
 have e : rd_T47 l (i : Int) = l[i] := by
  unfold rd_T47
  rw [Int.toNat_natCast, List.getD_eq_getElem?_getD, List.getElem?_eq_getElem hi]; rfl
 unfold convTo
 have hlen : ((l.take i).map conv).length = i := by rw [List.length_map, List.length_take]; omega
 rw [List.set_append_right _ _ (by omega), hlen, Nat.sub_self, List.take_succ_eq_append_getElem hi, List.map_append, List.append_assoc]
 congr 1
 obtain ⟨n, hn⟩ : ∃ n, l.length - i = n + 1 := ⟨l.length - i - 1, by omega⟩
 rw [hn, List.replicate_succ, List.set_cons_zero, e, show l.length - (i + 1) = n by omega]
 rfl
theorem toPairS_l0 (l : List S47) (hl : l.length ≤ 1048576) : ∀ d i : Nat, i + d = l.length → Evn (fun k => laws_toPairS.l0 k l (convTo l i) (i : Int)) (l.map conv)
 | 0, i, hi => by
  obtain rfl : i = l.length := by omega
  refine (Evn.const _).step fun k => ?_
  rw [laws_toPairS.l0, if_neg (by omega)]
  unfold convTo
  simp
 | d + 1, i, hi => by
  have ih := toPairS_l0 l hl d (i + 1) (by omega)
  rw [← convTo_set l i (by omega)] at ih
  refine ih.step fun k => ?_
  rw [laws_toPairS.l0, if_pos (by omega), if_pos (by omega), wn1 i (by omega)]
  unfold laws_toPair.f
  rw [Option.bind_some, if_pos (by rw [convTo_len l i (by omega)]; omega), Int.toNat_natCast]
  rfl
theorem toPairS_ev (l : List S47) (hl : l.length ≤ 1048576) : Evn (fun k => laws_toPairS.f k l) (l.map conv) := by
 refine (toPairS_l0 l hl l.length 0 (by omega)).of_eq fun k => ?_
 unfold laws_toPairS.f
 rw [if_pos (by omega), Int.toNat_natCast, if_pos (by omega)]
 rfl
theorem toRequest_ev (m p : ByteArray) (q h : List S47) (b : ByteArray) (hq : q.length ≤ 1048576) (hh : h.length ≤ 1048576) : Evn (fun k => laws_toRequest.f k m p q h b) (m, p, q.map conv, h.map conv, b) := by
 refine (Evn.bind (H := fun t k => (laws_toPairS.f k h).bind fun t136 => (some (m, p, t, t136, b))) (toPairS_ev q hq) (b := (m, p, q.map conv, h.map conv, b)) ?_).of_eq fun k => rfl
 exact Evn.bind (H := fun t136 k => some (m, p, q.map conv, t136, b)) (toPairS_ev h hh) (Evn.const _)

/-! ### the comparison with itself -/
theorem eqPairS_l0 (l : List S38) (hl : l.length ≤ 1048576) : ∀ d i : Nat, i + d = l.length → Evn (fun k => laws_eqPairS.l0 k l l (i : Int)) true
 | 0, i, hi => (Evn.const _).step fun k => by rw [laws_eqPairS.l0, if_neg (by omega)]
 | d + 1, i, hi => by
  refine (eqPairS_l0 l hl d (i + 1) (by omega)).step fun k => ?_
  rw [laws_eqPairS.l0, if_pos (by omega), if_pos (by omega), if_pos (by omega), wn1 i (by omega)]
  unfold laws_eqPair.f
  rw [if_pos rfl, if_pos rfl, Option.bind_some, if_pos rfl]
theorem eqPairS_ev (l : List S38) (hl : l.length ≤ 1048576) : Evn (fun k => laws_eqPairS.f k l l) true :=
 (eqPairS_l0 l hl l.length 0 (by omega)).of_eq fun k => by unfold laws_eqPairS.f; rw [if_pos rfl]; rfl
theorem eqRequest_ev (m p : ByteArray) (q h : List S38) (b : ByteArray) (hq : q.length ≤ 1048576) (hh : h.length ≤ 1048576) : Evn (fun k => laws_eqRequest.f k m p q h b m p q h b) true := by
 obtain ⟨ka, e1⟩ := eqPairS_ev q hq
 obtain ⟨kb, e2⟩ := eqPairS_ev h hh
 refine ⟨ka + kb, fun k hk => ?_⟩
 show laws_eqRequest.f k m p q h b m p q h b = some true
 unfold laws_eqRequest.f
 rw [if_pos rfl, if_pos rfl]
 refine bind_step (e1 k (by omega)) ?_
 rw [if_pos rfl]
 refine bind_step (e2 k (by omega)) ?_
 rw [if_pos rfl, if_pos rfl]
theorem rd_conv (l : List S47) (i : Nat) (hi : i < l.length) : rd_T38 (l.map conv) (i : Int) = conv (rd_T47 l (i : Int)) := by
 unfold rd_T38 rd_T47
 rw [Int.toNat_natCast, List.getD_eq_getElem?_getD, List.getD_eq_getElem?_getD, List.getElem?_map, List.getElem?_eq_getElem hi]
 rfl
end Go.Proofs.YthcijamlaeeonaaDoor.QA
namespace Go.Proofs.YthcijamlaeeonaaDoor.QA
open Go.RowKit Go.Proofs.YthcijamlaeeonaaDoorW.PrintWords Go.Proofs.YthcijamlaeeonaaDoorW.PrintLast Go.Proofs.YthcijamlaeeonaaDoorW.PrintMore
set_option linter.unusedVariables false

theorem made_bound {p : Int → Bool} {lo hi : Int} {s : ByteArray} (h : madeB p lo hi s = true) : (s.size : Int) ≤ hi := by
 unfold madeB at h
 split at h
 ·cases h
 ·omega
theorem okTo_at {p : ByteArray → ByteArray → Bool} {l : List S38} {n : Nat} (h : okTo p l n = true) (i : Nat) (hi : i < n) : p (rd_T38 l (i : Int)).f0 (rd_T38 l (i : Int)).f1 = true := by
 unfold okTo at h
 rw [List.all_eq_true] at h
 have := h i (List.mem_range.2 hi)
 rw [Bool.and_eq_true] at this
 exact this.1
theorem pairs_gd {p : ByteArray → ByteArray → Bool} (hp : ∀ n v, p n v = true → n.size ≤ 1000 ∧ v.size ≤ 1000) {l : List S38} (h : pairsB p l = true) : gdS l := by
 unfold pairsB at h
 rw [Bool.and_eq_true] at h
 have h2 := of_decide_eq_true h.2
 exact ⟨by omega, fun i hi => hp _ _ (okTo_at h.1 i hi)⟩
theorem query_bound (n v : ByteArray) (h : queryB n v = true) : n.size ≤ 1000 ∧ v.size ≤ 1000 := by
 rw [queryB_val, Bool.and_eq_true, Bool.and_eq_true] at h
 have h2 := of_decide_eq_true h.2.1
 have h3 := of_decide_eq_true h.2.2
 omega
theorem head_bound (n v : ByteArray) (h : headB n v = true) : n.size ≤ 1000 ∧ v.size ≤ 1000 := by
 rw [headB_val, Bool.and_eq_true, Bool.and_eq_true] at h
 have h2 := made_bound h.1.1
 have h3 := h.2
 unfold valB at h3
 rw [Bool.and_eq_true] at h3
 have h4 := made_bound h3.1
 omega
theorem fault_gd {m p : ByteArray} {q h : List S38} {b : ByteArray} (hf : faultI m p q h b = 0) : m.size ≤ 1000 ∧ p.size ≤ 1000 ∧ b.size ≤ 100000 ∧ gdS q ∧ gdS h := by
 unfold faultI at hf
 split at hf
 ·rename_i hr
  unfold reqB at hr
  rw [Bool.and_eq_true, Bool.and_eq_true, Bool.and_eq_true, Bool.and_eq_true] at hr
  obtain ⟨r1, r2, r3, r4, r5⟩ := hr
  have b1 := made_bound r1
  rw [pathB_val, Bool.and_eq_true, Bool.and_eq_true] at r2
  have b2 := of_decide_eq_true r2.2.1
  have b5 := of_decide_eq_true r5
  exact ⟨by omega, by omega, by omega, pairs_gd query_bound r3, pairs_gd head_bound r4⟩
 ·cases hf
/-- What both sides write. -/
def wrS (m p : ByteArray) (q h : List S38) (b : ByteArray) : ByteArray := if faultI m p q h b = 0 then headS q h b (begS m p) ++ b else ⟨#[]⟩
theorem specWr_ev (m p : ByteArray) (q h : List S38) (b : ByteArray) (hm : m.size ≤ 1000000000) (hq : smS q) (hh : smS h) : Evn (fun k => spec_WriteRequest.f k m p q h b) (wrS m p q h b) := by
 obtain ⟨ka, ea⟩ := req_ev m p q h b hm hq hh
 unfold wrS
 by_cases hf : faultI m p q h b = 0
 ·obtain ⟨g1, g2, g3, g4, g5⟩ := fault_gd hf
  have hs := headS_size q h b g3 g4 g5 (begS m p) (by have := begS_size m p g1 g2; omega)
  obtain ⟨kb, eb⟩ := head_ev m p q h b g1 g2 g3 g4 g5
  refine ⟨ka + kb, fun k hk => ?_⟩
  show spec_WriteRequest.f k m p q h b = _
  unfold spec_WriteRequest.f
  rw [if_pos hf]
  exact bind_step (ea k (by omega)) (if_yes hf (bind_step (eb k (by omega)) (if_yes (by omega) rfl)))
 ·refine ⟨ka, fun k hk => ?_⟩
  show spec_WriteRequest.f k m p q h b = _
  unfold spec_WriteRequest.f
  rw [if_neg hf]
  exact bind_step (ea k (by omega)) (if_no hf rfl)
theorem implWr_ev (m p : ByteArray) (q h : List S38) (b : ByteArray) (hi : ∀ k, impl_RequestFault.f k m p q h b = some (faultI m p q h b)) : Evn (fun k => impl_WriteRequest.f k m p q h b) (wrS m p q h b) := by
 unfold wrS
 by_cases hf : faultI m p q h b = 0
 ·obtain ⟨g1, g2, g3, g4, g5⟩ := fault_gd hf
  rw [if_pos hf]
  have hb := begS_size m p g1 g2
  have he := escS_size p
  have hql := g4.1
  have hqs := qryTo_size g4 (begS m p) q.length (Nat.le_refl _)
  obtain ⟨ka, ea⟩ := escaped_ev p (by omega)
  obtain ⟨kb, eb⟩ := wr_j0 m p q h b g3 g5 (qryTo q (begS m p) q.length) (by omega)
  by_cases h0 : q.length = 0
  ·rw [h0] at eb
   refine ⟨ka + kb, fun k hk => ?_⟩
   have hr := eb k (by omega)
   show impl_WriteRequest.f k m p q h b = _
   unfold impl_WriteRequest.f
   refine bind_step (hi k) (if_yes hf (if_yes (by omega) (bind_step (ea k (by omega)) (if_yes ?_ (if_no (by omega) ?_)))))
   ·rw [ByteArray.size_append, sz1]; omega
   ·unfold headS
    rw [h0]
    exact hr
  ·obtain ⟨n, hn⟩ : ∃ n, q.length = n + 1 := ⟨q.length - 1, by omega⟩
   have hj := qryTo_join q (begS m p) n
   rw [← hn] at hj
   have hjs : (joinS (prsS q q.length) (⟨#[38]⟩ : ByteArray)).size ≤ 200000 := by
    have := congrArg ByteArray.size hj
    rw [ByteArray.size_append, ByteArray.size_append, sz1] at this
    omega
   obtain ⟨kc, ec⟩ := query_l0 q g4 (by omega) q.length 0 (by omega)
   have ec' : ∀ k, kc ≤ k → impl_writeQuery.f k q = some (joinS (prsS q q.length) (⟨#[38]⟩ : ByteArray)) := ec
   refine ⟨ka + kb + kc, fun k hk => ?_⟩
   have hr := eb k (by omega)
   rw [hj] at hr
   show impl_WriteRequest.f k m p q h b = _
   unfold impl_WriteRequest.f
   refine bind_step (hi k) (if_yes hf (if_yes (by omega) (bind_step (ea k (by omega)) (if_yes ?_ (if_yes (by omega) (bind_step (ec' k (by omega)) (if_yes (by omega) (if_yes ?_ ?_))))))))
   ·rw [ByteArray.size_append, sz1]; omega
   ·rw [ByteArray.size_append, ByteArray.size_append, ByteArray.size_append, sz1, sz1]; omega
   ·unfold headS
    rw [hj]
    exact hr
 ·refine ⟨0, fun k hk => ?_⟩
  show impl_WriteRequest.f k m p q h b = _
  unfold impl_WriteRequest.f
  rw [if_neg hf]
  exact bind_step (hi k) (if_no hf rfl)
theorem fit_sm {l : List S47} (h : Fit47 l) : smS (l.map conv) := by
 refine ⟨by rw [List.length_map]; have := h.1; omega, fun i hi => ?_⟩
 rw [List.length_map] at hi
 have := h.2 i hi
 rw [rd_conv l i hi]
 unfold conv
 exact ⟨by show (rd_T47 l (i : Int)).f0.size ≤ _; omega, by show (rd_T47 l (i : Int)).f1.size ≤ _; omega⟩
theorem fit_sz {l : List S47} (h : Fit47 l) : szB (l.map conv) = true := by
 unfold szB
 rw [Bool.and_eq_true, List.all_eq_true]
 refine ⟨decide_eq_true (by rw [List.length_map]; have := h.1; omega), fun x hx => ?_⟩
 obtain ⟨i, hi, rfl⟩ := List.mem_iff_getElem.1 hx
 rw [List.length_map] at hi
 have hb := h.2 i hi
 have e : rd_T47 l (i : Int) = l[i] := by
  unfold rd_T47
  rw [Int.toNat_natCast, List.getD_eq_getElem?_getD, List.getElem?_eq_getElem hi]; rfl
 rw [e] at hb
 rw [List.getElem_map]
 unfold conv
 rw [Bool.and_eq_true]
 exact ⟨decide_eq_true (by show l[i].f0.size ≤ _; omega), decide_eq_true (by show l[i].f1.size ≤ _; omega)⟩
theorem max_int {n : Nat} (h : n ≤ maxLen) : (n : Int) ≤ 9223372036854775807 := by unfold maxLen at h; omega
theorem q47_int {l : List S47} (h : ∀ y ∈ l, Q47 y) : ∀ x ∈ l, (x.f0.size : Int) ≤ 9223372036854775807 ∧ (x.f1.size : Int) ≤ 9223372036854775807 := fun x hx => ⟨max_int (h x hx).1, max_int (h x hx).2⟩
theorem FnExactWriteRequest : FnExactWriteRequestPure := by
 intro m p q h b hP
 obtain ⟨p1, p2, ⟨p3, p4⟩, ⟨p5, p6⟩, p7⟩ := hP
 obtain ⟨t, ht, hc⟩ := szRequest_ex m p q h b (max_int p1) (max_int p2) (max_int p7) (max_int p3) (max_int p5) (q47_int p4) (q47_int p6) 1048576 (by omega) (by omega)
 obtain ⟨ka, ea⟩ := ht
 by_cases hneg : t < 0
 ·refine ⟨ka, ?_⟩
  unfold laws_FnExactWriteRequest.f
  exact bind_step (ea ka (Nat.le_refl _)) (by rw [if_pos hneg])
 ·obtain ⟨_, _, hm, hp, hb, hq, hh⟩ := hc.resolve_left hneg
  obtain ⟨kb, eb⟩ := toRequest_ev m p q h b hq.1 hh.1
  have hi : ∀ k, impl_RequestFault.f k m p (q.map conv) (h.map conv) b = some (faultI m p (q.map conv) (h.map conv) b) := fun k => by
   unfold impl_RequestFault.f
   rw [if_pos ⟨by omega, fit_sz hq, fit_sz hh⟩]
  obtain ⟨kc, ec⟩ := specWr_ev m p (q.map conv) (h.map conv) b (by omega) (fit_sm hq) (fit_sm hh)
  obtain ⟨ke, ee⟩ := implWr_ev m p (q.map conv) (h.map conv) b hi
  obtain ⟨kd, ed⟩ := eqRequest_ev m p (q.map conv) (h.map conv) b (by rw [List.length_map]; exact hq.1) (by rw [List.length_map]; exact hh.1)
  refine ⟨ka + kb + kc + kd + ke, ?_⟩
  have b1 := eb (ka + kb + kc + kd + ke) (by omega)
  unfold laws_FnExactWriteRequest.f
  refine bind_step (ea _ (by omega)) ?_
  rw [if_neg hneg]
  refine bind_step b1 (bind_step (ec _ (by omega)) (bind_step b1 (bind_step (ee _ (by omega)) ?_)))
  rw [if_pos rfl]
  exact bind_step b1 (bind_step (ed _ (by omega)) (by rw [if_pos rfl]))

end Go.Proofs.YthcijamlaeeonaaDoor.QA
namespace Go.Proofs.YthcijamlaeeonaaDoor.QA
theorem pow_eq : (Rows.laid_internal_strconv_uint64pow10 : DataW Unit) = Lib.tabData .u64 Lib.pow10Tab := by kernel_rfl
end Go.Proofs.YthcijamlaeeonaaDoor.QA
