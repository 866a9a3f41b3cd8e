/- Policies written: the specification's text. FnExactWritePolicy: what is left of the law, over numbers and lists. The listed table is the table of powers of ten. Conditions: those that each theorem states. -/
import Derived.Test.YtpdgopabnihpiaaDoorPkFnExactWritePolicy23
import Derived.Test.YtpdgopabnihpiaaDoorPkFnExactWritePolicy21
import Derived.Test.YtpdgopabnihpiaaDoorRows
import Derived.Test.YtpdgopabnihpiaaDoorPkFnExactWritePolicy1
namespace Go.Proofs.YtpdgopabnihpiaaDoor.QA
open Go.RowKit Go.Proofs.YtpdgopabnihpiaaDoorW.PrintWords Go.Proofs.YtpdgopabnihpiaaDoorW.PrintLast Go.Proofs.YtpdgopabnihpiaaDoorW.PrintMore
set_option linter.unusedVariables false
set_option linter.unusedSimpArgs false

theorem lit1 : ((⟨#[32]⟩ : ByteArray) ++ (⟨#[112, 114, 101, 102, 105, 120]⟩ : ByteArray)) ++ (⟨#[32]⟩ : ByteArray) = ⟨#[32, 112, 114, 101, 102, 105, 120, 32]⟩ := ByteArray.ext (by rw [ByteArray.data_append, ByteArray.data_append]; rfl)
theorem lit2 : ((⟨#[32]⟩ : ByteArray) ++ (⟨#[98, 101, 102, 111, 114, 101]⟩ : ByteArray)) ++ (⟨#[32]⟩ : ByteArray) = ⟨#[32, 98, 101, 102, 111, 114, 101, 32]⟩ := ByteArray.ext (by rw [ByteArray.data_append, ByteArray.data_append]; rfl)
theorem lit3 : ((⟨#[32]⟩ : ByteArray) ++ (⟨#[97, 102, 116, 101, 114]⟩ : ByteArray)) ++ (⟨#[32]⟩ : ByteArray) = ⟨#[32, 97, 102, 116, 101, 114, 32]⟩ := ByteArray.ext (by rw [ByteArray.data_append, ByteArray.data_append]; rfl)
theorem lit4 : ((⟨#[32]⟩ : ByteArray) ++ (⟨#[102, 114, 111, 109]⟩ : ByteArray)) ++ (⟨#[32]⟩ : ByteArray) = ⟨#[32, 102, 114, 111, 109, 32]⟩ := ByteArray.ext (by rw [ByteArray.data_append, ByteArray.data_append]; rfl)
theorem put_lit {w d : ByteArray} (h : ((⟨#[32]⟩ : ByteArray) ++ w) ++ (⟨#[32]⟩ : ByteArray) = d) (x t : ByteArray) : x ++ (d ++ t) = (((x ++ (⟨#[32]⟩ : ByteArray)) ++ w) ++ (⟨#[32]⟩ : ByteArray)) ++ t := by
 rw [← h]
 simp only [ByteArray.append_assoc]
theorem sw_l1 (l : List S37) (hn : l.length ≤ 50) (i : Nat) (hi : i < l.length) (f0 : Int) (f1 f2 f3 : List ByteArray) (c : List S40) (hc10 : c.length ≤ 10) (hc : ∀ j, j < c.length → GoodC (c.getD j z40)) (x : ByteArray) (hx : x.size ≤ 9000000000000) (R : ByteArray)
  (hb : ((cTo c x c.length ++ (⟨#[10]⟩ : ByteArray)).size : Int) > 10000 → R = ⟨#[]⟩)
  (h0 : ¬ ((cTo c x c.length ++ (⟨#[10]⟩ : ByteArray)).size : Int) > 10000 → Evn (fun k => spec_WritePolicy.l0 k l (cTo c x c.length ++ (⟨#[10]⟩ : ByteArray)) ((i + 1 : Nat) : Int)) R) :
  ∀ d j : Nat, j + d = c.length → Evn (fun k => spec_WritePolicy.l1 k l (cTo c x j) (i : Int) (j : Int) f0 f1 f2 f3 c) R
 | 0, j, hj => by
  obtain rfl : j = c.length := by omega
  have hs := cTo_size hc x c.length (Nat.le_refl _)
  by_cases hbig : ((cTo c x c.length ++ (⟨#[10]⟩ : ByteArray)).size : Int) > 10000
  ·rw [hb hbig]
   refine (Evn.const _).step fun k => ?_
   rw [spec_WritePolicy.l1, if_neg (by omega), if_pos (by omega), if_pos hbig]
  ·refine (h0 hbig).step fun k => ?_
   rw [spec_WritePolicy.l1, if_neg (by omega), if_pos (by omega), if_neg hbig, wn1 i (by omega)]
 | d + 1, j, hj => by
  have hs := cTo_size hc x j (by omega)
  have hg := hc j (by omega)
  obtain ⟨k1, e1⟩ := sw_l1 l hn i hi f0 f1 f2 f3 c hc10 hc x hx R hb h0 d (j + 1) (by omega)
  have hin : 0 ≤ (j : Int) ∧ (j : Int) < (c.length : Int) := by omega
  have hw := wn1 j (by omega)
  have hsz : (cTo c x j).size ≤ 9900000000000 := by omega
  have hr := rd40 c j
  have hto : cTo c x (j + 1) = cTo c x j ++ condS (c.getD j z40) := rfl
  clear hj hs h0 hb hc
  generalize cTo c x j = X at hsz hto ⊢
  cases he : c.getD j z40 with
  | mk c0 c1 c2 =>
  rw [he] at hg hr hto
  obtain ⟨k2, e2⟩ : ∃ k2, ∀ k, k2 ≤ k → (0 ≤ c2 → c2 ≤ 4102444800 → spec_l01Dec.f k c2 = some (decS c2.toNat)) := by
   by_cases hz : 0 ≤ c2 ∧ c2 ≤ 4102444800
   ·obtain ⟨n, rfl⟩ : ∃ n : Nat, c2 = n := ⟨c2.toNat, by omega⟩
    obtain ⟨k2, e2⟩ := dec_ev n (by omega)
    exact ⟨k2, fun k hk _ _ => e2 k hk⟩
   ·exact ⟨0, fun k _ a b => absurd ⟨a, b⟩ hz⟩
  refine ⟨k1 + k2 + 1, fun k hk => ?_⟩
  obtain ⟨k, rfl⟩ : ∃ n, k = n + 1 := ⟨k - 1, by omega⟩
  have e1' := e1 k (by omega)
  have e2' := e2 k (by omega)
  rw [hto] at e1'
  show spec_WritePolicy.l1 (k + 1) _ _ _ _ _ _ _ _ _ = _
  rw [spec_WritePolicy.l1, hr, hw]
  clear e1 e2 hk hto hr hw
  refine if_yes hin.2 (if_yes hin.1 (if_yes (by omega) (bind_step rfl ?_)))
  unfold condS at e1'
  dsimp only at e1' ⊢
  rcases hg with ⟨h | h, hs⟩ | ⟨h | h, hz0, hz1⟩ <;> dsimp only at h <;> subst h
  ·have hs : c1.size ≤ 200 := hs
   refine if_yes (by decide) (if_yes (by decide) (if_yes ?_ (if_yes ?_ (if_yes rfl (if_yes ?_ ?_)))))
   ·rw [ByteArray.size_append, sz1]; show _ + 1 + 6 ≤ _; omega
   ·rw [ByteArray.size_append, ByteArray.size_append, sz1]; show _ + 1 + 6 + 1 ≤ _; omega
   ·rw [ByteArray.size_append, ByteArray.size_append, ByteArray.size_append, sz1]; show _ + 1 + 6 + 1 + c1.size ≤ _; omega
   ·rw [if_pos rfl, put_lit lit1] at e1'
    exact e1'
  ·have hs : c1.size ≤ 200 := hs
   refine if_yes (by decide) (if_yes (by decide) (if_yes ?_ (if_yes ?_ (if_no (by decide) (if_yes rfl (if_yes ?_ ?_))))))
   ·rw [ByteArray.size_append, sz1]; show _ + 1 + 4 ≤ _; omega
   ·rw [ByteArray.size_append, ByteArray.size_append, sz1]; show _ + 1 + 4 + 1 ≤ _; omega
   ·rw [ByteArray.size_append, ByteArray.size_append, ByteArray.size_append, sz1]; show _ + 1 + 4 + 1 + c1.size ≤ _; omega
   ·rw [if_neg (by decide), if_neg (by decide), if_neg (by decide), put_lit lit4] at e1'
    exact e1'
  ·have hd := decS_size c2.toNat
   have hz0 : 0 ≤ c2 := hz0
   have hz1 : c2 ≤ 4102444800 := hz1
   refine if_yes (by decide) (if_yes (by decide) (if_yes ?_ (if_yes ?_ (if_no (by decide) (if_no (by decide) (bind_step (e2' hz0 hz1) (if_yes ?_ ?_)))))))
   ·rw [ByteArray.size_append, sz1]; show _ + 1 + 6 ≤ _; omega
   ·rw [ByteArray.size_append, ByteArray.size_append, sz1]; show _ + 1 + 6 + 1 ≤ _; omega
   ·rw [ByteArray.size_append, ByteArray.size_append, ByteArray.size_append, sz1]; show _ + 1 + 6 + 1 + (decS c2.toNat).size ≤ _; omega
   ·rw [if_neg (by decide), if_pos rfl, put_lit lit2] at e1'
    exact e1'
  ·have hd := decS_size c2.toNat
   have hz0 : 0 ≤ c2 := hz0
   have hz1 : c2 ≤ 4102444800 := hz1
   refine if_yes (by decide) (if_yes (by decide) (if_yes ?_ (if_yes ?_ (if_no (by decide) (if_no (by decide) (bind_step (e2' hz0 hz1) (if_yes ?_ ?_)))))))
   ·rw [ByteArray.size_append, sz1]; show _ + 1 + 5 ≤ _; omega
   ·rw [ByteArray.size_append, ByteArray.size_append, sz1]; show _ + 1 + 5 + 1 ≤ _; omega
   ·rw [ByteArray.size_append, ByteArray.size_append, ByteArray.size_append, sz1]; show _ + 1 + 5 + 1 + (decS c2.toNat).size ≤ _; omega
   ·rw [if_neg (by decide), if_neg (by decide), if_pos rfl, put_lit lit3] at e1'
    exact e1'
theorem sw_l0 (l : List S37) (hn : l.length ≤ 50) (h : ∀ j, j < l.length → GoodS (rd_T37 l (j : Int))) : ∀ d i : Nat, i + d = l.length → (polTo l i).size ≤ 10000 → Evn (fun k => spec_WritePolicy.l0 k l (polTo l i) (i : Int)) (outS l)
 | 0, i, hi, hs => by
  obtain rfl : i = l.length := by omega
  refine (Evn.const _).step fun k => ?_
  unfold outS
  rw [spec_WritePolicy.l0, if_neg (by omega), if_neg (by omega)]
 | d + 1, i, hi, hs => by
  have hg := h i (by omega)
  have z0 := efS_size (rd_T37 l (i : Int)).f0
  have z1 := jS_size hg.2.1
  have z2 := jS_size hg.2.2.1
  have z3 := jS_size hg.2.2.2.1
  have zh := headS_size (polTo l i) hg
  have hbig : ((polTo l (i + 1)).size : Int) > 10000 → outS l = ⟨#[]⟩ := fun e => by
   have := polTo_ge l (i + 1) d
   rw [show i + 1 + d = l.length by omega] at this
   unfold outS
   rw [if_pos (by omega)]
  obtain ⟨k1, e1⟩ := sw_l1 l hn i (by omega) (rd_T37 l (i : Int)).f0 (rd_T37 l (i : Int)).f1 (rd_T37 l (i : Int)).f2 (rd_T37 l (i : Int)).f3 (rd_T37 l (i : Int)).f4 hg.2.2.2.2.1 hg.2.2.2.2.2 (headS (polTo l i) (rd_T37 l (i : Int))) (by omega) (outS l) hbig (fun e => sw_l0 l hn h d (i + 1) (by omega) (by have e : ¬ ((polTo l (i + 1)).size : Int) > 10000 := e; omega)) (rd_T37 l (i : Int)).f4.length 0 (by omega)
  obtain ⟨ka, ea⟩ := join_ev _ hg.2.1
  obtain ⟨kb, eb⟩ := join_ev _ hg.2.2.1
  obtain ⟨kc, ec⟩ := join_ev _ hg.2.2.2.1
  refine ⟨k1 + ka + kb + kc + 1, fun k hk => ?_⟩
  obtain ⟨k, rfl⟩ : ∃ n, k = n + 1 := ⟨k - 1, by omega⟩
  have e1' := e1 k (by omega)
  have ea' := ea k (by omega)
  have eb' := eb k (by omega)
  have ec' := ec k (by omega)
  have hin : 0 ≤ (i : Int) ∧ (i : Int) < (l.length : Int) := by omega
  have hf : 0 ≤ (rd_T37 l (i : Int)).f0 ∧ (rd_T37 l (i : Int)).f0 < 3 := by rcases hg.1 with e | e <;> omega
  have hw : rdOf ByteArray.empty [(⟨#[]⟩ : ByteArray), (⟨#[97, 108, 108, 111, 119]⟩ : ByteArray), (⟨#[100, 101, 110, 121]⟩ : ByteArray)] (rd_T37 l (i : Int)).f0 = efS (rd_T37 l (i : Int)).f0 := by rcases hg.1 with e | e <;> rw [e] <;> rfl
  show spec_WritePolicy.l0 (k + 1) _ _ _ = _
  rw [spec_WritePolicy.l0]
  refine if_yes hin.2 (if_yes hin.1 (bind_step rfl ?_))
  rw [hw]
  clear e1 ea eb ec hbig hw hk
  refine if_yes hf.1 (if_yes hf.2 (if_yes (by omega) (if_yes ?_ (bind_step ea' (if_yes ?_ (if_yes ?_ (bind_step eb' (if_yes ?_ (if_yes ?_ (bind_step ec' (if_yes ?_ e1')))))))))))
  ·simp only [ByteArray.size_append]; omega
  ·simp only [ByteArray.size_append, z5]; omega
  ·simp only [ByteArray.size_append, z5]; omega
  ·simp only [ByteArray.size_append, z5, z4a]; omega
  ·simp only [ByteArray.size_append, z5, z4a]; omega
  ·simp only [ByteArray.size_append, z5, z4a, z4b]; omega

/-! ### the whole -/
def wrS (l : List S37) : ByteArray := if polI l = 0 then outS l else ⟨#[]⟩
theorem polI_good {l : List S37} (h : polI l = 0) : l.length ≤ 50 ∧ ∀ j, j < l.length → GoodS (rd_T37 l (j : Int)) := by
 unfold polI at h
 split at h
 ·rename_i hh
  exact ⟨hh.1, fun j hj => by rw [rd37]; exact goodS_of (allL_at hh.2 j hj)⟩
 ·cases h
theorem specWr_ev (l : List S37) (hq : ∀ j, j < l.length → FitT (rd_T37 l (j : Int))) : Evn (fun k => spec_WritePolicy.f k l) (wrS l) := by
 obtain ⟨ka, ea⟩ := fault_ev l hq
 unfold wrS
 by_cases h : polI l = 0
 ·obtain ⟨hn, hg⟩ := polI_good h
  obtain ⟨kb, eb⟩ := sw_l0 l hn hg l.length 0 (by omega) (Nat.zero_le _)
  refine ⟨ka + kb, fun k hk => ?_⟩
  show spec_WritePolicy.f k l = _
  unfold spec_WritePolicy.f
  rw [if_pos h]
  exact bind_step (ea k (by omega)) (if_yes h (eb k (by omega)))
 ·refine ⟨ka, fun k hk => ?_⟩
  show spec_WritePolicy.f k l = _
  unfold spec_WritePolicy.f
  rw [if_neg h]
  exact bind_step (ea k (by omega)) (if_no h rfl)
theorem implWr_ev (l : List S37) (hq : ∀ j, j < l.length → FitT (rd_T37 l (j : Int))) : Evn (fun k => impl_WritePolicy.f k l) (wrS l) := by
 obtain ⟨ka, ea⟩ := ifault_ev l hq
 unfold wrS
 by_cases h : polI l = 0
 ·obtain ⟨hn, hg⟩ := polI_good h
  obtain ⟨kb, eb⟩ := iw_l0 l hn hg l.length 0 (by omega)
  refine ⟨ka + kb, fun k hk => ?_⟩
  show impl_WritePolicy.f k l = _
  unfold impl_WritePolicy.f
  rw [if_pos h]
  exact bind_step (ea k (by omega)) (if_yes h (eb k (by omega)))
 ·refine ⟨ka, fun k hk => ?_⟩
  show impl_WritePolicy.f k l = _
  unfold impl_WritePolicy.f
  rw [if_neg h]
  exact bind_step (ea k (by omega)) (if_no h rfl)
end Go.Proofs.YtpdgopabnihpiaaDoor.QA
namespace Go.Proofs.YtpdgopabnihpiaaDoor.QA
open Go.RowKit Go.Proofs.YtpdgopabnihpiaaDoorW.PrintWords Go.Proofs.YtpdgopabnihpiaaDoorW.PrintLast Go.Proofs.YtpdgopabnihpiaaDoorW.PrintMore
set_option linter.unusedVariables false

theorem max_int {n : Nat} (h : n ≤ maxLen) : (n : Int) ≤ 9223372036854775807 := by unfold maxLen at h; omega
theorem big_of {x : S33} (h : Q33 x) : BigS x := by
 obtain ⟨_, ⟨a1, b1⟩, ⟨a2, b2⟩, ⟨a3, b3⟩, ⟨a4, b4⟩⟩ := h
 exact ⟨⟨max_int a1, fun y hy => max_int (b1 y hy)⟩, ⟨max_int a2, fun y hy => max_int (b2 y hy)⟩, ⟨max_int a3, fun y hy => max_int (b3 y hy)⟩, ⟨max_int a4, fun y hy => max_int (b4 y hy).2.1⟩⟩
theorem FnExactWritePolicy : FnExactWritePolicyPure := by
 intro l hP
 obtain ⟨t, ⟨ka, ea⟩, hc⟩ := szStS_ex l (max_int hP.1) (fun x hx => big_of (hP.2 x hx))
 by_cases hneg : t < 0
 ·refine ⟨ka, ?_⟩
  unfold laws_FnExactWritePolicy.f
  exact bind_step (ea ka (Nat.le_refl _)) (if_yes hneg rfl)
 ·obtain ⟨hl, hf⟩ := hc.resolve_left hneg
  have hq : ∀ j, j < (l.map convS).length → FitT (rd_T37 (l.map convS) (j : Int)) := fun j hj => by
   rw [List.length_map] at hj
   rw [rd_convS l j hj]
   obtain ⟨f1, f2, f3, f4⟩ := hf j hj
   exact ⟨f1, f2, f3, by show ((rd_T33 l (j : Int)).f4.map convC).length ≤ _; rw [List.length_map]; exact f4⟩
  have hl' : (l.map convS).length ≤ 1048576 := by rw [List.length_map]; exact hl
  obtain ⟨kb, eb⟩ := toStS_ev l hl hf
  obtain ⟨kc, ec⟩ := specWr_ev (l.map convS) hq
  obtain ⟨kd, ed⟩ := implWr_ev (l.map convS) hq
  obtain ⟨ke, ee⟩ := eqStS_ev (l.map convS) hl' hq
  refine ⟨ka + kb + kc + kd + ke, ?_⟩
  have b1 := eb (ka + kb + kc + kd + ke) (by omega)
  unfold laws_FnExactWritePolicy.f
  exact bind_step (ea _ (by omega)) (if_no hneg (bind_step b1 (bind_step (ec _ (by omega)) (bind_step b1 (bind_step (ed _ (by omega)) (if_yes rfl (bind_step b1 (bind_step (ee _ (by omega)) (if_yes rfl rfl)))))))))
end Go.Proofs.YtpdgopabnihpiaaDoor.QA
namespace Go.Proofs.YtpdgopabnihpiaaDoor.QA
theorem pow_eq : (Rows.laid_internal_strconv_uint64pow10 : DataW Unit) = Lib.tabData .u64 Lib.pow10Tab := by kernel_rfl
end Go.Proofs.YtpdgopabnihpiaaDoor.QA
