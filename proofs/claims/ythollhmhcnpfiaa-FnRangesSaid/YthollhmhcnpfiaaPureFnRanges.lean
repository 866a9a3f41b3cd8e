/- FnRanges: the bytes that RangeReads names of a drawn object's stripes, one behind the other, are the range. Conditions: none. -/
import Derived.IntWalk
import Derived.Test.YthollhmhcnpfiaaQAx0
import Derived.Test.YthollhmhcnpfiaaQAxspecDrawSplitObject
import Derived.Test.YthollhmhcnpfiaaQAxlawsFnRanges
namespace Go.Proofs.Ythollhmhcnpfiaa.QA
open Go.RowKit Go.Proofs.YthollhmhcnpfiaaW.PrintWords Go.Proofs.YthollhmhcnpfiaaW.PrintLast
set_option linter.unusedVariables false
set_option linter.unusedSimpArgs false

theorem w64n {n : Int} (h0 : -9223372036854775808 ≤ n) (h1 : n ≤ 9223372036854775807) : wrap64 n = n := (i64_w _).symm.trans (IntWalk.i64_in _ (by omega))
theorem leO_more {α : Type} {F : Nat → Option α} (hm : ∀ k, LeO (F k) (F (k + 1))) {k : Nat} {r : α} (h : F k = some r) : ∀ n, F (k + n) = some r
  | 0 => h
  | n + 1 => hm (k + n) r (leO_more hm h n)
theorem leO_ge {α : Type} {F : Nat → Option α} (hm : ∀ k, LeO (F k) (F (k + 1))) {k k' : Nat} {r : α} (h : F k = some r) (hk : k ≤ k') : F k' = some r := by
  have := leO_more hm h (k' - k)
  rwa [Nat.add_sub_cancel' hk] at this
/-- From some fuel on it is r. -/
def Evn {α : Type} (F : Nat → Option α) (r : α) : Prop := ∃ k0, ∀ k, k0 ≤ k → F k = some r
namespace Evn
variable {α β : Type} {F G : Nat → Option α} {r : α}
theorem const (r : α) : Evn (fun _ => some r) r := ⟨0, fun _ _ => rfl⟩
theorem step (h : Evn G r) (hs : ∀ k, F (k + 1) = G k) : Evn F r := by
  obtain ⟨k0, h⟩ := h
  exact ⟨k0 + 1, fun k hk => by obtain ⟨k', rfl⟩ : ∃ k', k = k' + 1 := ⟨k - 1, by omega⟩; rw [hs]; exact h k' (by omega)⟩
theorem of_eq (h : Evn G r) (hs : ∀ k, F k = G k) : Evn F r := by
  obtain ⟨k0, h⟩ := h
  exact ⟨k0, fun k hk => by rw [hs]; exact h k hk⟩
theorem bind {a : α} {H : α → Nat → Option β} {b : β} (h : Evn F a) (h2 : Evn (H a) b) : Evn (fun k => (F k).bind fun t => H t k) b := by
  obtain ⟨k0, h⟩ := h
  obtain ⟨k1, h2⟩ := h2
  exact ⟨k0 + k1, fun k hk => by show (F k).bind _ = _; rw [h k (by omega), Option.bind_some]; exact h2 k (by omega)⟩
theorem ge (k0 : Nat) (h : ∀ k, k0 ≤ k → F k = some r) : Evn F r := ⟨k0, h⟩
theorem one (h : Evn F r) : ∃ k, F k = some r := ⟨h.choose, h.choose_spec _ (Nat.le_refl _)⟩
end Evn
theorem wn (n : Nat) (h : n ≤ 9223372036854775807) : wrap64 (n : Int) = (n : Int) := w64n (by omega) (by omega)
theorem wn1 (n : Nat) (h : n < 9223372036854775807) : wrap64 ((n : Int) + 1) = ((n + 1 : Nat) : Int) := by rw [w64n (by omega) (by omega)]; omega
end Go.Proofs.Ythollhmhcnpfiaa.QA
namespace Go.Proofs.Ythollhmhcnpfiaa.QA
open Go.RowKit Go.Proofs.YthollhmhcnpfiaaW.PrintWords Go.Proofs.YthollhmhcnpfiaaW.PrintLast
set_option linter.unusedVariables false
set_option linter.unusedSimpArgs false

theorem rd_byte (l : List Int) (hl : ∀ x ∈ l, 0 ≤ x ∧ x ≤ 255) (i : Int) : 0 ≤ rd l i ∧ rd l i ≤ 255 := by
  unfold rd
  rw [List.getD_eq_getElem?_getD]
  cases h : l[i.toNat]? with
  | none => simp
  | some x => simpa using hl x (List.mem_of_getElem? h)
theorem n_ex (l : List Int) (hl : ∀ x ∈ l, 0 ≤ x ∧ x ≤ 255) (hlen : l.length ≤ 9223372036854775807) (s : Nat) (hs : s ≤ 100000) (z a : Int) (ha : 1 ≤ a) (ha2 : a ≤ 100000) : ∃ v : Int, spec_l01Src_n.f l (s : Int) z a = some (v, ((s + 1 : Nat) : Int), z) ∧ 0 ≤ v ∧ v < a := by
  have e1 : wrap64 ((s : Int) + 1) = ((s + 1 : Nat) : Int) := wn1 s (by omega)
  have e2 : wrap64 (((s + 1 : Nat) : Int) - 1) = (s : Int) := by rw [w64n (by omega) (by omega)]; omega
  have e3 : wrap64 ((s : Int) + 1) = (s : Int) + 1 := w64n (by omega) (by omega)
  have hm : ∀ x : Int, 0 ≤ x → 0 ≤ Int.tmod x a ∧ Int.tmod x a < a := fun x hx => ⟨Int.tmod_nonneg _ hx, Int.tmod_lt_of_pos _ (by omega)⟩
  unfold spec_l01Src_n.f
  rw [if_neg (by omega), e1, e2]
  by_cases h0 : (l.length : Int) = 0
  · rw [if_pos h0, if_neg (by omega)]
    have e4 : wrap64 ((s : Int) * 7) = (s : Int) * 7 := w64n (by omega) (by omega)
    rw [e4]
    exact ⟨_, rfl, hm _ (by omega)⟩
  · rw [if_neg h0]
    have hk : 0 < (l.length : Int) := by omega
    have t1 : 0 ≤ Int.tmod (s : Int) (l.length : Int) := Int.tmod_nonneg _ (by omega)
    have t2 : Int.tmod (s : Int) (l.length : Int) < (l.length : Int) := Int.tmod_lt_of_pos _ hk
    have t3 : 0 ≤ Int.tmod ((s : Int) + 1) (l.length : Int) := Int.tmod_nonneg _ (by omega)
    have t4 : Int.tmod ((s : Int) + 1) (l.length : Int) < (l.length : Int) := Int.tmod_lt_of_pos _ hk
    have d1 : 0 ≤ Int.tdiv (s : Int) (l.length : Int) := Int.tdiv_nonneg (by omega) (by omega)
    have d2 : Int.tdiv (s : Int) (l.length : Int) ≤ (s : Int) := by rw [Int.tdiv_eq_ediv_of_nonneg (by omega)]; exact Int.ediv_le_self _ (by omega)
    obtain ⟨r1, r2⟩ := rd_byte l hl (Int.tmod (s : Int) (l.length : Int))
    obtain ⟨r3, r4⟩ := rd_byte l hl (Int.tmod ((s : Int) + 1) (l.length : Int))
    rw [if_pos t1, if_pos t2]
    rw [e1, show (((s + 1 : Nat) : Int)) = (s : Int) + 1 by omega]
    generalize Int.tdiv (s : Int) (l.length : Int) = q at d1 d2 ⊢
    generalize rd l (Int.tmod (s : Int) (l.length : Int)) = x at r1 r2 ⊢
    generalize rd l (Int.tmod ((s : Int) + 1) (l.length : Int)) = y at r3 r4 ⊢
    rw [w64n (n := q) (by omega) (by omega), w64n (n := q * 37) (by omega) (by omega), w64n (n := x) (by omega) (by omega), w64n (n := x + q * 37) (by omega) (by omega)]
    by_cases h2 : a > 200
    · rw [if_pos h2, if_pos t3, if_pos t4, if_neg (by omega), w64n (n := (x + q * 37) * 251) (by omega) (by omega), w64n (n := y) (by omega) (by omega), w64n (n := y * 13) (by omega) (by omega), w64n (n := (x + q * 37) * 251 + y * 13) (by omega) (by omega), w64n (n := (x + q * 37) * 251 + y * 13 + (s : Int)) (by omega) (by omega)]
      exact ⟨_, rfl, hm _ (by omega)⟩
    · rw [if_neg h2, if_neg (by omega)]
      exact ⟨_, rfl, hm _ (by omega)⟩
end Go.Proofs.Ythollhmhcnpfiaa.QA
namespace Go.Proofs.Ythollhmhcnpfiaa.Pure
open Go.RowKit Go.Proofs.Ythollhmhcnpfiaa.QA Go.Proofs.YthollhmhcnpfiaaW.PrintWords Go.Proofs.YthollhmhcnpfiaaW.PrintLast
set_option linter.unusedVariables false
set_option linter.unusedSimpArgs false

/-! ### the draw -/
theorem strOfNums_size (xs : List Int) : (strOfNums xs).size = xs.length := by
  show (strOfNums xs).data.size = _
  rw [← Array.length_toList, strOfNums_data, List.length_map]
theorem one_ex (l : List Int) (hl : ∀ x ∈ l, 0 ≤ x ∧ x ≤ 255) (hlen : l.length ≤ 9223372036854775807) (s : Nat) (hs : s ≤ 100000) (z a : Int) (ha : 1 ≤ a) (ha2 : a ≤ 100000) : ∃ b : Bool, spec_l01Src_one.f l (s : Int) z a = some (b, ((s + 1 : Nat) : Int), z) := by
  obtain ⟨v, hv, _, _⟩ := n_ex l hl hlen s hs z a ha ha2
  exact ⟨v == 0, by unfold spec_l01Src_one.f; rw [hv]; rfl⟩
theorem bytes_l0 (l : List Int) (hl : ∀ x ∈ l, 0 ≤ x ∧ x ≤ 255) (hlen : l.length ≤ 9223372036854775807) (z n kind : Int) (hn0 : 0 ≤ n) (hn : n ≤ 60) :
    ∀ (d i s : Nat) (xs : List Int), (i : Int) + d = n → xs.length ≤ 3 * i → s ≤ 1000 + 2 * i → ∃ b a', spec_l01Src_bytes.l0 (d + 1) n xs kind (i : Int) l (s : Int) z = some (b, a', z) ∧ b.size ≤ 60
  | 0, i, s, xs, hi, hx, hs => by
    simp only [spec_l01Src_bytes.l0]
    rw [if_neg (by omega)]
    by_cases h1 : (xs.length : Int) > n
    · rw [if_pos h1, if_pos (by omega), if_pos hn0, if_pos (by omega)]
      exact ⟨_, _, rfl, by rw [strOfNums_size, List.length_take]; omega⟩
    · rw [if_neg h1]
      exact ⟨_, _, rfl, by rw [strOfNums_size]; omega⟩
  | d + 1, i, s, xs, hi, hx, hs => by
    have ih := bytes_l0 l hl hlen z n kind hn0 hn d (i + 1)
    have e1 : wrap64 ((i : Int) + 1) = ((i + 1 : Nat) : Int) := wn1 i (by omega)
    rw [spec_l01Src_bytes.l0, if_pos (by omega), e1]
    by_cases k0 : kind = 0
    · rw [if_pos k0]
      obtain ⟨v, hv, _, _⟩ := n_ex l hl hlen s (by omega) z 256 (by omega) (by omega)
      rw [hv]; simp only [Option.bind_some]
      rw [if_pos (by omega)]
      exact ih _ _ (by omega) (by simp; omega) (by omega)
    rw [if_neg k0]
    by_cases k1 : kind = 1
    · rw [if_pos k1]
      obtain ⟨v, hv, h1, h2⟩ := n_ex l hl hlen s (by omega) z 9 (by omega) (by omega)
      rw [hv]; simp only [Option.bind_some]
      rw [if_pos h1, if_pos h2, if_pos (by omega)]
      exact ih _ _ (by omega) (by simp; omega) (by omega)
    rw [if_neg k1]
    by_cases k2 : kind = 2
    · rw [if_pos k2]
      obtain ⟨b, hb⟩ := one_ex l hl hlen s (by omega) z 12 (by omega) (by omega)
      obtain ⟨v, hv, h1, h2⟩ := n_ex l hl hlen (s + 1) (by omega) z 95 (by omega) (by omega)
      rw [hb]; simp only [Option.bind_some]
      rw [hv]; simp only [Option.bind_some]
      cases b
      · rw [if_neg (by decide), if_pos (by omega)]
        exact ih _ _ (by omega) (by simp; omega) (by omega)
      · rw [if_pos rfl, if_pos (by simp; omega), if_pos (by simp; omega)]
        exact ih _ _ (by omega) (by simp; omega) (by omega)
    rw [if_neg k2]
    obtain ⟨v, hv, h1, h2⟩ := n_ex l hl hlen s (by omega) z 23 (by omega) (by omega)
    rw [hv]; simp only [Option.bind_some]
    rw [if_pos h1, if_pos h2, if_pos (by omega)]
    exact ih _ _ (by omega) (by simp; omega) (by omega)
theorem code2_ex (l : List Int) (hl : ∀ x ∈ l, 0 ≤ x ∧ x ≤ 255) (hlen : l.length ≤ 9223372036854775807) (s : Nat) (hs : s ≤ 1000) (z : Int) : ∃ (K M G : Int) (s' : Nat), spec_l01Src_code2.f l (s : Int) z = some (K, M, G, (s' : Int), z) ∧ s' ≤ s + 4 ∧ 1 ≤ K ∧ K ≤ 6 ∧ 0 ≤ M ∧ M ≤ 3 ∧ 0 ≤ G ∧ G ≤ K := by
  obtain ⟨a, ha, a0, a1⟩ := n_ex l hl hlen s (by omega) z 6 (by omega) (by omega)
  obtain ⟨b, hb, b0, b1⟩ := n_ex l hl hlen (s + 1) (by omega) z 4 (by omega) (by omega)
  obtain ⟨c, hc⟩ := one_ex l hl hlen (s + 1 + 1) (by omega) z 2 (by omega) (by omega)
  have e1 : wrap64 (1 + a) = 1 + a := w64n (by omega) (by omega)
  have e2 : wrap64 (1 + a + 1) = 1 + a + 1 := w64n (by omega) (by omega)
  obtain ⟨d, hd, d0, d1⟩ := n_ex l hl hlen (s + 1 + 1 + 1) (by omega) z (1 + a + 1) (by omega) (by omega)
  unfold spec_l01Src_code2.f
  rw [ha]; simp only [Option.bind_some]
  rw [hb]; simp only [Option.bind_some]
  rw [hc]; simp only [Option.bind_some]
  rw [e1, e2, hd]; simp only [Option.bind_some]
  cases c
  · exact ⟨_, _, _, _, by rw [if_neg (by decide)], by omega, by omega, by omega, by omega, by omega, by omega, by omega⟩
  · exact ⟨_, _, _, _, by rw [if_pos rfl], by omega, by omega, by omega, by omega, by omega, by omega, by omega⟩
theorem unit_ex (l : List Int) (hl : ∀ x ∈ l, 0 ≤ x ∧ x ≤ 255) (hlen : l.length ≤ 9223372036854775807) (s : Nat) (hs : s ≤ 1000) (z : Int) : ∃ (u : Int) (s' : Nat), spec_l01Src_unit.f l (s : Int) z = some (u, (s' : Int), z) ∧ s' ≤ s + 4 := by
  obtain ⟨c, hc⟩ := one_ex l hl hlen s (by omega) z 20 (by omega) (by omega)
  obtain ⟨a, ha, a0, a1⟩ := n_ex l hl hlen (s + 1) (by omega) z 4 (by omega) (by omega)
  obtain ⟨b, hb, b0, b1⟩ := n_ex l hl hlen (s + 1) (by omega) z 6 (by omega) (by omega)
  unfold spec_l01Src_unit.f
  rw [hc]; simp only [Option.bind_some]
  rw [ha, hb]; simp only [Option.bind_some]
  cases c
  · exact ⟨_, s + 1 + 1, by rw [if_neg (by decide)], by omega⟩
  · exact ⟨_, s + 1 + 1, by rw [if_pos rfl, if_pos a0, if_pos (by simpa using a1)], by omega⟩
theorem source_ex (l : List Int) : ∃ z, spec_l01Source.f l = some (l, 0, z) := by
  unfold spec_l01Source.f
  split <;> exact ⟨_, rfl⟩
theorem draw_ev (l : List Int) (hl : ∀ x ∈ l, 0 ≤ x ∧ x ≤ 255) (hlen : l.length ≤ 9223372036854775807) : ∃ (K M G u : Int) (data : ByteArray), Evn (fun k => spec_DrawSplitObject.f k l) (K, M, G, u, data) ∧ data.size ≤ 60 ∧ 1 ≤ K ∧ K ≤ 6 ∧ 0 ≤ M ∧ M ≤ 3 ∧ 0 ≤ G ∧ G ≤ K := by
  obtain ⟨z, hz⟩ := source_ex l
  obtain ⟨K, M, G, s1, hc, hs1, h1, h2, h3, h4, h5, h6⟩ := code2_ex l hl hlen 0 (by omega) z
  obtain ⟨u, s2, hu, hs2⟩ := unit_ex l hl hlen s1 (by omega) z
  obtain ⟨n, hn, n0, n1⟩ := n_ex l hl hlen s2 (by omega) z 60 (by omega) (by omega)
  obtain ⟨kd, hkd, _, _⟩ := n_ex l hl hlen (s2 + 1) (by omega) z 6 (by omega) (by omega)
  obtain ⟨b, a', hb, hb2⟩ := bytes_l0 l hl hlen z n kd n0 (by omega) n.toNat 0 (s2 + 1 + 1) [] (by omega) (by simp) (by omega)
  refine ⟨K, M, G, u, b, ⟨n.toNat + 1, fun k hk => ?_⟩, hb2, h1, h2, h3, h4, h5, h6⟩
  refine leO_ge (F := fun k => spec_DrawSplitObject.f k l) (fun k => spec_DrawSplitObject.mono _ k) (k := n.toNat + 1) ?_ hk
  show spec_DrawSplitObject.f (n.toNat + 1) l = _
  unfold spec_DrawSplitObject.f
  rw [hz]; simp only [Option.bind_some]
  have hc' : spec_l01Src_code2.f l 0 z = some (K, M, G, (s1 : Int), z) := hc
  rw [hc']; simp only [Option.bind_some]
  rw [hu]; simp only [Option.bind_some]
  rw [hn]; simp only [Option.bind_some]
  unfold spec_l01Src_bytes.f
  rw [hkd]; simp only [Option.bind_some]
  have hb' : spec_l01Src_bytes.l0 (n.toNat + 1) n [] kd 0 l ((s2 + 1 + 1 : Nat) : Int) z = some (b, a', z) := hb
  rw [hb']; rfl

/-! ### the pieces -/
theorem rgOne_nat (K U e a : Nat) (hle : a < e) : rgOne (K : Int) (U : Int) (e : Int) (a : Int) = ⟨((a / (K * U) : Nat) : Int), ((a % (K * U) / U : Nat) : Int), ((a % U : Nat) : Int), ((min (U - a % U) (e - a) : Nat) : Int)⟩ ∨ U = 0 := by
  by_cases hU : U = 0
  · exact .inr hU
  refine .inl ?_
  have hm := Nat.mod_lt a (show U > 0 by omega)
  unfold rgOne mn
  congr 1
  split <;> omega
theorem extract_app (s : ByteArray) (a b c : Nat) (h1 : a ≤ b) (h2 : b ≤ c) : s.extract a b ++ s.extract b c = s.extract a c := by
  apply ByteArray.ext
  rw [ByteArray.data_append, ByteArray.data_extract, ByteArray.data_extract, ByteArray.data_extract, Array.extract_append_extract]
  congr 1 <;> omega
theorem extract_none (s : ByteArray) (a : Nat) : s.extract a a = (⟨#[]⟩ : ByteArray) := by
  apply ByteArray.ext
  rw [ByteArray.data_extract]
  simp
  omega
theorem extract_size (s : ByteArray) (a b : Nat) (h1 : a ≤ b) (h : b ≤ s.size) : (s.extract a b).size = b - a := by
  rw [ByteArray.size_extract]; omega
theorem part_cut (U o c a o' : Nat) (data : ByteArray) (h : o' + o = a) (hc : o + c ≤ U) (ha : a + c ≤ data.size) : (partOf U data o').extract o (o + c) = data.extract a (a + c) := by
  apply ByteArray.ext
  apply Array.ext'
  rw [ByteArray.data_extract, ByteArray.data_extract, Array.toList_extract, Array.toList_extract]
  unfold partOf
  rw [strOfNums_data]
  apply List.ext_getElem
  · simp only [List.extract_eq_take_drop, List.length_take, List.length_drop, List.length_map, wholeOf_len, Array.length_toList]
    have : data.data.size = data.size := rfl
    omega
  · intro p h1 h2
    have hp : p < c := by
      simp only [List.extract_eq_take_drop, List.length_take] at h1
      omega
    simp only [List.extract_eq_take_drop, List.getElem_take, List.getElem_drop, List.getElem_map, wholeOf, List.getElem_range]
    have e : o' + (o + p) = a + p := by omega
    rw [e]
    unfold bt
    rw [dif_pos (by omega)]
    simp only [Int.toNat_natCast, UInt8.ofNat_toNat]
    rfl
theorem rd46 (K M G U n q : Nat) (data : ByteArray) (hq : q < n) : rd_T46 (stripesTo K M G U data n) (q : Int) = stripeOf K M G U data q := by
  unfold rd_T46 stripesTo
  rw [Int.toNat_natCast, List.getD_eq_getElem?_getD, List.getElem?_map, List.getElem?_range hq]; rfl
theorem rd_shard (K M G U q sh : Nat) (data : ByteArray) (hs : sh < K) : rdOf ByteArray.empty (stripeOf K M G U data q).f0 (sh : Int) = partOf U data (q * K * U + sh * U) := by
  unfold rdOf stripeOf shardsTo
  rw [Int.toNat_natCast, List.getD_eq_getElem?_getD, List.getElem?_map, List.getElem?_range (by omega)]
  show shardOf K M G U _ sh = _
  unfold shardOf partsTo
  rw [if_pos hs, List.getD_eq_getElem?_getD, List.getElem?_map, List.getElem?_range hs]; rfl
theorem rd43 {xs : List S43} {i : Nat} {x : S43} (h : xs[i]? = some x) : rd_T43 xs (i : Int) = x := by
  unfold rd_T43
  rw [Int.toNat_natCast, List.getD_eq_getElem?_getD, h]; rfl
/-- Where the range ends. -/
def endOf (size fr cnt : Nat) : Nat := min (min fr size + cnt) size
theorem fin (k : Nat) (u K M G c0 c1 : Int) (data : ByteArray) (fr cnt i : Nat) (ss : List S46) (ys : List S43) (hi : ¬ i < ys.length) (hd : data.size ≤ 60) (hf : fr ≤ 1000) (hcnt : cnt ≤ 255) :
    laws_FnRanges.l0 (k + 1) u data (data.size : Int) (fr : Int) (cnt : Int) (data.extract (min fr data.size) (endOf data.size fr cnt)) (i : Int) K M G c0 ss c1 ys = some true := by
  rw [laws_FnRanges.l0, if_neg (by omega)]
  have e1 : wrap64 ((data.size : Int) + (cnt : Int)) = ((data.size + cnt : Nat) : Int) := by rw [w64n (by omega) (by omega)]; omega
  have e2 : wrap64 ((fr : Int) + (cnt : Int)) = ((fr + cnt : Nat) : Int) := by rw [w64n (by omega) (by omega)]; omega
  rw [e1, e2]
  unfold endOf
  by_cases h : (fr : Int) > (data.size : Int)
  · rw [if_pos h]
    have m1 : min fr data.size = data.size := by omega
    have m2 : min (data.size + cnt) data.size = data.size := by omega
    rw [m1, m2]
    by_cases h2 : ((data.size + cnt : Nat) : Int) > (data.size : Int)
    · rw [if_pos h2, if_pos (by omega), if_pos (by omega), if_pos (by omega), Int.toNat_natCast]
      simp
    · rw [if_neg h2, if_pos (by omega), if_pos (by omega), if_pos (by omega), Int.toNat_natCast, Int.toNat_natCast]
      have : data.size + cnt = data.size := by omega
      rw [this]; simp
  · rw [if_neg h]
    have m1 : min fr data.size = fr := by omega
    rw [m1]
    by_cases h2 : ((fr + cnt : Nat) : Int) > (data.size : Int)
    · rw [if_pos h2, if_pos (by omega), if_pos (by omega), if_pos (by omega), Int.toNat_natCast, Int.toNat_natCast]
      have : min (fr + cnt) data.size = data.size := by omega
      rw [this]; simp
    · rw [if_neg h2, if_pos (by omega), if_pos (by omega), if_pos (by omega), Int.toNat_natCast, Int.toNat_natCast]
      have : min (fr + cnt) data.size = fr + cnt := by omega
      rw [this]; simp
theorem if_yes {Y : Option Bool} {p : Prop} [Decidable p] {X Z : Option Bool} (hp : p) (hX : X = Y) : (if p then X else Z) = Y := by rw [if_pos hp]; exact hX
theorem if_no {Y : Option Bool} {p : Prop} [Decidable p] {X Z : Option Bool} (hp : ¬ p) (hX : X = Y) : (if p then Z else X) = Y := by rw [if_neg hp]; exact hX
theorem round (k : Nat) (u sz fr cnt K M G c0 c1 i i1 q sh o c oc : Int) (data x piece str : ByteArray) (ss : List S46) (st : S46) (ys : List S43) (hi0 : 0 ≤ i) (hi : i < (ys.length : Int)) (h43 : rd_T43 ys i = ⟨q, sh, o, c⟩) (hq0 : 0 ≤ q) (hq : q < (ss.length : Int)) (h46 : rd_T46 ss q = st)
    (hs0 : 0 ≤ sh) (hs : sh < K) (hK : K ≤ (st.f0.length : Int)) (hc : 1 ≤ c) (ho0 : 0 ≤ o) (how : o ≤ oc) (ew : wrap64 (o + c) = oc) (hou : oc ≤ u) (hstr : (str.size : Int) = u) (hrs : rdOf ByteArray.empty st.f0 sh = str) (hcut : str.extract o.toNat oc.toNat = piece)
    (hsz : x.size + piece.size ≤ 9223372036854775807) (hwi : wrap64 (i + 1) = i1) :
    laws_FnRanges.l0 (k + 1) u data sz fr cnt x i K M G c0 ss c1 ys = laws_FnRanges.l0 k u data sz fr cnt (x ++ piece) i1 K M G c0 ss c1 ys := by
  rw [laws_FnRanges.l0]
  refine if_yes hi (if_yes hi0 ?_)
  rw [h43]
  dsimp only
  refine if_no (Int.not_lt.2 hq0) (if_no (Int.not_le.2 hq) (if_no (Int.not_lt.2 hs0) (if_no (Int.not_le.2 hs) (if_no (Int.not_lt.2 ho0) (if_no (Int.not_lt.2 hc) ?_)))))
  rw [ew, h46, hrs, hcut]
  exact if_no (Int.not_lt.2 hou) (if_yes hq0 (if_yes hq (if_no (Int.not_lt.2 hK) (if_yes hs0 (if_yes (Int.lt_of_lt_of_le hs hK) (if_yes ho0 (if_yes how (if_yes (by rw [hstr]; exact hou) (if_yes hsz (by rw [hwi]))))))))))
theorem loop_ev (K M G U n : Nat) (c0 c1 : Int) (data : ByteArray) (fr cnt : Nat) (ys : List S43) (hK : 1 ≤ K) (hK' : K ≤ 6) (hU : 1 ≤ U) (hU' : U ≤ 4096) (hn : n = (data.size + K * U - 1) / (K * U)) (hd : data.size ≤ 60) (hf : fr ≤ 1000) (hcnt : cnt ≤ 255) (hy : ys.length ≤ 1000) :
    ∀ (d i a : Nat), ys.drop i = rgList (K : Int) (U : Int) ((endOf data.size fr cnt : Nat) : Int) d (a : Int) → min fr data.size ≤ a → a ≤ endOf data.size fr cnt → endOf data.size fr cnt ≤ a + d → i ≤ ys.length →
      Evn (fun k => laws_FnRanges.l0 k (U : Int) data (data.size : Int) (fr : Int) (cnt : Int) (data.extract (min fr data.size) a) (i : Int) (K : Int) (M : Int) (G : Int) c0 (stripesTo K M G U data n) c1 ys) true := by
  intro d
  induction d with
  | zero =>
    intro i a hdr ha ha2 hde hi
    have hge : ys.length ≤ i := by
      have := congrArg List.length hdr
      simp [rgList] at this; omega
    have hae : a = endOf data.size fr cnt := by omega
    subst hae
    exact (Evn.const _).step fun k => by rw [fin _ _ _ _ _ _ _ _ _ _ _ _ _ (by omega) hd hf hcnt]
  | succ d ih =>
    intro i a hdr ha ha2 hde hi
    by_cases hlt : a < endOf data.size fr cnt
    · have hes : endOf data.size fr cnt ≤ data.size := by unfold endOf; omega
      have hone := (rgOne_nat K U (endOf data.size fr cnt) a hlt).resolve_right (by omega)
      have hm := Nat.mod_lt a (show U > 0 by omega)
      rw [rgList, if_pos (by omega), hone] at hdr
      have hil : i < ys.length := by
        by_cases h : i < ys.length
        · exact h
        · rw [List.drop_eq_nil_iff.2 (by omega)] at hdr; cases hdr
      obtain ⟨c, hc⟩ : ∃ c, c = min (U - a % U) (endOf data.size fr cnt - a) := ⟨_, rfl⟩
      rw [← hc] at hdr
      have hget := congrArg (·[0]?) hdr
      simp only [List.getElem?_drop, Nat.add_zero, List.getElem?_cons_zero] at hget
      have hrest : ys.drop (i + 1) = rgList (K : Int) (U : Int) ((endOf data.size fr cnt : Nat) : Int) d ((a + c : Nat) : Int) := by
        have := congrArg (List.drop 1) hdr
        rw [List.drop_drop, List.drop_succ_cons, List.drop_zero] at this
        rw [this]; congr 1
      have hc1 : 1 ≤ c := by omega
      have hc2 : a % U + c ≤ U := by omega
      have hc3 : a + c ≤ endOf data.size fr cnt := by omega
      have hca : a + c ≤ data.size := by omega
      have ih' := ih (i + 1) (a + c) hrest (by omega) (by omega) (by omega) (by omega)
      have hi1000 : i < 1000 := by omega
      have hz0 : a ≤ data.size := by omega
      have hb1 : -9223372036854775808 ≤ ((a % U : Nat) : Int) + (c : Int) := by omega
      have hb2 : ((a % U : Nat) : Int) + (c : Int) ≤ 9223372036854775807 := by omega
      have hz3' : (a - min fr data.size) + (a + c - a) ≤ 1000 := by omega
      have hz3 : (a - min fr data.size) + (a + c - a) ≤ 9223372036854775807 := Nat.le_trans hz3' (by decide)
      have hap := extract_app data (min fr data.size) a (a + c) ha (Nat.le_add_right _ _)
      have hi1 : (i : Int) < (ys.length : Int) := by omega
      have hcc : (1 : Int) ≤ (c : Int) := by omega
      have hoo : ((a % U : Nat) : Int) ≤ ((a % U + c : Nat) : Int) := by omega
      have hou : ((a % U + c : Nat) : Int) ≤ (U : Int) := by omega
      have hKU : 0 < K * U := Nat.mul_pos (by omega) (by omega)
      obtain ⟨q, hq⟩ : ∃ q, q = a / (K * U) := ⟨_, rfl⟩
      obtain ⟨sh, hsh⟩ : ∃ sh, sh = a % (K * U) / U := ⟨_, rfl⟩
      have hshK : sh < K := by
        rw [hsh]; exact Nat.div_lt_of_lt_mul (by have := Nat.mod_lt a hKU; rw [Nat.mul_comm U K]; exact this)
      have hqn : q < n := by
        rw [hn, hq]
        have h1 : a / (K * U) * (K * U) ≤ a := Nat.div_mul_le_self _ _
        have h2 : a / (K * U) + 1 ≤ (data.size + K * U - 1) / (K * U) := (Nat.le_div_iff_mul_le hKU).2 (by rw [Nat.add_mul, Nat.one_mul]; omega)
        exact h2
      have hpos : q * K * U + sh * U + a % U = a := by
        have h1 := Nat.div_add_mod a (K * U)
        have h2 := Nat.div_add_mod (a % (K * U)) U
        have h3 : a % (K * U) % U = a % U := Nat.mod_mul_left_mod ..
        rw [h3, ← hsh] at h2
        rw [← hq] at h1
        have h4 : q * K * U = K * U * q := by rw [Nat.mul_assoc, Nat.mul_comm]
        have h5 : sh * U = U * sh := Nat.mul_comm _ _
        omega
      rw [← hq, ← hsh] at hget
      have hw1 : wrap64 (((a % U : Nat) : Int) + (c : Int)) = ((a % U + c : Nat) : Int) := by rw [w64n hb1 hb2]; exact (Int.natCast_add _ _).symm
      have hw2 := wn1 i (Nat.lt_of_lt_of_le hi1000 (by decide))
      have hcut := part_cut U (a % U) c a _ data hpos hc2 hca
      have hq1 : (q : Int) < ((stripesTo K M G U data n).length : Int) := by rw [stripesTo_len]; exact Int.ofNat_lt.2 hqn
      have hs1 : (sh : Int) < (K : Int) := Int.ofNat_lt.2 hshK
      have hk1 : (K : Int) ≤ ((stripeOf K M G U data q).f0.length : Int) := by unfold stripeOf; rw [shardsTo_len]; exact Int.ofNat_le.2 (Nat.le_trans (Nat.le_add_right K M) (Nat.le_add_right _ G))
      have hz4 : (data.extract (min fr data.size) a).size + (data.extract a (a + c)).size ≤ 9223372036854775807 := by rw [extract_size _ _ _ ha hz0, extract_size _ _ _ (Nat.le_add_right _ _) hca]; exact hz3
      have hps : (((partOf U data (q * K * U + sh * U)).size : Nat) : Int) = (U : Int) := by unfold partOf; rw [strOfNums_size, wholeOf_len]
      refine ih'.step fun k => ?_
      rw [← hap]
      exact round k (U : Int) (data.size : Int) (fr : Int) (cnt : Int) (K : Int) (M : Int) (G : Int) c0 c1 (i : Int) ((i + 1 : Nat) : Int) (q : Int) (sh : Int) ((a % U : Nat) : Int) (c : Int) ((a % U + c : Nat) : Int) data _ _ _ _ _ ys (Int.natCast_nonneg _) hi1 (rd43 hget) (Int.natCast_nonneg _) hq1 (rd46 K M G U n q data hqn)
        (Int.natCast_nonneg _) hs1 hk1 hcc (Int.natCast_nonneg _) hoo hw1 hou hps (rd_shard K M G U q sh data hshK) hcut hz4 hw2
    · have hge : ys.length ≤ i := by
        rw [rgList, if_neg (by omega)] at hdr
        have := congrArg List.length hdr
        simp at this; omega
      have hae : a = endOf data.size fr cnt := by omega
      subst hae
      exact (Evn.const _).step fun k => by rw [fin _ _ _ _ _ _ _ _ _ _ _ _ _ (by omega) hd hf hcnt]
theorem rgLen (K unit e : Int) : ∀ (d : Nat) (a : Int), (rgList K unit e d a).length ≤ d
  | 0, _ => by simp [rgList]
  | d + 1, a => by
    unfold rgList
    split
    · have := rgLen K unit e d (a + (rgOne K unit e a).f3)
      simp; omega
    · simp
theorem at_ex (l : List Int) (hl : ∀ x ∈ l, 0 ≤ x ∧ x ≤ 255) (i : Nat) (hi : i ≤ 1000) : ∃ v : Nat, laws_lwAt.f l (i : Int) = some (v : Int) ∧ v ≤ 255 := by
  unfold laws_lwAt.f
  by_cases h : (i : Int) < (l.length : Int)
  · rw [if_pos h, if_pos (by omega)]
    obtain ⟨h1, h2⟩ := rd_byte l hl (i : Int)
    exact ⟨(rd l (i : Int)).toNat, by rw [w64n (by omega) (by omega)]; congr 1 <;> omega, by omega⟩
  · rw [if_neg h]
    have e1 : wrap64 ((i : Int) * 61) = (i : Int) * 61 := w64n (by omega) (by omega)
    have e2 : wrap64 ((i : Int) * 61 + 29) = (i : Int) * 61 + 29 := w64n (by omega) (by omega)
    rw [e1, e2, Int.tmod_eq_emod_of_nonneg (by omega)]
    exact ⟨(((i : Int) * 61 + 29) % 256).toNat, by congr 1 <;> omega, by omega⟩

/-! ### the law -/
theorem code_same' (K M G : Int) : spec_CodeFault.f K M G = impl_CodeFault.f K M G := rfl
theorem stripej_same' : ∀ (k : Nat) (u s : Int) (b : Bool) (K M G : Int), spec_StripeCount.j0 k u s b K M G = impl_StripeCount.j0 k u s b K M G
  | 0, _, _, _, _, _, _ => rfl
  | _ + 1, _, _, _, _, _, _ => rfl
theorem stripe_same' (k : Nat) (K M G u s : Int) : spec_StripeCount.f k K M G u s = impl_StripeCount.f k K M G u s := by
  unfold spec_StripeCount.f impl_StripeCount.f
  rw [code_same']
  simp only [stripej_same']
theorem stripe_ev (K M G u s : Int) : ∃ t, Evn (fun k => impl_StripeCount.f k K M G u s) t := by
  have hc : ∃ c, impl_CodeFault.f K M G = some c ∧ (c = 0 → 1 ≤ K ∧ K ≤ 32) := by
    unfold impl_CodeFault.f
    repeat' split
    all_goals exact ⟨_, rfl, by omega⟩
  obtain ⟨c, hc, hc0⟩ := hc
  have hb : ∀ (b : Bool), b = true ∨ (1 ≤ K ∧ K ≤ 32 ∧ 1 ≤ u ∧ u ≤ 4096) → ∃ t, impl_StripeCount.j0 1 u s b K M G = some t := by
    intro b h
    simp only [impl_StripeCount.j0]
    by_cases hb : b = true
    · exact ⟨_, by rw [if_pos hb]⟩
    · obtain ⟨h1, h2, h3, h4⟩ : 1 ≤ K ∧ K ≤ 32 ∧ 1 ≤ u ∧ u ≤ 4096 := h.resolve_left hb
      have a1 : 1 ≤ K * u := by have := Int.mul_le_mul h1 h3 (by omega) (by omega); omega
      have a2 : K * u ≤ 131072 := by have := Int.mul_le_mul h2 h4 (by omega) (by omega); omega
      rw [if_neg hb, w64n (n := K * u) (by omega) (by omega), if_neg (by omega)]
      split
      · exact ⟨_, rfl⟩
      · exact ⟨_, rfl⟩
  have main : ∃ t, impl_StripeCount.f 1 K M G u s = some t := by
    unfold impl_StripeCount.f
    rw [hc]
    simp only [Option.bind_some]
    by_cases h0 : c = 0
    · rw [if_pos h0]
      by_cases h1 : u < 1
      · rw [if_pos h1]; exact hb true (.inl rfl)
      rw [if_neg h1]
      by_cases h2 : u > 4096
      · rw [if_pos h2]; exact hb true (.inl rfl)
      rw [if_neg h2]
      by_cases h3 : s < 0
      · rw [if_pos h3]; exact hb true (.inl rfl)
      rw [if_neg h3]
      have := hc0 h0
      exact hb _ (.inr (by omega))
    · rw [if_neg h0]; exact hb true (.inl rfl)
  obtain ⟨t, ht⟩ := main
  exact ⟨t, 1, fun k hk => leO_ge (F := fun k => impl_StripeCount.f k K M G u s) (fun k => impl_StripeCount.mono _ _ _ _ _ k) ht hk⟩

theorem bound8 (l : List Int) (hw : ∀ x ∈ l, (Lit.int .u8 x).wf = true) : ∀ x ∈ l, 0 ≤ x ∧ x ≤ 255 := fun x hx => by
  have := hw x hx
  simp [Lit.wf, IntKind.min, IntKind.max, IntKind.signed, IntKind.bits] at this
  omega
theorem bind_step {α β : Type} {x : Option α} {v : α} {f : α → Option β} {r : Option β} (h : x = some v) (h2 : f v = r) : x.bind f = r := by rw [h]; exact h2
theorem ranges_neg (k : Nat) (l0 l1 : List Int) (K M G u t : Int) (data : ByteArray) (e1 : spec_DrawSplitObject.f k l0 = some (K, M, G, u, data)) (e2 : impl_StripeCount.f k K M G u (data.size : Int) = some t) (hneg : t < 0) : laws_FnRanges.j0 (k + 1) l0 l1 false = some true := by
  rw [laws_FnRanges.j0, if_neg (by decide), e1]; simp only [Option.bind_some]
  unfold impl_SplitObject.f
  rw [e2]; simp only [Option.bind_some]
  rw [if_pos hneg]; simp only [Option.bind_some]
  rw [stripe_same', e2]; simp only [Option.bind_some]
  rw [if_pos hneg]
  rfl
theorem ranges_pos (k : Nat) (l0 l1 : List Int) (K M G u t v0 v1 fr : Int) (data : ByteArray) (e1 : spec_DrawSplitObject.f (k + 1) l0 = some (K, M, G, u, data)) (e2 : impl_StripeCount.f (k + 1) K M G u (data.size : Int) = some t) (hneg : ¬ t < 0)
    (hv0 : laws_lwAt.f l1 0 = some v0) (hv1 : laws_lwAt.f l1 1 = some v1) (es : wrap64 ((data.size : Int) + 3) = (data.size : Int) + 3) (hne3 : ¬ ((data.size : Int) + 3 = 0)) (em : Int.tmod v0 ((data.size : Int) + 3) = fr) (hnn : ¬ (t < 0 ∨ fr < 0 ∨ v1 < 0))
    (e3 : laws_FnRanges.l0 k u data (data.size : Int) fr v1 (⟨#[]⟩ : ByteArray) 0 K M G 0 (stripesTo K.toNat M.toNat G.toNat u.toNat data t.toNat) 0 (rgAll K u (data.size : Int) fr v1) = some true) : laws_FnRanges.j0 (k + 1 + 1) l0 l1 false = some true := by
  have hS : impl_SplitObject.f (k + 1) K M G u data = some (0, stripesTo K.toNat M.toNat G.toNat u.toNat data t.toNat) := by
    unfold impl_SplitObject.f
    exact bind_step e2 (by rw [if_neg hneg])
  have hR : impl_RangeReads.f (k + 1) K M G u (data.size : Int) fr v1 = some (0, rgAll K u (data.size : Int) fr v1) := by
    unfold impl_RangeReads.f
    exact bind_step e2 (by rw [if_neg hnn])
  have hT : spec_StripeCount.f (k + 1) K M G u (data.size : Int) = some t := by rw [stripe_same']; exact e2
  have hb : ¬ (false = true) := Bool.false_ne_true
  have h00 : (0 : Int) = 0 := rfl
  have hw : ¬ (wrap64 ((data.size : Int) + 3) = 0) := fun h => hne3 (es ▸ h)
  have em' : Int.tmod v0 (wrap64 ((data.size : Int) + 3)) = fr := by rw [es]; exact em
  rw [laws_FnRanges.j0]
  refine if_no hb (bind_step e1 (bind_step hS (bind_step hT (if_no hneg (bind_step hv0 (if_no hw (bind_step hv1 ?_)))))))
  dsimp only
  rw [em']
  refine bind_step hR (if_yes h00 ?_)
  rw [laws_FnRanges.j1]
  exact if_no hb e3

theorem FnRanges : laws_FnRanges.Pure := by
  intro l0 l1 hm0 hr0 hw0 hm1 hr1 hw1
  have hb0 := bound8 l0 hw0
  have hb1 := bound8 l1 hw1
  have hj : ∀ b, Evn (fun k => laws_FnRanges.j0 k l0 l1 b) true := by
    intro b
    cases b
    · obtain ⟨K, M, G, u, data, hdraw, hds, k1, k2, m1, m2, g1, g2⟩ := draw_ev l0 hb0 (by unfold maxLen at hm0; omega)
      obtain ⟨t, ht⟩ := stripe_ev K M G u (data.size : Int)
      obtain ⟨v0, hv0, hv0l⟩ := at_ex l1 hb1 0 (by omega)
      obtain ⟨v1, hv1, hv1l⟩ := at_ex l1 hb1 1 (by omega)
      have hv0' : laws_lwAt.f l1 0 = some (v0 : Int) := hv0
      have hv1' : laws_lwAt.f l1 1 = some (v1 : Int) := hv1
      by_cases hneg : t < 0
      · obtain ⟨kd, hkd⟩ := hdraw
        obtain ⟨kt, hkt⟩ := ht
        refine ⟨kd + kt + 1, fun k hk => ?_⟩
        obtain ⟨k, rfl⟩ : ∃ m, k = m + 1 := ⟨k - 1, by omega⟩
        have e1 := hkd k (by omega)
        have e2 := hkt k (by omega)
        exact ranges_neg k l0 l1 K M G u t data e1 e2 hneg
      · obtain ⟨kt0, hkt0⟩ := ht
        obtain ⟨⟨f1, f2, f3, f4, f5, f6, f7⟩, u1, u2, _, _, _, ht2⟩ := stripe_facts (hkt0 kt0 (Nat.le_refl _)) hneg
        obtain ⟨K, rfl⟩ := Int.eq_ofNat_of_zero_le (show 0 ≤ K by omega)
        obtain ⟨M, rfl⟩ := Int.eq_ofNat_of_zero_le m1
        obtain ⟨G, rfl⟩ := Int.eq_ofNat_of_zero_le g1
        obtain ⟨U, rfl⟩ := Int.eq_ofNat_of_zero_le (show 0 ≤ u by omega)
        obtain ⟨n, hn⟩ : ∃ n, n = (data.size + K * U - 1) / (K * U) := ⟨_, rfl⟩
        have hKU : 0 < K * U := Nat.mul_pos (by omega) (by omega)
        have htn : t = (n : Int) := by
          rw [ht2, hn]
          have : (data.size : Int) + (K : Int) * (U : Int) - 1 = ((data.size + K * U - 1 : Nat) : Int) := by
            rw [Int.ofNat_sub (by omega)]; simp
          rw [this, show (K : Int) * (U : Int) = ((K * U : Nat) : Int) by simp]
          exact (Int.natCast_ediv _ _).symm
        obtain ⟨fr, hfr⟩ : ∃ fr : Nat, fr = v0 % (data.size + 3) := ⟨_, rfl⟩
        have hfl : fr < data.size + 3 := by rw [hfr]; exact Nat.mod_lt _ (by omega)
        have hne3 : ¬ ((data.size : Int) + 3 = 0) := by omega
        have hnn : ¬ (t < 0 ∨ (fr : Int) < 0 ∨ (v1 : Int) < 0) := by omega
        have em : Int.tmod (v0 : Int) ((data.size : Int) + 3) = (fr : Int) := by
          rw [Int.tmod_eq_emod_of_nonneg (by omega), hfr]; simp
        -- the pieces that RangeReads gives
        obtain ⟨ys, hys⟩ : ∃ ys, ys = rgAll (K : Int) (U : Int) (data.size : Int) (fr : Int) (v1 : Int) := ⟨_, rfl⟩
        have hylen : ys.length ≤ 1000 := by
          rw [hys]; unfold rgAll
          split
          · simp
          · have := rgLen (K : Int) (U : Int) (rgEnd (data.size : Int) (fr : Int) (v1 : Int)) (data.size : Int).toNat (fr : Int)
            omega
        have hloop : Evn (fun k => laws_FnRanges.l0 k (U : Int) data (data.size : Int) (fr : Int) (v1 : Int) (⟨#[]⟩ : ByteArray) 0 (K : Int) (M : Int) (G : Int) 0 (stripesTo K M G U data n) 0 ys) true := by
          by_cases hge : fr < data.size
          · have hl := loop_ev K M G U n 0 0 data fr v1 ys (by omega) (by omega) (by omega) (by omega) hn hds (by omega) hv1l hylen data.size 0 fr (by
              rw [List.drop_zero, hys]
              unfold rgAll
              rw [if_neg (by omega), Int.toNat_natCast]
              congr 1
              unfold rgEnd endOf
              split <;> omega) (by omega) (by unfold endOf; omega) (by unfold endOf; omega) (by omega)
            have e : data.extract (min fr data.size) fr = (⟨#[]⟩ : ByteArray) := by
              rw [show min fr data.size = fr by omega]; exact extract_none _ _
            rw [e] at hl
            exact hl
          · have hy0 : ys = [] := by
              rw [hys]; unfold rgAll; rw [if_pos (by omega)]
            refine (Evn.const _).step fun k => ?_
            have := fin k (U : Int) (K : Int) (M : Int) (G : Int) 0 0 data fr v1 0 (stripesTo K M G U data n) ys (by rw [hy0]; simp) hds (by omega) hv1l
            have e : data.extract (min fr data.size) (endOf data.size fr v1) = (⟨#[]⟩ : ByteArray) := by
              have : endOf data.size fr v1 = min fr data.size := by unfold endOf; omega
              rw [this]; exact extract_none _ _
            rw [e] at this
            exact this
        obtain ⟨kd, hkd⟩ := hdraw
        obtain ⟨kl, hkl⟩ := hloop
        have es : Hid (wrap64 ((data.size : Int) + 3) = (data.size : Int) + 3) := Lib.hid (w64n (by omega) (by omega))
        refine ⟨kd + kt0 + kl + 2, fun k hk => ?_⟩
        obtain ⟨k, rfl⟩ : ∃ m, k = m + 2 := ⟨k - 2, by omega⟩
        have e1 := hkd (k + 1) (by omega)
        have e2 := hkt0 (k + 1) (by omega)
        have e3 := hkl k (by omega)
        have e4 : laws_FnRanges.l0 k (U : Int) data (data.size : Int) (fr : Int) (v1 : Int) (⟨#[]⟩ : ByteArray) 0 (K : Int) (M : Int) (G : Int) 0 (stripesTo (K : Int).toNat (M : Int).toNat (G : Int).toNat (U : Int).toNat data t.toNat) 0 (rgAll (K : Int) (U : Int) (data.size : Int) (fr : Int) (v1 : Int)) = some true := by
          rw [← hys, htn]
          simp only [Int.toNat_natCast]
          exact e3
        exact ranges_pos k l0 l1 K M G U t v0 v1 fr data e1 e2 hneg hv0' hv1' es.out hne3 em hnn e4
    · exact (Evn.const _).step fun k => by rw [laws_FnRanges.j0, if_pos rfl]
  unfold laws_FnRanges.f
  split
  · exact (hj true).one
  · exact (hj _).one

end Go.Proofs.Ythollhmhcnpfiaa.Pure
