/- RangeReads: its contract in the printer's form. Conditions: none beyond the printed ones. -/
import Derived.Maps.OwnIn
import Derived.Test.YthollhmhcnpfiaaRRit
import Derived.Test.YthollhmhcnpfiaaQAximplStripeCount
namespace Go.Proofs.Ythollhmhcnpfiaa.QA
open Go.RowKit Go.Shelf Go.Proofs.YthollhmhcnpfiaaW.PrintWords Go.Proofs.YthollhmhcnpfiaaW.PrintLast Go.Proofs.YthollhmhcnpfiaaW.PrintMore
attribute [local go_sem] Oper.semAt_some
set_option linter.unusedVariables false

def impl_RangeReads.f (k : Nat) (a0_0 : Int) (a0_1 : Int) (a0_2 : Int) (a1 : Int) (a2 : Int) (a3 : Int) (a4 : Int) : Option (Int × (List (S43))) :=
  (impl_StripeCount.f k a0_0 a0_1 a0_2 a1 a2).bind fun t => if t < 0 ∨ a3 < 0 ∨ a4 < 0 then some (1, []) else some (0, rgAll a0_0 a1 a2 a3 a4)
theorem impl_RangeReads.mono : ∀ a0 a1 a2 a3 a4 a5 a6 k, LeO (impl_RangeReads.f k a0 a1 a2 a3 a4 a5 a6) (impl_RangeReads.f (k + 1) a0 a1 a2 a3 a4 a5 a6) := by
  intro a0 a1 a2 a3 a4 a5 a6 k
  unfold impl_RangeReads.f
  exact LeO.bind (impl_StripeCount.mono _ _ _ _ _ _) (fun _ => LeO.refl _)

theorem bcell1 {W w1 : World} (hb : Below W.heap.size W w1) : (∀ b o, b < W.heap.size → w1.cell? ⟨b, o, none⟩ = W.cell? ⟨b, o, none⟩) ∧ (∀ b o, b < W.heap.size → w1.frozen? ⟨b, o, none⟩ = W.frozen? ⟨b, o, none⟩) :=
  ⟨fun b o h => hb.cell (p := ⟨b, o, none⟩) h, fun b o h => hb.frozen (p := ⟨b, o, none⟩) h⟩

/-- The result's variable is read at the return. -/
theorem rr_ret {W : World} {g : Nat} {n : Int} {v : Value} {tmps : Array Value} (hp : tmps.getD 10 undef = .pointer (some ⟨g, 0, none⟩)) (hg : W.heap[g]? = some (.cells #[.int .i64 n, v] 26 (0, 0))) :
    (results Try.f10 tmps).run Try.prog W = .ok (.agg #[.int .i64 n, v]) W :=
  results_cell_row (p := 10) (ty := 26) rfl _ _ g 26 #[.int .i64 n, v] (0, 0) _ hp hg Try.underlying26 rfl (by kernel_rfl)

set_option maxRecDepth 100000 in
set_option maxHeartbeats 2000000 in
theorem rr_bad (k : Nat) (K M G unit size fr count t : Int) (w : World) (ht : impl_StripeCount.f k K M G unit size = some t) (hbad : t < 0 ∨ fr < 0 ∨ count < 0) :
    CallsIn Fence.wide 3 Try.prog 10 #[.agg #[.int .i64 K, .int .i64 M, .int .i64 G], .int .i64 unit, .int .i64 size, .int .i64 fr, .int .i64 count] w fun e w' => ∃ v1_ : Value, e = .returned (.agg #[.int .i64 1, v1_]) ∧ Kd.R k43 43 w' w.heap.size (fun _ => True) v1_ [] ∧ Below w.heap.size w w' := by
  refine callsIn_of_wp_marks Try.func10 rfl trivial ?_ rfl
  simp only [Try.ntmps10, List.size_toArray, List.length_cons, List.length_nil, Nat.reduceAdd, Nat.reduceSub, Array.replicate_succ, Array.replicate_zero, List.push_toArray, List.append_toArray, List.nil_append, List.cons_append]
  have HT := Lib.hid ht; clear ht
  have hway : t < 0 ∨ (¬ t < 0 ∧ fr < 0) ∨ (¬ t < 0 ∧ ¬ fr < 0 ∧ count < 0) := by omega
  clear hbad
  rcases hway with h1 | ⟨h1, h2⟩ | ⟨h1, h2, h3⟩
  all_goals
    gi_wp2_with (refine ⟨trivial, ?_⟩; gi_at_call 36; refine (callsIn_wide.2 (impl_StripeCount.calls k _ _ _ _ _ t _ HT.out)).mono ?_; rintro e w1 ⟨rfl, hb⟩; obtain ⟨hc, hf⟩ := bcell1 hb; have hz : w.heap.size + 1 < w1.heap.size := by (have := hb.size; simp at this; omega))
    have hbB : Below w.heap.size w w1 := (((Below.refl _ w).alloc (Nat.le_refl _) _).alloc (by simp) _).trans (hb.mono (by simp; omega))
    have hg : w1.heap[w.heap.size + 1]? = some (.cells #[.int .i64 0, .slice none 0 0] 26 (0, 0)) := (hb.block _ (by simp)).trans (by have := heap_alloc_new (w.alloc (.cells #[.int .i64 K, .int .i64 M, .int .i64 G] 28)) (.cells #[.int .i64 0, .slice none 0 0] 26); rwa [World.size_alloc] at this)
    exact ⟨_, rr_ret rfl (blk_set (blk_set hg 0 _) 1 _), .slice none 0 0, rfl, Kd.R_nil _ _ _ _ _, (hbB.setCell (by simp) _).setCell (by simp) _⟩

theorem rgList_len (K unit e : Int) : ∀ (d : Nat) (a : Int), (rgList K unit e d a).length ≤ d
  | 0, _ => by simp [rgList]
  | d + 1, a => by
    unfold rgList
    split
    · have := rgList_len K unit e d (a + (rgOne K unit e a).f3)
      simp; omega
    · simp
theorem rgAll_len (K unit size fr count : Int) : (rgAll K unit size fr count).length ≤ size.toNat := by
  unfold rgAll
  split
  · simp
  · exact rgList_len ..

/-- A row of pieces of the call's own. -/
def Row43 (W : World) (base : Nat) (v : Value) (xs : List S43) : Prop :=
  ∃ inner, W.ownsRow base 43 4 v xs.length inner ∧ Reps (fun (x : S43) c => c = [.int .i64 x.f0, .int .i64 x.f1, .int .i64 x.f2, .int .i64 x.f3]) 4 xs inner
theorem Row43.R {W : World} {base : Nat} {v : Value} {xs : List S43} (h : Row43 W base v xs) : Kd.R k43 43 W base (fun _ => True) v xs := by
  obtain ⟨inner, ho, hr⟩ := h
  exact ⟨fun _ _ => trivial, inner, ho, hr.imp_ (fun p c h => by subst h; exact k43_mkM _ _ _ p)⟩
theorem Row43.kept {W W' : World} {base : Nat} {v : Value} {xs : List S43} (h : Row43 W base v xs) {row : Option Nat} (hg : W.grownBy W' row) (hne : v.ownBlock = none ∨ v.ownBlock ≠ row) : Row43 W' base v xs := by
  obtain ⟨inner, ho, hr⟩ := h
  exact ⟨inner, ho.kept hg hne, hr⟩
theorem Row43.block {W : World} {base : Nat} {v : Value} {xs : List S43} (h : Row43 W base v xs) (k : Nat) (hk : v.ownBlock = some k) : base ≤ k ∧ k < W.heap.size ∧ ∃ cells, W.heap[k]? = some (.cells cells 43 (0, 0)) := by
  obtain ⟨inner, ho, hr⟩ := h
  exact ⟨own_base ho k hk, own_lt ho k hk, own_typed ho k hk⟩

theorem Kpp.alloc {b : Nat} {W : World} (o : Obj) (hb : b < W.heap.size) : Kpp b W (W.alloc o) := fun hv => by
  have he : rowAt (W.alloc o) b = rowAt W b := rowAt_eq (Below.heap_alloc W o b hb)
  refine ⟨fun r e => ?_, by simp, fun k p hk _ _ _ => (Below.heap_alloc W o k (blk_lt hk)).trans hk, fun r e => ?_⟩
  · rw [he] at e; have := hv r e; simp; omega
  · rw [he] at e; have := hv r e; exact ⟨.inl e, by simp; omega⟩
/-- 'x.f = append(x.f, ..)', the variable x in block b, f its second cell. -/
theorem Kpp.append {b : Nat} {W w2 : World} {tmp : Obj} {n : Int} {v v' : Value} {t : TypeId} (hv : W.heap[b]? = some (.cells #[.int .i64 n, v] t (0, 0))) (hne : some b ≠ v.ownBlock) (hrow : ∀ r, v'.ownBlock = some r → r < w2.heap.size)
    (hg : (W.alloc tmp).grownBy w2 v.ownBlock) (hat : v'.ownBlock = v.ownBlock ∨ v'.ownBlock = some (W.alloc tmp).heap.size) : Kpp b W (w2.setCell ⟨b, 1, none⟩ v') ∧ (w2.setCell ⟨b, 1, none⟩ v').heap[b]? = some (.cells #[.int .i64 n, v'] t (0, 0)) := by
  have h2 : w2.heap[b]? = some (.cells #[.int .i64 n, v] t (0, 0)) := blk_grown (blk_alloc hv tmp) hg hne
  have h3 : (w2.setCell ⟨b, 1, none⟩ v').heap[b]? = some (.cells #[.int .i64 n, v'] t (0, 0)) := blk_put h2 1 v' rfl
  have hs : (w2.setCell ⟨b, 1, none⟩ v').heap.size = w2.heap.size := by simp [World.setCell]
  have hr : rowAt W b = v.ownBlock := by unfold rowAt; rw [hv]; rfl
  have hr3 : rowAt (w2.setCell ⟨b, 1, none⟩ v') b = v'.ownBlock := by unfold rowAt; rw [h3]; rfl
  have hz := hg.size
  simp only [World.size_alloc] at hz hat
  refine ⟨fun hok => ⟨fun r e => ?_, ?_, fun k p hk hp hkb hkr => ?_, fun r e => ?_⟩, h3⟩
  · rw [hr3] at e; rw [hs]; exact hrow r e
  · rw [hs]; omega
  · rw [Below.heap_setCell _ _ _ k hkb]
    refine (hg.block k (by have := blk_lt hk; simp; omega) (fun e => hkr (by rw [hr, e]))).trans (blk_alloc hk tmp)
  · rw [hr3] at e; rw [hr, hs]
    refine ⟨?_, hrow r e⟩
    rcases hat with hat | hat
    · exact .inl (hat ▸ e)
    · rw [hat] at e; cases e; exact .inr (by omega)

theorem rr_size {w w1 : World} {o o' : Obj} (hb : Below ((w.alloc o).alloc o').heap.size ((w.alloc o).alloc o') w1) : w.heap.size + 1 < w1.heap.size := by have := hb.size; simp at this; omega
theorem rr_args {w w1 : World} {K M G : Int} {o' : Obj} (hb : Below ((w.alloc (.cells #[.int .i64 K, .int .i64 M, .int .i64 G] 28)).alloc o').heap.size ((w.alloc (.cells #[.int .i64 K, .int .i64 M, .int .i64 G] 28)).alloc o') w1) :
    w1.cell? ⟨w.heap.size, 0, none⟩ = some (.int .i64 K) ∧ w1.cell? ⟨w.heap.size, 1, none⟩ = some (.int .i64 M) ∧ w1.cell? ⟨w.heap.size, 2, none⟩ = some (.int .i64 G) ∧ w1.heap[w.heap.size + 1]? = some o' := by
  have h0 : w1.heap[w.heap.size]? = some (.cells #[.int .i64 K, .int .i64 M, .int .i64 G] 28 (0, 0)) := blk_below (blk_alloc (blk_new w _) _) hb
  refine ⟨blk_cell h0 0, blk_cell h0 1, blk_cell h0 2, ?_⟩
  have := blk_below (blk_new (w.alloc (.cells #[.int .i64 K, .int .i64 M, .int .i64 G] 28)) o') hb
  rwa [World.size_alloc] at this

set_option maxRecDepth 100000 in
set_option maxHeartbeats 4000000 in
theorem rr_ok (k : Nat) (K M G unit size fr count t : Int) (w : World) (ht : impl_StripeCount.f k K M G unit size = some t) (h1 : ¬ t < 0) (h2 : ¬ fr < 0) (h3 : ¬ count < 0)
    (hK : 1 ≤ K) (hK' : K ≤ 32) (hu : 1 ≤ unit) (hu' : unit ≤ 4096) (hs : 0 ≤ size) (hs' : size ≤ 100000) :
    CallsIn Fence.wide 3 Try.prog 10 #[.agg #[.int .i64 K, .int .i64 M, .int .i64 G], .int .i64 unit, .int .i64 size, .int .i64 fr, .int .i64 count] w fun e w' => ∃ v1_ : Value, e = .returned (.agg #[.int .i64 0, v1_]) ∧ Row43 w' w.heap.size v1_ (rgAll K unit size fr count) ∧ Below w.heap.size w w' := by
  refine callsIn_of_wp_marks Try.func10 rfl trivial ?_ rfl
  simp only [Try.ntmps10, List.size_toArray, List.length_cons, List.length_nil, Nat.reduceAdd, Nat.reduceSub, Array.replicate_succ, Array.replicate_zero, List.push_toArray, List.append_toArray, List.nil_append, List.cons_append]
  have HT := Lib.hid ht; clear ht
  gi_wp2_with fail
  refine ⟨trivial, ?_⟩
  refine (callsIn_wide.2 (impl_StripeCount.calls k _ _ _ _ _ t _ HT.out)).mono ?_
  rintro e w1 ⟨rfl, hb⟩
  have hz := rr_size hb
  have hz0 : w.heap.size < w1.heap.size := by omega
  obtain ⟨hq0, hq1, hq2, hres⟩ := rr_args hb
  have HB1 := Lib.hid hb; clear hb
  have HRES := Lib.hid hres; clear hres
  gi_wp2_with fail
  refine ⟨trivial, ?_⟩
  refine (ranges_in _ K M G unit size fr count _).mono ?_
  rintro e w2 ⟨rfl, rfl⟩
  gi_wp2
  have q0 := blk_alloc (blk_alloc (blk_alloc (blk_new w1 (.cells #[.int .i64 0, .slice none 0 0] 26)) (.cells #[.int .i64 K, .int .i64 M, .int .i64 G, .int .i64 unit, .int .i64 size] 74)) (.cells #[.int .i64 fr] 2)) (.cells #[.int .i64 count] 2)
  have q3 := blk_alloc (blk_alloc (blk_new (w1.alloc (.cells #[.int .i64 0, .slice none 0 0] 26)) (.cells #[.int .i64 K, .int .i64 M, .int .i64 G, .int .i64 unit, .int .i64 size] 74)) (.cells #[.int .i64 fr] 2)) (.cells #[.int .i64 count] 2)
  have q4 := blk_alloc (blk_new ((w1.alloc (.cells #[.int .i64 0, .slice none 0 0] 26)).alloc (.cells #[.int .i64 K, .int .i64 M, .int .i64 G, .int .i64 unit, .int .i64 size] 74)) (.cells #[.int .i64 fr] 2)) (.cells #[.int .i64 count] 2)
  have q5 := blk_new (((w1.alloc (.cells #[.int .i64 0, .slice none 0 0] 26)).alloc (.cells #[.int .i64 K, .int .i64 M, .int .i64 G, .int .i64 unit, .int .i64 size] 74)).alloc (.cells #[.int .i64 fr] 2)) (.cells #[.int .i64 count] 2)
  have qr := blk_alloc (blk_alloc (blk_alloc (blk_alloc HRES.out (.cells #[.int .i64 0, .slice none 0 0] 26)) (.cells #[.int .i64 K, .int .i64 M, .int .i64 G, .int .i64 unit, .int .i64 size] 74)) (.cells #[.int .i64 fr] 2)) (.cells #[.int .i64 count] 2)
  simp only [World.size_alloc] at q0 q3 q4 q5 qr
  have hB1 : Below w.heap.size w w1 := (((Below.refl _ w).alloc (Nat.le_refl _) _).alloc (by simp) _).trans (HB1.out.mono (by simp; omega))
  have hB0 : Below w.heap.size w ((((w1.alloc (.cells #[.int .i64 0, .slice none 0 0] 26)).alloc (.cells #[.int .i64 K, .int .i64 M, .int .i64 G, .int .i64 unit, .int .i64 size] 74)).alloc (.cells #[.int .i64 fr] 2)).alloc (.cells #[.int .i64 count] 2)) :=
    (((hB1.alloc (by omega) _).alloc (by simp; omega) _).alloc (by simp; omega) _).alloc (by simp; omega) _
  have hsz : ((((w1.alloc (.cells #[.int .i64 0, .slice none 0 0] 26)).alloc (.cells #[.int .i64 K, .int .i64 M, .int .i64 G, .int .i64 unit, .int .i64 size] 74)).alloc (.cells #[.int .i64 fr] 2)).alloc (.cells #[.int .i64 count] 2)).heap.size = w1.heap.size + 4 := by simp
  obtain ⟨W0, hW0⟩ : ∃ W0, ((((w1.alloc (.cells #[.int .i64 0, .slice none 0 0] 26)).alloc (.cells #[.int .i64 K, .int .i64 M, .int .i64 G, .int .i64 unit, .int .i64 size] 74)).alloc (.cells #[.int .i64 fr] 2)).alloc (.cells #[.int .i64 count] 2)) = W0 := ⟨_, rfl⟩
  rw [hW0] at q0 q3 q4 q5 qr hB0 hsz ⊢
  clear hW0 hq0 hq1 hq2 HB1
  have hrow : rowAt W0 w1.heap.size = none := by unfold rowAt; rw [q0]; rfl
  have hN := rgAll_len K unit size fr count
  obtain ⟨i0, hi, hz0', hz1', hz2'⟩ := info_parts info43
  refine wpIn_rangeFunc_ownH rfl (by omega) (gf := 73) (lb := #[.pointer (some ⟨w1.heap.size + 1 + 1, 0, none⟩), .pointer (some ⟨w1.heap.size + 1, 0, none⟩), .pointer (some ⟨w1.heap.size + 1 + 1 + 1, 0, none⟩)]) rfl trivial (enters_of Try.func73 (by kernel_rfl) rfl)
    (ranges_stops 2 (by omega) w1.heap.size (w1.heap.size + 1) (w1.heap.size + 1 + 1) (w1.heap.size + 1 + 1 + 1) K M G unit size fr count hK hK' hu hu' hs hs' (by omega) (by omega) (by omega) W0 (fun r e => by rw [hrow] at e; cases e) (by omega) q3 q4 q5 (by rw [hrow]; simp))
    (fun h k => Kpp.trans h k) (fun W l o o' hl h hc _ => Kpp.putObj W l o o' h hc (by omega)) (Below.refl _ _) (fun _ => rfl)
    (fun pre W => (∃ v, W.heap[w1.heap.size]? = some (.cells #[.int .i64 0, v] 26 (0, 0)) ∧ Row43 W w.heap.size v pre) ∧ W.heap[w.heap.size + 1]? = some (.cells #[.int .i64 0, .slice none 0 0] 26 (0, 0)) ∧ Below w.heap.size w W)
    (fun _ _ _ => False)
    ?hI
    (fun _ _ _ _ _ hs _ _ => hs)
    ⟨⟨.slice none 0 0, q0, [], World.ownsRow_nil _ _ _ _, Reps.none _ _⟩, qr, hB0⟩
    (fun x a' W => ∃ Bx, W.heap[Bx]? = some (.cells #[.int .i64 x.f0, .int .i64 x.f1, .int .i64 x.f2, .int .i64 x.f3] 43 (0, 0)) ∧ a' = { tmps := #[.agg #[.int .i64 K, .int .i64 M, .int .i64 G], .int .i64 unit, .int .i64 size, .int .i64 fr, .int .i64 count, .pointer (some ⟨w.heap.size, 0, none⟩), undef, undef, undef, undef, .pointer (some ⟨w.heap.size + 1, 0, none⟩), .pointer (some ⟨w1.heap.size, 0, none⟩), .pointer (some ⟨Bx, 0, none⟩), .agg #[.int .i64 K, .int .i64 M, .int .i64 G], .int .i64 unit, .int .i64 size, .int .i64 t, .bool (decide (t < 0)), .bool (decide (t < 0)), .int .i64 fr, .bool (decide (fr < 0)), .bool (decide (t < 0) || decide (fr < 0)), .bool (decide (t < 0) || decide (fr < 0)), .int .i64 count, .bool (decide (count < 0)), .bool (decide (t < 0) || decide (fr < 0) || decide (count < 0)), undef, .agg #[.int .i64 0, .slice none 0 0], .agg #[.int .i64 K, .int .i64 M, .int .i64 G], .int .i64 unit, .int .i64 size, .agg #[.int .i64 K, .int .i64 M, .int .i64 G, .int .i64 unit, .int .i64 size], .int .i64 fr, .int .i64 count, .func (.func 73) #[] #[.pointer (some ⟨w1.heap.size + 1 + 1, 0, none⟩), .pointer (some ⟨w1.heap.size + 1, 0, none⟩), .pointer (some ⟨w1.heap.size + 1 + 1 + 1, 0, none⟩)], .agg #[.int .i64 x.f0, .int .i64 x.f1, .int .i64 x.f2, .int .i64 x.f3], undef, undef, undef, undef, undef, undef, undef], defers := [] })
    ?hAx ?assign ?body ?done ?stop
  case hI =>
    rintro s A B row ⟨⟨v, hv, hr⟩, hres, hB⟩ hg hrow
    have hne : ∀ k cs t, A.heap[k]? = some (.cells cs t (0, 0)) → some k ≠ row := fun k cs t h e => by
      obtain ⟨_, o, ho, hc⟩ := hrow k e.symm
      rw [h] at ho; cases ho; cases hc
    refine ⟨⟨v, blk_grown hv hg (hne _ _ _ hv), hr.kept hg ?_⟩, blk_grown hres hg (hne _ _ _ hres), ?_⟩
    · cases hb : v.ownBlock with
      | none => exact .inl rfl
      | some k => obtain ⟨_, _, cells, hc⟩ := hr.block k hb; exact .inr (hne k _ _ hc)
    · exact hB.grown hg hB.size (fun k e => by have := (hrow k e).1; omega)
  case hAx =>
    rintro x a' s A B row ⟨Bx, hx, e⟩ hg hrow
    exact ⟨Bx, blk_grown hx hg (fun e => by obtain ⟨_, o, ho, hc⟩ := hrow Bx e.symm; rw [hx] at ho; cases ho; cases hc), e⟩
  case assign =>
    rintro l pre x W KK ⟨⟨v, hv, hr⟩, hres, hB⟩ hK2
    gi_wp2
    refine hK2 _ _ ((KeepsOthers.alloc _ _).from _) (Kpp.alloc _ (blk_lt hv)) ⟨⟨v, blk_alloc hv _, hr.kept (World.grownBy_alloc W _ none) (by cases v.ownBlock <;> simp)⟩, blk_alloc hres _, hB.alloc hB.size _⟩ ⟨W.heap.size, blk_new W _, rfl⟩
  case body =>
    rintro l pre x a' W hl _ ⟨⟨v, hv, hr⟩, hres, hB⟩ ⟨Bx, hx, rfl⟩ hlt
    have cx0 := blk_cell hx 0
    have cx1 := blk_cell hx 1
    have cx2 := blk_cell hx 2
    have cx3 := blk_cell hx 3
    have cb1 := blk_cell hv 1
    simp only [List.getElem?_toArray, List.getElem?_cons_zero, List.getElem?_cons_succ] at cx0 cx1 cx2 cx3 cb1
    obtain ⟨inner, hown, hreps⟩ := hr
    have HV := Lib.hid hv; clear hv
    have HX := Lib.hid hx; clear hx
    have HRS := Lib.hid hres; clear hres
    have hne : some w1.heap.size ≠ v.ownBlock := fun e => by
      obtain ⟨cells, hc⟩ := own_typed hown _ e.symm
      have := HV.out.symm.trans hc; cases this
    have hne2 : some (w.heap.size + 1) ≠ v.ownBlock := fun e => by
      obtain ⟨cells, hc⟩ := own_typed hown _ e.symm
      have := HRS.out.symm.trans hc; cases this
    have HNE := Lib.hid hne; clear hne
    have HNE2 := Lib.hid hne2; clear hne2
    have HR0 := Lib.hid hreps; clear hreps
    gi_wp2_with (gi_at_builtin; refine wpListIn_append_own_at _ rfl _ _ 24 rfl w.heap.size 43 i0 (.agg #[.int .i64 0, .int .i64 0, .int .i64 0, .int .i64 0]) 4 32 Try.underlying24 hi hz0' hz1' hz2' rfl (by decide) _ _ _ rfl (hown.alloc _) ⟨W.heap.size, 0, none⟩ 1 1 [.int .i64 x.f0, .int .i64 x.f1, .int .i64 x.f2, .int .i64 x.f3] rfl rfl ?c1 ?c2 ?c3 ?c4 ?c5 ?_)
    case c1 => exact World.news_of_block (cs := #[.int .i64 x.f0, .int .i64 x.f1, .int .i64 x.f2, .int .i64 x.f3]) (t := 43) (fr := (0, 0)) (blk_new W _)
    case c2 => simp [Value.oneCell']
    case c3 => unfold maxLen; omega
    case c4 => omega
    case c5 => have := hB.size; simp; omega
    intro v' w2 hown' hgrow _ hat
    have hrow' : ∀ r, v'.ownBlock = some r → r < w2.heap.size := fun r e => own_lt hown' r e
    obtain ⟨g', cap', hv'⟩ := ownsRow_succ hown'
    have hat' : v'.ownBlock = v.ownBlock ∨ v'.ownBlock = some (W.alloc (.cells #[.int .i64 x.f0, .int .i64 x.f1, .int .i64 x.f2, .int .i64 x.f3] 43)).heap.size := by simpa using hat
    obtain ⟨hKp, hv3⟩ := Kpp.append HV.out HNE.out hrow' hgrow hat'
    have h2 : w2.heap[w1.heap.size]? = some (.cells #[.int .i64 0, v] 26 (0, 0)) := blk_grown (blk_alloc HV.out _) hgrow HNE.out
    have hcb : w2.cell? ⟨w1.heap.size, 1, none⟩ = some v := blk_cell h2 1
    have hfb : w2.frozen? ⟨w1.heap.size, 1, none⟩ = false := blk_frozen h2 1
    have hres2 : (w2.setCell ⟨w1.heap.size, 1, none⟩ v').heap[w.heap.size + 1]? = some (.cells #[.int .i64 0, .slice none 0 0] 26 (0, 0)) := blk_far (blk_grown (blk_alloc HRS.out _) hgrow HNE2.out) (by show w.heap.size + 1 ≠ w1.heap.size; omega) _
    have hrow2 : Row43 (w2.setCell ⟨w1.heap.size, 1, none⟩ v') w.heap.size v' (pre ++ [x]) := by
      refine ⟨inner ++ [.int .i64 x.f0, .int .i64 x.f1, .int .i64 x.f2, .int .i64 x.f3], ?_, HR0.out.snoc rfl rfl⟩
      rw [List.length_append, List.length_singleton]
      exact own_setCell hown' (fun e => by obtain ⟨cells, hc⟩ := own_typed hown' _ e.symm; have := h2.symm.trans hc; cases this) v'
    have hB2 : Below w.heap.size w (w2.setCell ⟨w1.heap.size, 1, none⟩ v') := ((hB.alloc hB.size _).grown hgrow (by have := hB.size; simp; omega) (fun k e => own_base hown k e)).setCell (by show w.heap.size ≤ w1.heap.size; omega) _
    have hKF : KeepsFrom W0.heap.size W (w2.setCell ⟨w1.heap.size, 1, none⟩ v') := by
      refine ((KeepsOthers.alloc W (.cells #[.int .i64 x.f0, .int .i64 x.f1, .int .i64 x.f2, .int .i64 x.f3] 43)).from _).trans (.trans ((KeepsOthers.of_grownBy hgrow fun j o ej hj => ?_).from _) ((KeepsOthers.setCell _ _ _).from _))
      obtain ⟨cells, hc⟩ := own_typed hown j ej
      rw [blk_alloc hc _] at hj; cases hj; rfl
    have P1 := Lib.hid hKp
    have P2 := Lib.hid hv3
    have P3 := Lib.hid hres2
    have P4 := Lib.hid hrow2
    have P5 := Lib.hid hB2
    have P6 := Lib.hid hKF
    clear hKp hv3 hres2 hrow2 hB2 hKF hrow' hown' hgrow hat hat' h2 hown HV HX HRS HNE HNE2 HR0
    subst hv'
    gi_wp2
    exact ⟨P6.out, P1.out, ⟨_, P2.out, P4.out⟩, P3.out, P5.out⟩
  case done =>
    rintro D ys W hD rfl ⟨⟨v, hv, hr⟩, hres, hB⟩ hK
    have cb0 := blk_cell hv 0
    have cb1 := blk_cell hv 1
    have cr0 := blk_cell hres 0
    have cr1 := blk_cell hres 1
    have fr0 := blk_frozen hres 0
    have fr1 := blk_frozen hres 1
    simp only [List.getElem?_toArray, List.getElem?_cons_zero, List.getElem?_cons_succ] at cb0 cb1 cr0 cr1
    have hne : ∀ cs, W.heap[w.heap.size + 1]? = some (.cells cs 26 (0, 0)) → some (w.heap.size + 1) ≠ v.ownBlock := fun cs h e => by
      obtain ⟨_, _, cells, hc⟩ := hr.block _ e.symm
      rw [h] at hc; cases hc
    obtain ⟨A, c, rfl⟩ : ∃ A c, v = .slice A (rgAll K unit size fr count).length c := by
      obtain ⟨inner, ho, _⟩ := hr
      exact own_slice ho
    have P1 := Lib.hid (hne _ hres)
    have P2 := Lib.hid hr
    have P3 := Lib.hid hB
    have P4 := Lib.hid hres
    have P5 := Lib.hid hK
    clear hne hr hB hres hv
    gi_wp2
    have hDne : D ≠ w.heap.size + 1 := fun e => by subst e; have := P5.out.symm.trans P4.out; cases this
    have hK3 : ((W.setCell ⟨w.heap.size + 1, 0, none⟩ (.int .i64 0)).setCell ⟨w.heap.size + 1, 1, none⟩ (.slice A (rgAll K unit size fr count).length c)).heap[D]? = some (.deferred (some [])) := by
      rw [Below.heap_setCell _ _ _ D hDne, Below.heap_setCell _ _ _ D hDne]; exact P5.out
    have hg3 : ((W.setCell ⟨w.heap.size + 1, 0, none⟩ (.int .i64 0)).setCell ⟨w.heap.size + 1, 1, none⟩ (.slice A (rgAll K unit size fr count).length c)).heap[w.heap.size + 1]? = some (.cells #[.int .i64 0, .slice A (rgAll K unit size fr count).length c] 26 (0, 0)) := blk_put (blk_put P4.out 0 _ rfl) 1 _ rfl
    have hr3 : Row43 ((W.setCell ⟨w.heap.size + 1, 0, none⟩ (.int .i64 0)).setCell ⟨w.heap.size + 1, 1, none⟩ (.slice A (rgAll K unit size fr count).length c)) w.heap.size (.slice A (rgAll K unit size fr count).length c) (rgAll K unit size fr count) := by
      obtain ⟨inner, ho, hre⟩ := P2.out
      exact ⟨inner, own_setCell (own_setCell ho P1.out _) P1.out _, hre⟩
    have hr4 := hr3.kept (grownBy_putObj' _ D (.deferred none)) (by
      cases hb : (Value.slice A (rgAll K unit size fr count).length c).ownBlock with
      | none => exact .inl rfl
      | some k => refine .inr fun e => ?_; obtain ⟨_, _, cells, hc⟩ := hr3.block k hb; cases e; rw [hK3] at hc; cases hc)
    have hB3 : Below w.heap.size w ((W.setCell ⟨w.heap.size + 1, 0, none⟩ (.int .i64 0)).setCell ⟨w.heap.size + 1, 1, none⟩ (.slice A (rgAll K unit size fr count).length c)) := (P3.out.setCell (by show w.heap.size ≤ w.heap.size + 1; omega) _).setCell (by show w.heap.size ≤ w.heap.size + 1; omega) _
    refine ⟨by simp, .inl ⟨_, _, rfl, run_takeDeferred hK3, ?_⟩⟩
    exact ⟨_, rr_ret rfl ((World.putObj_heap_other (Ne.symm hDne)).trans hg3), _, rfl, hr4, hB3.trans (belowK_b (w := w) (Nat.le_refl _) _ D _ _ (by omega) hK3 rfl rfl)⟩
  case stop =>
    rintro D c pre W _ _ h _
    exact h.elim

/-- What a code without fault is. -/
theorem stripe_some (k : Nat) (K M G unit size t : Int) (h : impl_StripeCount.f k K M G unit size = some t) (ht : ¬ t < 0) : 1 ≤ K ∧ K ≤ 32 ∧ 1 ≤ unit ∧ unit ≤ 4096 ∧ 0 ≤ size ∧ size ≤ 100000 := by
  unfold impl_StripeCount.f at h
  obtain ⟨c, hc, h⟩ := Option.bind_eq_some_iff.mp h
  have hj : ∀ k (b : Bool), impl_StripeCount.j0 k unit size b K M G = some t → b = false := by
    intro k b h
    cases b with
    | false => rfl
    | true =>
      cases k with
      | zero => simp [impl_StripeCount.j0] at h
      | succ k => simp only [impl_StripeCount.j0, if_true] at h; cases h; omega
  by_cases h0 : c = 0
  · rw [if_pos h0] at h
    unfold impl_CodeFault.f at hc
    by_cases a1 : K < 1
    · rw [if_pos a1] at hc; cases hc; omega
    rw [if_neg a1] at hc
    by_cases a2 : K > 32
    · rw [if_pos a2] at hc; cases hc; omega
    clear hc
    by_cases b1 : unit < 1
    · rw [if_pos b1] at h; cases hj _ _ h
    rw [if_neg b1] at h
    by_cases b2 : unit > 4096
    · rw [if_pos b2] at h; cases hj _ _ h
    rw [if_neg b2] at h
    by_cases b3 : size < 0
    · rw [if_pos b3] at h; cases hj _ _ h
    rw [if_neg b3] at h
    have := of_decide_eq_false (hj _ _ h)
    omega
  · rw [if_neg h0] at h; cases hj _ _ h

theorem impl_RangeReads.calls (k : Nat) (a0_0 : Int) (a0_1 : Int) (a0_2 : Int) (a1 : Int) (a2 : Int) (a3 : Int) (a4 : Int) (r1 : Int) (r2 : List (S43)) (w : World) (h : impl_RangeReads.f k a0_0 a0_1 a0_2 a1 a2 a3 a4 = some (r1, r2)) :
    Calls Try.prog 10 #[.agg #[.int .i64 a0_0, .int .i64 a0_1, .int .i64 a0_2], .int .i64 a1, .int .i64 a2, .int .i64 a3, .int .i64 a4] w fun e w' => ∃ v1_ : Value, e = .returned (.agg #[.int .i64 r1, v1_]) ∧ Kd.R k43 43 w' w.heap.size (fun _ => True) v1_ r2 ∧ Below w.heap.size w w' := by
  unfold impl_RangeReads.f at h
  obtain ⟨t, ht, h⟩ := Option.bind_eq_some_iff.mp h
  by_cases hbad : t < 0 ∨ a3 < 0 ∨ a4 < 0
  · rw [if_pos hbad] at h
    cases h
    exact (callsIn_wide (n := 3)).1 (rr_bad k _ _ _ _ _ _ _ t w ht hbad)
  · rw [if_neg hbad] at h
    cases h
    obtain ⟨g1, g2, g3, g4, g5, g6⟩ := stripe_some k _ _ _ _ _ t ht (by omega)
    exact ((callsIn_wide (n := 3)).1 (rr_ok k _ a0_1 a0_2 _ _ _ _ t w ht (by omega) (by omega) (by omega) g1 g2 g3 g4 g5 g6)).mono fun e w' ⟨v, he, hr, hb⟩ => ⟨v, he, hr.R, hb⟩
end Go.Proofs.Ythollhmhcnpfiaa.QA
