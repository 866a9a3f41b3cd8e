/- The reference's RangeReads: its contract in the printer's form. Conditions: none beyond the printed ones. -/
import Derived.Maps.OwnIn
import Derived.Lib.Hide
import Derived.Test.YthollhmhcnpfiaaQAxspecStripeCount
namespace Go.Proofs.Ythollhmhcnpfiaa.QA
open Go.RowKit Go.Proofs.YthollhmhcnpfiaaW.PrintWords Go.Proofs.YthollhmhcnpfiaaW.PrintLast Go.Proofs.YthollhmhcnpfiaaW.PrintMore
set_option linter.unusedVariables false

/-- One piece, as the reference tells it. -/
def sgOne (K unit e a : Int) : S43 := ⟨a / (K * unit), a / unit % K, a % unit, if e - a < unit - a % unit then e - a else unit - a % unit⟩
def sgList (K unit e : Int) : Nat → Int → List S43
  | 0, _ => []
  | d + 1, a => if a < e then sgOne K unit e a :: sgList K unit e d (a + (sgOne K unit e a).f3) else []
def sgFrom (size fr : Int) : Int := if size < fr then size else fr
def sgEnd (size fr count : Int) : Int := if size - sgFrom size fr < count then sgFrom size fr + (size - sgFrom size fr) else sgFrom size fr + count
def sgAll (K unit size fr count : Int) : List S43 := sgList K unit (sgEnd size fr count) size.toNat (sgFrom size fr)
theorem sgList_stop (K unit e : Int) (d : Nat) (a : Int) (h : ¬ a < e) : sgList K unit e d a = [] := by cases d <;> simp [sgList, h]
theorem sgList_len (K unit e : Int) : ∀ (d : Nat) (a : Int), (sgList K unit e d a).length ≤ d
  | 0, _ => by simp [sgList]
  | d + 1, a => by
    unfold sgList
    split
    · have := sgList_len K unit e d (a + (sgOne K unit e a).f3)
      simp; omega
    · simp
theorem sgAll_len (K unit size fr count : Int) : (sgAll K unit size fr count).length ≤ size.toNat := sgList_len ..

def spec_RangeReads.f (k : Nat) (a0_0 : Int) (a0_1 : Int) (a0_2 : Int) (a1 : Int) (a2 : Int) (a3 : Int) (a4 : Int) : Option (Int × (List (S43))) :=
  (spec_StripeCount.f k a0_0 a0_1 a0_2 a1 a2).bind fun t => if t < 0 ∨ a3 < 0 ∨ a4 < 0 then some (1, []) else some (0, sgAll a0_0 a1 a2 a3 a4)
theorem spec_RangeReads.mono : ∀ a0 a1 a2 a3 a4 a5 a6 k, LeO (spec_RangeReads.f k a0 a1 a2 a3 a4 a5 a6) (spec_RangeReads.f (k + 1) a0 a1 a2 a3 a4 a5 a6) := by
  intro a0 a1 a2 a3 a4 a5 a6 k
  unfold spec_RangeReads.f
  exact LeO.bind (spec_StripeCount.mono _ _ _ _ _ _) (fun _ => LeO.refl _)

theorem sr_size {w w1 : World} {o o' : Obj} (hb : Below ((w.alloc o).alloc o').heap.size ((w.alloc o).alloc o') w1) : w.heap.size + 1 < w1.heap.size := by have := hb.size; simp at this; omega
theorem sr_ret {W : World} {g : Nat} {n : Int} {v : Value} {tmps : Array Value} (hp : tmps.getD 10 undef = .pointer (some ⟨g, 0, none⟩)) (hg : W.heap[g]? = some (.cells #[.int .i64 n, v] 26 (0, 0))) :
    (results Try.f8 tmps).run Try.prog W = .ok (.agg #[.int .i64 n, v]) W :=
  results_cell_row (p := 10) (ty := 26) rfl _ _ g 26 #[.int .i64 n, v] (0, 0) _ hp hg Try.underlying26 rfl (by kernel_rfl)
theorem sr_blocks {w w1 : World} {K M G : Int} {o' : Obj} (hb : Below ((w.alloc (.cells #[.int .i64 K, .int .i64 M, .int .i64 G] 28)).alloc o').heap.size ((w.alloc (.cells #[.int .i64 K, .int .i64 M, .int .i64 G] 28)).alloc o') w1) :
    w1.heap[w.heap.size]? = some (.cells #[.int .i64 K, .int .i64 M, .int .i64 G] 28 (0, 0)) ∧ w1.heap[w.heap.size + 1]? = some o' := by
  refine ⟨blk_below (blk_alloc (blk_new w _) _) hb, ?_⟩
  have := blk_below (blk_new (w.alloc (.cells #[.int .i64 K, .int .i64 M, .int .i64 G] 28)) o') hb
  rwa [World.size_alloc] at this

set_option maxRecDepth 100000 in
set_option maxHeartbeats 2000000 in
theorem sr_bad (k : Nat) (K M G unit size fr count t : Int) (w : World) (ht : spec_StripeCount.f k K M G unit size = some t) (hbad : t < 0 ∨ fr < 0 ∨ count < 0) :
    Calls Try.prog 8 #[.agg #[.int .i64 K, .int .i64 M, .int .i64 G], .int .i64 unit, .int .i64 size, .int .i64 fr, .int .i64 count] w fun e w' => ∃ v1_ : Value, e = .returned (.agg #[.int .i64 1, v1_]) ∧ Kd.R k43 43 w' w.heap.size (fun _ => True) v1_ [] ∧ Below w.heap.size w w' := by
  have HT := Lib.hid ht; clear ht
  have hway : t < 0 ∨ (¬ t < 0 ∧ fr < 0) ∨ (¬ t < 0 ∧ ¬ fr < 0 ∧ count < 0) := by omega
  clear hbad
  rcases hway with h1 | ⟨h1, h2⟩ | ⟨h1, h2, h3⟩
  all_goals
    go_enter Try.func8, Try.ntmps8
    go_wp2_with (go_at_call 16; refine (spec_StripeCount.calls k _ _ _ _ _ t _ HT.out).mono ?_; rintro e w1 ⟨rfl, hb⟩; have hz := sr_size hb; have hz0 : w.heap.size < w1.heap.size := (by omega); obtain ⟨hq0, hres⟩ := sr_blocks hb; have HB1 := Lib.hid hb; clear hb; have HRES := Lib.hid hres; have c0 := blk_cell hres 0; have c1 := blk_cell hres 1; have f0 := blk_frozen hres 0; have f1 := blk_frozen hres 1; clear hres hq0)
    have hbB : Below w.heap.size w w1 := (((Below.refl _ w).alloc (Nat.le_refl _) _).alloc (by simp) _).trans (HB1.out.mono (by simp; omega))
    refine bodyPost_ret (sr_ret rfl (blk_set (blk_set HRES.out 0 _) 1 _)) rfl ?_
    exact ⟨.slice none 0 0, rfl, Kd.R_nil _ _ _ _ _, (hbB.setCell (by simp) _).setCell (by simp) _⟩

set_option maxRecDepth 100000 in
set_option maxHeartbeats 4000000 in
theorem sr_ok (k : Nat) (K M G unit size fr count t : Int) (w : World) (ht : spec_StripeCount.f k K M G unit size = some t) (h1 : ¬ t < 0) (h2 : ¬ fr < 0) (h3 : ¬ count < 0)
    (hK : 1 ≤ K) (hK' : K ≤ 32) (hu : 1 ≤ unit) (hu' : unit ≤ 4096) (hs : 0 ≤ size) (hs' : size ≤ 100000) :
    Calls Try.prog 8 #[.agg #[.int .i64 K, .int .i64 M, .int .i64 G], .int .i64 unit, .int .i64 size, .int .i64 fr, .int .i64 count] w fun e w' => ∃ v1_ : Value, e = .returned (.agg #[.int .i64 0, v1_]) ∧ Kd.R k43 43 w' w.heap.size (fun _ => True) v1_ (sgAll K unit size fr count) ∧ Below w.heap.size w w' := by
  have HT := Lib.hid ht; clear ht
  go_enter Try.func8, Try.ntmps8
  go_upto_if 31 with (go_at_call 16; refine (spec_StripeCount.calls k _ _ _ _ _ t _ HT.out).mono ?_; rintro e w1 ⟨rfl, hb⟩; have hz := sr_size hb; have hz0 : w.heap.size < w1.heap.size := (by omega); obtain ⟨hq0, hres⟩ := sr_blocks hb; have HB1 := Lib.hid hb; clear hb; have HRES := Lib.hid hres; have HQ0 := Lib.hid hq0; have c00 := blk_cell hq0 0; clear hres hq0)
  go_cut [3] (fun v3 wc => ∃ f : Int, v3 = .int .i64 f ∧ Hid (f = sgFrom size fr) ∧ 0 ≤ f ∧ f ≤ size ∧ Hid (wc = w1.alloc (.cells #[] 43)))
  case first =>
    by_cases hc1 : size < fr
    · go_wp2
      go_meet
      exact ⟨size, rfl, by show _ = _; unfold sgFrom; rw [if_pos hc1], hs, Int.le_refl _, rfl⟩
    · go_wp2
      go_meet
      exact ⟨fr, rfl, by show _ = _; unfold sgFrom; rw [if_neg (by omega)], by omega, by omega, rfl⟩
  case rest =>
  obtain ⟨f, rfl, HF, hf0, hf1, HW⟩ := hcut
  have hwc := HW.out
  subst hwc
  clear HW
  go_upto_if 37 with (fail)
  go_cut [4] (fun v4 wc => ∃ c : Int, v4 = .int .i64 c ∧ Hid (f + c = sgEnd size fr count) ∧ 0 ≤ c ∧ f + c ≤ size ∧ Hid (wc = w1.alloc (.cells #[] 43)))
  case first =>
    by_cases hc1 : size - f < count
    · go_wp2
      go_meet
      exact ⟨size - f, rfl, by show _ = _; unfold sgEnd; rw [← HF.out, if_pos hc1], by omega, by omega, rfl⟩
    · go_wp2
      go_meet
      exact ⟨count, rfl, by show _ = _; unfold sgEnd; rw [← HF.out, if_neg (by omega)], by omega, by omega, rfl⟩
  case rest =>
  obtain ⟨c, rfl, HE, hc0, hc1, HW⟩ := hcut
  have hwc := HW.out
  subst hwc
  clear HW
  have hsz1 : w.heap.size + 1 < w1.heap.size := hz
  have hKU1 : 1 ≤ K * unit := by have := Int.mul_le_mul hK hu (by omega) (by omega); omega
  have hKU2 : K * unit ≤ 131072 := by have := Int.mul_le_mul hK' hu' (by omega) (by omega); omega
  have hbB : Below w.heap.size w (w1.alloc (.cells #[] 43)) := ((((Below.refl _ w).alloc (Nat.le_refl _) _).alloc (by simp) _).trans (HB1.out.mono (by simp; omega))).alloc (by omega) _
  have hrow0 : ∃ inner, (w1.alloc (.cells #[] 43)).ownsRow w.heap.size 43 4 (.slice (some ⟨w1.heap.size, 0, none⟩) 0 0) 0 inner ∧ Reps (fun (x : S43) c => c = [.int .i64 x.f0, .int .i64 x.f1, .int .i64 x.f2, .int .i64 x.f3]) 4 [] inner :=
    ⟨[], ⟨by simp, .inr ⟨w1.heap.size, 0, #[], rfl, by omega, blk_new w1 _, Nat.le_refl _, by decide, rfl, rfl⟩⟩, Reps.none _ _⟩
  have hN := sgAll_len K unit size fr count
  have hAll : sgAll K unit size fr count = sgList K unit (f + c) size.toNat f := by unfold sgAll; rw [HE.out, HF.out]
  have q0 := blk_alloc HQ0.out (.cells #[] 43)
  have qr := blk_alloc HRES.out (.cells #[] 43)
  obtain ⟨W0, hW0⟩ : ∃ W0, w1.alloc (.cells #[] 43) = W0 := ⟨_, rfl⟩
  rw [hW0] at hbB hrow0 q0 qr ⊢
  have hb0 : w1.heap.size < W0.heap.size := by rw [← hW0]; simp
  have HROW := Lib.hid hrow0
  have HALL := Lib.hid hAll
  have HBB := Lib.hid hbB
  have HQ := Lib.hid q0
  have HQR := Lib.hid qr
  clear hrow0 hAll hbB HE HF HRES HQ0 HB1 c00 hW0 q0 qr HT h1 h2 h3
  obtain ⟨i0, hi, hz0', hz1', hz2'⟩ := info_parts info43
  go_wp2
  go_loopw [11, 12] (fun v11 v12 wr => ∃ (pre : List S43) (a : Int) (d : Nat) (inner : List Value), v12 = .int .i64 a ∧ 0 ≤ a ∧ a ≤ 200000 ∧ f + c - a ≤ d ∧ Hid (sgAll K unit size fr count = pre ++ sgList K unit (f + c) d a) ∧
      wr.ownsRow w.heap.size 43 4 v11 pre.length inner ∧ Hid (Reps (fun (x : S43) c => c = [.int .i64 x.f0, .int .i64 x.f1, .int .i64 x.f2, .int .i64 x.f3]) 4 pre inner) ∧
      Hid (wr.heap[w.heap.size]? = some (.cells #[.int .i64 K, .int .i64 M, .int .i64 G] 28 (0, 0))) ∧ Hid (wr.heap[w.heap.size + 1]? = some (.cells #[.int .i64 0, .slice none 0 0] 26 (0, 0))) ∧ Hid (Below w.heap.size w wr) ∧ w.heap.size + 1 < wr.heap.size)
      (fun _ v12 _ => (200000 - intOf v12).toNat)
  case atStart =>
    obtain ⟨inner, ho, hr⟩ := HROW.out
    exact ⟨[], f, size.toNat, inner, rfl, hf0, by omega, by omega, HALL, ho, hr, HQ, HQR, HBB, by omega⟩
  case round =>
    clear HROW HALL HBB HQ HQR
    obtain ⟨pre, a, d, inner, rfl, ha0, ha1, hd, hx, hown, HR, HQ, HQR, HB, hsz⟩ := hrel
    by_cases hlt : a < f + c
    · have hlen : pre.length < (sgAll K unit size fr count).length := by rw [hx.out]; cases d with | zero => omega | succ d => simp [sgList, hlt]
      obtain ⟨d, rfl⟩ : ∃ m, d = m + 1 := ⟨d - 1, by omega⟩
      have hpre : pre.length < 100000 := by omega
      clear hlen hN
      have hszK : w.heap.size < wr.heap.size := by omega
      have k0 : wr.cell? ⟨w.heap.size, 0, none⟩ = some (.int .i64 K) := blk_cell HQ.out 0
      have k0a : ∀ o, (wr.alloc o).cell? ⟨w.heap.size, 0, none⟩ = some (.int .i64 K) := fun o => (World.cell?_alloc_lt wr (a := ⟨w.heap.size, 0, none⟩) (o := o) hszK).trans k0
      have hd0 : 0 ≤ a / (K * unit) := Int.ediv_nonneg ha0 (by omega)
      have hd1 : a / (K * unit) ≤ a := Int.ediv_le_self _ ha0
      have hu0 : 0 ≤ a / unit := Int.ediv_nonneg ha0 (by omega)
      have hu1 : a / unit ≤ a := Int.ediv_le_self _ ha0
      have hm0 : 0 ≤ a / unit % K := Int.emod_nonneg _ (by omega)
      have hm1 : a / unit % K < K := Int.emod_lt_of_pos _ (by omega)
      have hz0 : 0 ≤ a % unit := Int.emod_nonneg _ (by omega)
      have hz1 : a % unit < unit := Int.emod_lt_of_pos _ (by omega)
      by_cases hmin : f + c - a < unit - a % unit
      · have HO : Hid (sgOne K unit (f + c) a = ⟨a / (K * unit), a / unit % K, a % unit, f + c - a⟩) := by
          show sgOne K unit (f + c) a = _
          simp only [sgOne]; rw [if_pos hmin]
        have hmv0 : 0 < f + c - a := by omega
        go_wp2
        go_region
        go_wp2_with (at_builtin; refine wpList_append_own_at _ rfl _ _ 24 rfl w.heap.size 43 i0 (.agg #[.int .i64 0, .int .i64 0, .int .i64 0, .int .i64 0]) 4 32 Try.underlying24 hi hz0' hz1' hz2' rfl (by decide) _ pre.length inner rfl (((own_other hown (World.grownBy_alloc wr _ none) (by cases Value.ownBlock _ <;> simp)).drew).alloc _) ⟨wr.heap.size + 1, 0, none⟩ 1 1 [.int .i64 (a / (K * unit)), .int .i64 (a / unit % K), .int .i64 (a % unit), .int .i64 (f + c - a)] rfl rfl ?c1 ?c2 ?c3 ?c4 ?c5 ?_)
        case c1 => exact World.news_of_block (cs := #[.int .i64 (a / (K * unit)), .int .i64 (a / unit % K), .int .i64 (a % unit), .int .i64 (f + c - a)]) (t := 43) (fr := (0, 0)) (by have := blk_new (wr.alloc (.cells #[.int .i64 (a / (K * unit)), .int .i64 (a / unit % K), .int .i64 (a % unit), .int .i64 (f + c - a)] 43)) (.cells #[.int .i64 (a / (K * unit)), .int .i64 (a / unit % K), .int .i64 (a % unit), .int .i64 (f + c - a)] 43); rw [World.size_alloc] at this; exact this)
        case c2 => simp [Value.oneCell']
        case c3 => unfold maxLen; omega
        case c4 => omega
        case c5 => have : (((wr.alloc (.cells #[.int .i64 (a / (K * unit)), .int .i64 (a / unit % K), .int .i64 (a % unit), .int .i64 (f + c - a)] 43)).alloc (.cells #[.int .i64 (a / (K * unit)), .int .i64 (a / unit % K), .int .i64 (a % unit), .int .i64 (f + c - a)] 43)).drew).heap.size = wr.heap.size + 2 := by show ((wr.alloc _).alloc _).heap.size = _; simp
                   omega
        intro v' w2 hown' hgrow _ _
        have hq2 : (((wr.alloc (.cells #[.int .i64 (a / (K * unit)), .int .i64 (a / unit % K), .int .i64 (a % unit), .int .i64 (f + c - a)] 43)).alloc (.cells #[.int .i64 (a / (K * unit)), .int .i64 (a / unit % K), .int .i64 (a % unit), .int .i64 (f + c - a)] 43)).drew).heap[wr.heap.size]? = some (.cells #[.int .i64 (a / (K * unit)), .int .i64 (a / unit % K), .int .i64 (a % unit), .int .i64 (f + c - a)] 43) := blk_alloc (blk_new wr _) _
        have hne : some wr.heap.size ≠ u11.ownBlock := fun e => by have := own_lt hown _ e.symm; omega
        have hq3 : w2.heap[wr.heap.size]? = some (.cells #[.int .i64 (a / (K * unit)), .int .i64 (a / unit % K), .int .i64 (a % unit), .int .i64 (f + c - a)] 43) := blk_grown hq2 hgrow hne
        have hcnt : w2.cell? ⟨wr.heap.size, 3, none⟩ = some (.int .i64 (f + c - a)) := blk_cell hq3 3
        have hneK : some w.heap.size ≠ u11.ownBlock := fun e => by
          obtain ⟨cells, hc⟩ := own_typed hown _ e.symm
          have := HQ.out.symm.trans hc; cases this
        have hneR : some (w.heap.size + 1) ≠ u11.ownBlock := fun e => by
          obtain ⟨cells, hc⟩ := own_typed hown _ e.symm
          have := HQR.out.symm.trans hc; cases this
        have hW2 : wr.heap.size + 1 < (((wr.alloc (.cells #[.int .i64 (a / (K * unit)), .int .i64 (a / unit % K), .int .i64 (a % unit), .int .i64 (f + c - a)] 43)).alloc (.cells #[.int .i64 (a / (K * unit)), .int .i64 (a / unit % K), .int .i64 (a % unit), .int .i64 (f + c - a)] 43)).drew).heap.size := by show _ < ((wr.alloc _).alloc _).heap.size; simp
        have HQ2 := Lib.hid (blk_grown (blk_drew (blk_alloc (blk_alloc HQ.out (.cells #[.int .i64 (a / (K * unit)), .int .i64 (a / unit % K), .int .i64 (a % unit), .int .i64 (f + c - a)] 43)) (.cells #[.int .i64 (a / (K * unit)), .int .i64 (a / unit % K), .int .i64 (a % unit), .int .i64 (f + c - a)] 43))) hgrow hneK)
        have HQR2 := Lib.hid (blk_grown (blk_drew (blk_alloc (blk_alloc HQR.out (.cells #[.int .i64 (a / (K * unit)), .int .i64 (a / unit % K), .int .i64 (a % unit), .int .i64 (f + c - a)] 43)) (.cells #[.int .i64 (a / (K * unit)), .int .i64 (a / unit % K), .int .i64 (a % unit), .int .i64 (f + c - a)] 43))) hgrow hneR)
        have HB2 : Hid (Below w.heap.size w w2) := (((HB.out.alloc HB.out.size _).alloc (by have := HB.out.size; simp; omega) _).drew).grown hgrow (by have := HB.out.size; omega) (fun k e => own_base hown k e)
        have hsz2 : w.heap.size + 1 < w2.heap.size := by have := hgrow.size; omega
        have hx2 : Hid (sgAll K unit size fr count = (pre ++ [⟨a / (K * unit), a / unit % K, a % unit, f + c - a⟩]) ++ sgList K unit (f + c) d (a + (f + c - a))) := by
          show _ = _
          rw [hx.out]; simp only [sgList]; rw [if_pos hlt, HO.out]; simp
        have HOW := Lib.hid hown'
        have HR2 := Lib.hid (HR.out.snoc (p := (⟨a / (K * unit), a / unit % K, a % unit, f + c - a⟩ : S43)) rfl rfl)
        clear hown' hgrow hq2 hq3 hne hneK hneR HQ HQR HB hown hx HR k0 k0a hW2
        go_wp2
        go_roundw
        case rel => exact ⟨_, a + (f + c - a), d, _, rfl, by omega, by omega, by omega, hx2, by rw [List.length_append, List.length_singleton]; exact HOW.out, HR2, HQ2, HQR2, HB2, hsz2⟩
        case measure => simp [intOf]; omega
      · have HO : Hid (sgOne K unit (f + c) a = ⟨a / (K * unit), a / unit % K, a % unit, unit - a % unit⟩) := by
          show sgOne K unit (f + c) a = _
          simp only [sgOne]; rw [if_neg hmin]
        have hmv0 : 0 < unit - a % unit := by omega
        go_wp2
        go_region
        go_wp2_with (at_builtin; refine wpList_append_own_at _ rfl _ _ 24 rfl w.heap.size 43 i0 (.agg #[.int .i64 0, .int .i64 0, .int .i64 0, .int .i64 0]) 4 32 Try.underlying24 hi hz0' hz1' hz2' rfl (by decide) _ pre.length inner rfl (((own_other hown (World.grownBy_alloc wr _ none) (by cases Value.ownBlock _ <;> simp)).drew).alloc _) ⟨wr.heap.size + 1, 0, none⟩ 1 1 [.int .i64 (a / (K * unit)), .int .i64 (a / unit % K), .int .i64 (a % unit), .int .i64 (unit - a % unit)] rfl rfl ?c1 ?c2 ?c3 ?c4 ?c5 ?_)
        case c1 => exact World.news_of_block (cs := #[.int .i64 (a / (K * unit)), .int .i64 (a / unit % K), .int .i64 (a % unit), .int .i64 (unit - a % unit)]) (t := 43) (fr := (0, 0)) (by have := blk_new (wr.alloc (.cells #[.int .i64 (a / (K * unit)), .int .i64 (a / unit % K), .int .i64 (a % unit), .int .i64 (unit - a % unit)] 43)) (.cells #[.int .i64 (a / (K * unit)), .int .i64 (a / unit % K), .int .i64 (a % unit), .int .i64 (unit - a % unit)] 43); rw [World.size_alloc] at this; exact this)
        case c2 => simp [Value.oneCell']
        case c3 => unfold maxLen; omega
        case c4 => omega
        case c5 => have : (((wr.alloc (.cells #[.int .i64 (a / (K * unit)), .int .i64 (a / unit % K), .int .i64 (a % unit), .int .i64 (unit - a % unit)] 43)).alloc (.cells #[.int .i64 (a / (K * unit)), .int .i64 (a / unit % K), .int .i64 (a % unit), .int .i64 (unit - a % unit)] 43)).drew).heap.size = wr.heap.size + 2 := by show ((wr.alloc _).alloc _).heap.size = _; simp
                   omega
        intro v' w2 hown' hgrow _ _
        have hq2 : (((wr.alloc (.cells #[.int .i64 (a / (K * unit)), .int .i64 (a / unit % K), .int .i64 (a % unit), .int .i64 (unit - a % unit)] 43)).alloc (.cells #[.int .i64 (a / (K * unit)), .int .i64 (a / unit % K), .int .i64 (a % unit), .int .i64 (unit - a % unit)] 43)).drew).heap[wr.heap.size]? = some (.cells #[.int .i64 (a / (K * unit)), .int .i64 (a / unit % K), .int .i64 (a % unit), .int .i64 (unit - a % unit)] 43) := blk_alloc (blk_new wr _) _
        have hne : some wr.heap.size ≠ u11.ownBlock := fun e => by have := own_lt hown _ e.symm; omega
        have hq3 : w2.heap[wr.heap.size]? = some (.cells #[.int .i64 (a / (K * unit)), .int .i64 (a / unit % K), .int .i64 (a % unit), .int .i64 (unit - a % unit)] 43) := blk_grown hq2 hgrow hne
        have hcnt : w2.cell? ⟨wr.heap.size, 3, none⟩ = some (.int .i64 (unit - a % unit)) := blk_cell hq3 3
        have hneK : some w.heap.size ≠ u11.ownBlock := fun e => by
          obtain ⟨cells, hc⟩ := own_typed hown _ e.symm
          have := HQ.out.symm.trans hc; cases this
        have hneR : some (w.heap.size + 1) ≠ u11.ownBlock := fun e => by
          obtain ⟨cells, hc⟩ := own_typed hown _ e.symm
          have := HQR.out.symm.trans hc; cases this
        have hW2 : wr.heap.size + 1 < (((wr.alloc (.cells #[.int .i64 (a / (K * unit)), .int .i64 (a / unit % K), .int .i64 (a % unit), .int .i64 (unit - a % unit)] 43)).alloc (.cells #[.int .i64 (a / (K * unit)), .int .i64 (a / unit % K), .int .i64 (a % unit), .int .i64 (unit - a % unit)] 43)).drew).heap.size := by show _ < ((wr.alloc _).alloc _).heap.size; simp
        have HQ2 := Lib.hid (blk_grown (blk_drew (blk_alloc (blk_alloc HQ.out (.cells #[.int .i64 (a / (K * unit)), .int .i64 (a / unit % K), .int .i64 (a % unit), .int .i64 (unit - a % unit)] 43)) (.cells #[.int .i64 (a / (K * unit)), .int .i64 (a / unit % K), .int .i64 (a % unit), .int .i64 (unit - a % unit)] 43))) hgrow hneK)
        have HQR2 := Lib.hid (blk_grown (blk_drew (blk_alloc (blk_alloc HQR.out (.cells #[.int .i64 (a / (K * unit)), .int .i64 (a / unit % K), .int .i64 (a % unit), .int .i64 (unit - a % unit)] 43)) (.cells #[.int .i64 (a / (K * unit)), .int .i64 (a / unit % K), .int .i64 (a % unit), .int .i64 (unit - a % unit)] 43))) hgrow hneR)
        have HB2 : Hid (Below w.heap.size w w2) := (((HB.out.alloc HB.out.size _).alloc (by have := HB.out.size; simp; omega) _).drew).grown hgrow (by have := HB.out.size; omega) (fun k e => own_base hown k e)
        have hsz2 : w.heap.size + 1 < w2.heap.size := by have := hgrow.size; omega
        have hx2 : Hid (sgAll K unit size fr count = (pre ++ [⟨a / (K * unit), a / unit % K, a % unit, unit - a % unit⟩]) ++ sgList K unit (f + c) d (a + (unit - a % unit))) := by
          show _ = _
          rw [hx.out]; simp only [sgList]; rw [if_pos hlt, HO.out]; simp
        have HOW := Lib.hid hown'
        have HR2 := Lib.hid (HR.out.snoc (p := (⟨a / (K * unit), a / unit % K, a % unit, unit - a % unit⟩ : S43)) rfl rfl)
        clear hown' hgrow hq2 hq3 hne hneK hneR HQ HQR HB hown hx HR k0 k0a hW2
        go_wp2
        go_roundw
        case rel => exact ⟨_, a + (unit - a % unit), d, _, rfl, by omega, by omega, by omega, hx2, by rw [List.length_append, List.length_singleton]; exact HOW.out, HR2, HQ2, HQR2, HB2, hsz2⟩
        case measure => simp [intOf]; omega
    · obtain ⟨A, cp, rfl⟩ := own_slice hown
      have cr0 := blk_cell HQR.out 0
      have cr1 := blk_cell HQR.out 1
      have fr0 := blk_frozen HQR.out 0
      have fr1 := blk_frozen HQR.out 1
      simp only [List.getElem?_toArray, List.getElem?_cons_zero, List.getElem?_cons_succ] at cr0 cr1
      have HOW := Lib.hid hown; clear hown
      go_wp2
      have hne : some (w.heap.size + 1) ≠ (Value.slice A pre.length cp).ownBlock := fun e => by
        obtain ⟨cells, hc⟩ := own_typed HOW.out _ e.symm
        have := HQR.out.symm.trans hc; cases this
      have hh := hx.out
      rw [sgList_stop K unit (f + c) d a (by omega), List.append_nil] at hh
      refine bodyPost_ret (sr_ret rfl (blk_put (blk_put HQR.out 0 _ rfl) 1 _ rfl)) rfl ?_
      refine ⟨_, rfl, ⟨fun _ _ => trivial, inner, ?_, ?_⟩, (HB.out.setCell (by show w.heap.size ≤ w.heap.size + 1; omega) _).setCell (by show w.heap.size ≤ w.heap.size + 1; omega) _⟩
      · rw [hh]; exact own_setCell (own_setCell HOW.out hne _) hne _
      · rw [hh]; exact HR.out.imp_ (fun p c h => by subst h; exact k43_mkM _ _ _ p)
/-- What a code without fault is. -/
theorem sstripe_some (k : Nat) (K M G unit size t : Int) (h : spec_StripeCount.f k K M G unit size = some t) (ht : ¬ t < 0) : 1 ≤ K ∧ K ≤ 32 ∧ 1 ≤ unit ∧ unit ≤ 4096 ∧ 0 ≤ size ∧ size ≤ 100000 := by
  unfold spec_StripeCount.f at h
  obtain ⟨c, hc, h⟩ := Option.bind_eq_some_iff.mp h
  have hj : ∀ k (b : Bool), spec_StripeCount.j0 k unit size b K M G = some t → b = false := by
    intro k b h
    cases b with
    | false => rfl
    | true =>
      cases k with
      | zero => simp [spec_StripeCount.j0] at h
      | succ k => simp only [spec_StripeCount.j0, if_true] at h; cases h; omega
  by_cases h0 : c = 0
  · rw [if_pos h0] at h
    unfold spec_CodeFault.f at hc
    by_cases a1 : K < 1
    · rw [if_pos a1] at hc; cases hc; omega
    rw [if_neg a1] at hc
    by_cases a2 : K > 32
    · rw [if_pos a2] at hc; cases hc; omega
    clear hc
    by_cases b1 : unit < 1
    · rw [if_pos b1] at h; cases hj _ _ h
    rw [if_neg b1] at h
    by_cases b2 : unit > 4096
    · rw [if_pos b2] at h; cases hj _ _ h
    rw [if_neg b2] at h
    by_cases b3 : size < 0
    · rw [if_pos b3] at h; cases hj _ _ h
    rw [if_neg b3] at h
    have := of_decide_eq_false (hj _ _ h)
    omega
  · rw [if_neg h0] at h; cases hj _ _ h

theorem spec_RangeReads.calls (k : Nat) (a0_0 : Int) (a0_1 : Int) (a0_2 : Int) (a1 : Int) (a2 : Int) (a3 : Int) (a4 : Int) (r1 : Int) (r2 : List (S43)) (w : World) (h : spec_RangeReads.f k a0_0 a0_1 a0_2 a1 a2 a3 a4 = some (r1, r2)) :
    Calls Try.prog 8 #[.agg #[.int .i64 a0_0, .int .i64 a0_1, .int .i64 a0_2], .int .i64 a1, .int .i64 a2, .int .i64 a3, .int .i64 a4] w fun e w' => ∃ v1_ : Value, e = .returned (.agg #[.int .i64 r1, v1_]) ∧ Kd.R k43 43 w' w.heap.size (fun _ => True) v1_ r2 ∧ Below w.heap.size w w' := by
  unfold spec_RangeReads.f at h
  obtain ⟨t, ht, h⟩ := Option.bind_eq_some_iff.mp h
  by_cases hbad : t < 0 ∨ a3 < 0 ∨ a4 < 0
  · rw [if_pos hbad] at h
    cases h
    exact sr_bad k _ _ _ _ _ _ _ t w ht hbad
  · rw [if_neg hbad] at h
    cases h
    obtain ⟨g1, g2, g3, g4, g5, g6⟩ := sstripe_some k _ _ _ _ _ t ht (by omega)
    exact sr_ok k _ a0_1 a0_2 _ _ _ _ t w ht (by omega) (by omega) (by omega) g1 g2 g3 g4 g5 g6
end Go.Proofs.Ythollhmhcnpfiaa.QA
