/- RequestFault: its contract in the printer's form. Contracts of the program's functions, written by standin.py, a program of the session's own, over the kit's printer; Lean checks them. Conditions: those that each theorem states. -/
import Derived.Maps.Views
import Derived.Test.YthcijamlaeeonaaDoorPkFnExactWriteRequest14
import Derived.Test.YthcijamlaeeonaaDoorPkFnExactWriteRequest1
namespace Go.Proofs.YthcijamlaeeonaaDoor.QA
open Go.RowKit Go.Maps Go.Proofs.YthcijamlaeeonaaDoorW.PrintWords Go.Proofs.YthcijamlaeeonaaDoorW.PrintLast Go.Proofs.YthcijamlaeeonaaDoorW.PrintMore
set_option linter.unusedVariables false
set_option linter.unusedSimpArgs false

def headB (n v : ByteArray) : Bool := madeB hdrB 1 60 n && !(n.toList == [108, 101, 110, 103, 116, 104]) && valB v
set_option maxRecDepth 100000 in
set_option maxHeartbeats 1000000 in
theorem isHeader_any (n v : ByteArray) (hn : n.size ≤ maxLen) (hv : v.size ≤ maxLen) (w : World) : Calls Tryd.prog 22 #[.agg #[.string n, .string v]] w fun e w' => e = .returned (.bool (headB n v)) ∧ Below w.heap.size w w' := by
 have hm := made_any 33 hdrB hdr_pred (enters_of Tryd.func33 (by kernel_rfl) rfl) 1 60 n hn
 cases h : madeB hdrB 1 60 n with
 | false =>
  have HV : Hid (headB n v = false) := Lib.hid (by unfold headB; rw [h]; rfl)
  rw [h] at hm
  clear h
  go_enter Tryd.func22, Tryd.ntmps22
  go_wp2_with fail
  refine (hm _).mono ?_
  rintro e w' ⟨rfl, hd⟩
  go_wp2
  go_ret
  exact ⟨by rw [HV.out]; rfl, ((Below.refl _ _).alloc (Nat.le_refl _) _).trans (hd.below.mono (by simp))⟩
 | true =>
  have HH := Lib.hid h
  rw [h] at hm
  clear h
  have hvl := headerValue_any v hv
  cases h2 : (n.toList == [108, 101, 110, 103, 116, 104]) with
  | true =>
   have HV : Hid (headB n v = false) := Lib.hid (by unfold headB; rw [h2, HH.out]; rfl)
   go_enter Tryd.func22, Tryd.ntmps22
   go_wp2_with fail
   refine (hm _).mono ?_
   rintro e w' ⟨rfl, hd⟩
   obtain ⟨nq, rfl⟩ := hd.out
   go_wp2
   go_ret
   exact ⟨by rw [HV.out]; rfl, ((Below.refl _ _).alloc (Nat.le_refl _) _).trans (hd.below.mono (by simp))⟩
  | false =>
   have HV : Hid (headB n v = valB v) := Lib.hid (by unfold headB; rw [h2, HH.out]; rfl)
   go_enter Tryd.func22, Tryd.ntmps22
   go_wp2_with fail
   refine (hm _).mono ?_
   rintro e w' ⟨rfl, hd⟩
   obtain ⟨nq, rfl⟩ := hd.out
   go_wp2_with fail
   refine (hvl _).mono ?_
   rintro e w2 ⟨rfl, hd2⟩
   go_wp2
   go_ret
   exact ⟨by rw [HV.out]; rfl, ((Below.refl _ _).alloc (Nat.le_refl _) _).trans ((dr_trans hd hd2).below.mono (by simp))⟩
/-! ### pairsRight -/
/-- 'm[k]' at elements of kind bool, of a map that the call has made. -/
theorem own_lookup_bool {H : Type} {P : Program} {w : World} {k e : TypeId} {b n : Nat} {D : DataW H} {t : TypeId} (h : w.ownsMap P k (plainElem P e) b n D) (K : Keyed P k) (ht : P.underlying t = some (.map k e)) (he : P.underlying e = some .bool) (hz : (zeroValue e).run P w = .ok (.bool false) w)
  {key : Value} {kl : Lit} (hkey : keyOf P k key = some kl) : ∃ c, (Instr.lookup t (.map (some b)) key false).run P w = .ok (.bool c) w ∧ D.atKey kl (.lit (.bool false)) = .lit (.bool c) := by
 obtain ⟨v, ps, hrun, hv⟩ := h.lookup K ht hz (plainElem_bool he false) hkey
 unfold plainElem at hv
 rw [he] at hv
 cases v <;> simp at hv
 obtain ⟨hc, _⟩ := hv
 exact ⟨_, hrun, hc.symm⟩
def nmOf (l : List S38) (i : Nat) : List UInt8 := (rd_T38 l (i : Int)).f0.data.toList
/-- The set of the first i names. -/
def seenTo (l : List S38) : Nat → DataW Unit
 | 0 => .map []
 | i + 1 => (seenTo l i).put (.string (nmOf l i)) (.lit (.bool true))
def hasTo (l : List S38) (i : Nat) (k : List UInt8) : Bool := (List.range i).any fun j => nmOf l j == k
theorem seenTo_map (l : List S38) : ∀ i, Maps.IsMap (seenTo l i)
 | 0 => Maps.isMap_empty
 | i + 1 => (seenTo_map l i).put _ _
theorem seenTo_at (l : List S38) (k : List UInt8) : ∀ i, (seenTo l i).atKey (.string k) (.lit (.bool false)) = .lit (.bool (hasTo l i k))
 | 0 => rfl
 | i + 1 => by
  unfold seenTo hasTo
  rw [List.range_succ, List.any_append]
  by_cases h : nmOf l i = k
  ·rw [h, Maps.atKey_put_same (seenTo_map l i) (by trivial)]
   simp [h]
  ·rw [Maps.atKey_put_other (fun e => h (by injection e with e; exact e.symm)), seenTo_at l k i]
   unfold hasTo
   simp [h]
def okTo (p : ByteArray → ByteArray → Bool) (l : List S38) (n : Nat) : Bool := (List.range n).all fun i => p (rd_T38 l (i : Int)).f0 (rd_T38 l (i : Int)).f1 && !hasTo l i (nmOf l i)
def pairsB (p : ByteArray → ByteArray → Bool) (l : List S38) : Bool := okTo p l l.length && decide ((l.length : Int) ≤ 30)
theorem okTo_succ (p : ByteArray → ByteArray → Bool) (l : List S38) (n : Nat) : okTo p l (n + 1) = (okTo p l n && (p (rd_T38 l (n : Int)).f0 (rd_T38 l (n : Int)).f1 && !hasTo l n (nmOf l n))) := by
 unfold okTo
 rw [List.range_succ, List.all_append]
 simp
theorem okTo_false {p : ByteArray → ByteArray → Bool} {l : List S38} {i n : Nat} (hi : i < n) (h : (p (rd_T38 l (i : Int)).f0 (rd_T38 l (i : Int)).f1 && !hasTo l i (nmOf l i)) = false) : okTo p l n = false := by
 unfold okTo
 rw [List.all_eq_false]
 exact ⟨i, List.mem_range.2 hi, by rw [h]; decide⟩
def PredP (g : Nat) (p : ByteArray → ByteArray → Bool) : Prop := ∀ (n v : ByteArray), n.size ≤ maxLen → v.size ≤ maxLen → ∀ (W : World), Calls Tryd.prog g #[.agg #[.string n, .string v]] W fun e w' => e = .returned (.bool (p n v)) ∧ Below W.heap.size W w'
theorem own_belowM {w w' : World} {P : Program} {k : TypeId} {R : Value → Option (DataW Unit × List MemPlace)} {b n : Nat} {D : DataW Unit} (h : w.ownsMap P k R b n D) (hb : Below w.heap.size w w') : w'.ownsMap P k R b n D := by
 have hl := h.lt
 obtain ⟨es, clock, h1, F, h2, h3⟩ := h
 exact ⟨es, clock, (hb.block b hl).trans h1, F, h2, h3⟩
theorem zero4 (w : World) : (zeroValue 4).run Tryd.prog w = .ok (.bool false) w := by kernel_rfl
set_option maxRecDepth 100000 in
set_option maxHeartbeats 2000000 in
theorem pairsRight_any (g : Nat) (p : ByteArray → ByteArray → Bool) (hp : PredP g p) (eg : ∀ args w, (callFunc g args).run Tryd.prog w = .ok (.enter g args) w) (A : Option Addr) (c : Nat) (l : List S38) (w : World) (hr : Kd.C k38 w A l.length l) (hc : l.length ≤ c)
  (hl : l.length ≤ 4611686018427387904) (hall : ∀ i : Nat, i < l.length → (rd_T38 l (i : Int)).f0.size ≤ maxLen ∧ (rd_T38 l (i : Int)).f1.size ≤ maxLen) :
  Calls Tryd.prog 20 #[.slice A l.length c, .func (.func g) #[] #[]] w fun e w' => e = .returned (.bool (pairsB p l)) ∧ Below w.heap.size w w' := by
 have HR := Lib.hid hr
 have HALL := Lib.hid hall
 clear hr hall
 have hmm := @run_makeMap Tryd.prog
 go_enter Tryd.func20, Tryd.ntmps20
 go_wp2
 go_loopw [11] (fun v11 wr => ∃ i : Nat, i ≤ l.length ∧ v11 = .int .i64 (i : Int) ∧ Hid (okTo p l i = true) ∧ Hid (wr.ownsMap Tryd.prog 9 (plainElem Tryd.prog 4) w.heap.size i (seenTo l i)) ∧ Hid (Below w.heap.size w wr)) (fun v11 _ => l.length - (intOf v11).toNat)
 case atStart => exact ⟨0, Nat.zero_le _, rfl, Lib.hid rfl, Lib.hid (World.ownsMap_made _ _ _ _), Lib.hid ((Below.refl _ _).alloc (Nat.le_refl _) _)⟩
 case round =>
  clear hmm
  obtain ⟨i, hi', rfl, HA, HM, HB⟩ := hrel
  by_cases hlt : i < l.length
  ·obtain ⟨ad, hA, hc0, hc1⟩ := at_T38 HR.out (i : Int) (by omega) (by omega)
   subst hA
   have hx0 := (HB.out.cell (World.block_lt_of_cell? w _ hc0)).trans hc0
   have hx1 := (HB.out.cell (World.block_lt_of_cell? w _ hc1)).trans hc1
   clear hc0 hc1
   rw [Int.toNat_natCast] at hx0 hx1
   obtain ⟨hs0, hs1⟩ := HALL.out i hlt
   obtain ⟨x, hx⟩ : ∃ x, x = rd_T38 l (i : Int) := ⟨_, rfl⟩
   rw [← hx] at hx0 hx1 hs0 hs1
   have HX := Lib.hid hx
   clear hx
   have hcall := hp x.f0 x.f1 hs0 hs1
   have HNM : Hid (nmOf l i = x.f0.data.toList) := Lib.hid (by unfold nmOf; rw [HX.out])
   have hone : ∀ w1 : World, Below (wr.alloc (.cells #[.string x.f0, .string x.f1] 38)).heap.size (wr.alloc (.cells #[.string x.f0, .string x.f1] 38)) w1 →
     w1.cell? ⟨wr.heap.size, 0, none⟩ = some (.string x.f0) ∧ w1.ownsMap Tryd.prog 9 (plainElem Tryd.prog 4) w.heap.size i (seenTo l i) ∧ Below w.heap.size w w1 := fun w1 hb => by
    have h0 : (wr.alloc (.cells #[.string x.f0, .string x.f1] 38)).cell? ⟨wr.heap.size, 0, none⟩ = some (.string x.f0) := by go_simp
    exact ⟨(hb.cell (World.block_lt_of_cell? _ _ h0)).trans h0, own_belowM (HM.out.alloc _) hb, (HB.out.alloc HB.out.size _).trans (hb.mono (by have := HB.out.size; simp; omega))⟩
   have HONE := Lib.hid hone
   clear hone
   cases hq : p x.f0 x.f1 with
   | false =>
    rw [hq] at hcall
    have HS : Hid (okTo p l l.length = false) := Lib.hid (okTo_false hlt (by rw [← HX.out, hq]; rfl))
    clear hq
    go_wp2_with fail
    refine (hcall _).mono ?_
    rintro e w1 ⟨rfl, hb⟩
    obtain ⟨h1, h2, h3⟩ := HONE.out w1 hb
    have HB1 := Lib.hid h3
    clear h1 h2 h3 hb
    go_wp2
    go_ret
    exact ⟨by unfold pairsB; rw [HS.out]; rfl, HB1.out⟩
   | true =>
    rw [hq] at hcall
    have HQ := Lib.hid hq
    clear hq
    go_wp2_with fail
    refine (hcall _).mono ?_
    rintro e w1 ⟨rfl, hb⟩
    obtain ⟨h1, h2, h3⟩ := HONE.out w1 hb
    have HB1 := Lib.hid h3
    clear h3 hb
    obtain ⟨cc, hrun, hat⟩ := own_lookup_bool h2 (string_keyed Tryd.underlying9) Tryd.underlying52 Tryd.underlying4 (zero4 _) (WideMaps.keyOf_string_mk Tryd.underlying9 hs0)
    have HM1 := Lib.hid h2
    have HAT : Hid (hasTo l i (nmOf l i) = cc) := Lib.hid (by rw [HNM.out]; rw [seenTo_at] at hat; injection hat with hat; injection hat)
    clear h2 hat
    cases cc with
    | true =>
     have HS : Hid (okTo p l l.length = false) := Lib.hid (okTo_false hlt (by rw [HAT.out]; simp))
     go_wp2
     go_ret
     exact ⟨by unfold pairsB; rw [HS.out]; rfl, HB1.out⟩
    | false =>
     have HS : Hid (okTo p l (i + 1) = true) := Lib.hid (by rw [okTo_succ, HA.out, HAT.out, ← HX.out, HQ.out]; rfl)
     have hkey := WideMaps.keyOf_string_mk (P := Tryd.prog) Tryd.underlying9 hs0
     have hown := HM1.out
     go_wp2_with (at_mapUpdate; refine wpList_mapUpdate_own _ rfl _ _ _ 52 rfl 9 4 (string_keyed Tryd.underlying9) Tryd.underlying52 _ w.heap.size i _ rfl hown (by unfold maxLen; omega) _ _ _ rfl rfl hkey _ [] (plainElem_bool Tryd.underlying4 true) ?_; intro w2 hown2 hgrow2)
     have HM2 := Lib.hid hown2
     have HB2 : Hid (Below w.heap.size w w2) := Lib.hid (HB1.out.grown hgrow2 HB1.out.size (fun k e => by cases e; exact Nat.le_refl _))
     clear hown hown2 hgrow2 hrun hkey h1
     go_wp2
     go_roundw
     case rel => exact ⟨i + 1, by omega, by go_num, HS, Lib.hid (by show w2.ownsMap _ _ _ _ _ ((seenTo l i).put (.string (nmOf l i)) _); rw [HNM.out]; exact HM2.out), HB2⟩
     case measure => simp [intOf]; omega
  ·obtain rfl : i = l.length := by omega
   by_cases h30 : (l.length : Int) ≤ 30
   all_goals
    go_wp2
    go_ret
    exact ⟨by unfold pairsB; rw [HA.out]; simp [h30], HB.out⟩
/-! ### RequestFault -/
def pathB (s : ByteArray) : Bool := (impl_isPath.f s).getD false
def queryB (n v : ByteArray) : Bool := (impl_isQuery.f n v).getD false
theorem query_val (n v : ByteArray) : impl_isQuery.f n v = some (queryB n v) := by
 unfold queryB impl_isQuery.f
 repeat' split
 all_goals rfl
theorem path_val (s : ByteArray) : impl_isPath.f s = some (pathB s) := by
 have h : ∃ b, impl_isPath.f s = some b := by
  unfold impl_isPath.f strings_HasPrefix.f stringslite_HasPrefix.f
  have e : (((⟨#[47]⟩ : ByteArray).size : Nat) : Int) = 1 := rfl
  rw [e]
  by_cases h1 : (s.size : Int) ≤ 1000
  ·rw [if_pos h1]
   by_cases h2 : (s.size : Int) ≥ 1
   ·rw [if_pos h2, if_pos (by omega), if_pos (by omega)]; exact ⟨_, rfl⟩
   ·rw [if_neg h2]; exact ⟨_, rfl⟩
  ·rw [if_neg h1]; exact ⟨_, rfl⟩
 obtain ⟨b, hb⟩ := h
 unfold pathB
 rw [hb]; rfl
theorem query_pred : PredP 21 queryB := fun n v _ _ W => impl_isQuery.calls n v _ W (query_val n v)
theorem head_pred : PredP 22 headB := fun n v hn hv W => isHeader_any n v hn hv W
/-- Whether a request is right. -/
def reqB (m path : ByteArray) (q h : List S38) (body : ByteArray) : Bool := madeB capB 1 10 m && (pathB path && (pairsB queryB q && (pairsB headB h && decide ((body.size : Int) ≤ 100000))))
def faultI (m path : ByteArray) (q h : List S38) (body : ByteArray) : Int := if reqB m path q h body = true then 0 else 1
def szS (l : List S38) : Prop := l.length ≤ 4611686018427387904 ∧ ∀ i : Nat, i < l.length → (rd_T38 l (i : Int)).f0.size ≤ maxLen ∧ (rd_T38 l (i : Int)).f1.size ≤ maxLen
theorem box_keep {w w1 : World} {cs : Array Value} {t : TypeId} (hb : Below (w.alloc (.cells cs t)).heap.size (w.alloc (.cells cs t)) w1) (i : Nat) (v : Value) (hi : cs[i]? = some v) : w1.cell? ⟨w.heap.size, i, none⟩ = some v := by
 have h0 : (w.alloc (.cells cs t)).cell? ⟨w.heap.size, i, none⟩ = some v := (blk_cell (heap_alloc_new w _) i).trans hi
 exact (hb.cell (World.block_lt_of_cell? _ _ h0)).trans h0
set_option maxRecDepth 100000 in
set_option maxHeartbeats 2000000 in
theorem fault_any (m path : ByteArray) (A2 : Option Addr) (c2 : Nat) (q : List S38) (A3 : Option Addr) (c3 : Nat) (h : List S38) (body : ByteArray) (w : World) (hm : m.size ≤ maxLen) (hr2 : Kd.C k38 w A2 q.length q) (hc2 : q.length ≤ c2) (hr3 : Kd.C k38 w A3 h.length h) (hc3 : h.length ≤ c3) (hq : szS q) (hh : szS h) :
  Calls Tryd.prog 8 #[.agg #[.string m, .string path, .slice A2 q.length c2, .slice A3 h.length c3, .string body]] w fun e w' => e = .returned (.int .i64 (faultI m path q h body)) ∧ Below w.heap.size w w' := by
 have C1 := isMethod_any m hm
 have C2 := fun W => impl_isPath.calls path _ W (path_val path)
 have C3 := Lib.hid (fun (W : World) (hr : Kd.C k38 W A2 q.length q) => pairsRight_any 21 queryB query_pred (enters_of Tryd.func21 (by kernel_rfl) rfl) A2 c2 q W hr hc2 hq.1 hq.2)
 have C4 := Lib.hid (fun (W : World) (hr : Kd.C k38 W A3 h.length h) => pairsRight_any 22 headB head_pred (enters_of Tryd.func22 (by kernel_rfl) rfl) A3 c3 h W hr hc3 hh.1 hh.2)
 have HR2 := Lib.hid hr2
 have HR3 := Lib.hid hr3
 clear hr2 hr3 hq hh hc2 hc3 hm
 have HBX : Hid (∀ w1, Below (w.alloc (.cells #[.string m, .string path, .slice A2 q.length c2, .slice A3 h.length c3, .string body] 29)).heap.size (w.alloc (.cells #[.string m, .string path, .slice A2 q.length c2, .slice A3 h.length c3, .string body] 29)) w1 → Below w.heap.size w w1) :=
  Lib.hid fun w1 hb => ((Below.refl _ _).alloc (Nat.le_refl _) _).trans (hb.mono (by simp))
 cases h1 : madeB capB 1 10 m with
 | false =>
  have HV : Hid (faultI m path q h body = 1) := Lib.hid (by unfold faultI reqB; rw [h1]; rfl)
  rw [h1] at C1
  clear h1
  go_enter Tryd.func8, Tryd.ntmps8
  go_wp2_with fail
  refine (C1 _).mono ?_
  rintro e w' ⟨rfl, hd⟩
  go_wp2
  go_ret
  exact ⟨by rw [HV.out]; rfl, HBX.out _ hd.below⟩
 | true => 
  rw [h1] at C1
  have H1 := Lib.hid h1
  clear h1
  cases h2 : pathB path with
  | false =>
   have HV : Hid (faultI m path q h body = 1) := Lib.hid (by unfold faultI reqB; rw [H1.out, h2]; rfl)
   rw [h2] at C2
   clear h2
   go_enter Tryd.func8, Tryd.ntmps8
   go_wp2_with fail
   refine (C1 _).mono ?_
   rintro e w' ⟨rfl, hd⟩
   obtain ⟨n1, rfl⟩ := hd.out
   go_wp2_with fail
   refine (C2 _).mono ?_
   rintro e w' ⟨rfl, hd2⟩
   go_wp2
   go_ret
   exact ⟨by rw [HV.out]; rfl, HBX.out _ (dr_trans hd hd2).below⟩
  | true => 
   rw [h2] at C2
   have H2 := Lib.hid h2
   clear h2
   cases h3 : pairsB queryB q with
   | false =>
    have HV : Hid (faultI m path q h body = 1) := Lib.hid (by unfold faultI reqB; rw [H1.out, H2.out, h3]; rfl)
    have C3' := C3.out
    rw [h3] at C3'
    have C3'' := Lib.hid C3'
    clear h3 C3'
    go_enter Tryd.func8, Tryd.ntmps8
    go_wp2_with fail
    refine (C1 _).mono ?_
    rintro e w' ⟨rfl, hd⟩
    obtain ⟨n1, rfl⟩ := hd.out
    go_wp2_with fail
    refine (C2 _).mono ?_
    rintro e w' ⟨rfl, hd2⟩
    obtain ⟨n2, rfl⟩ := hd2.out
    go_wp2_with fail
    have h12 := dr_trans hd hd2
    rw [World.drewN_drewN] at h12
    have hb2 := Lib.hid h12.below
    clear h12
    clear hd hd2
    refine (C3''.out _ (Kd.C_below HR2.out (HBX.out _ hb2.out))).mono ?_
    rintro e w' ⟨rfl, hb3⟩
    have hb4 := Lib.hid hb3
    clear hb3
    go_wp2
    go_ret
    exact ⟨by rw [HV.out]; rfl, HBX.out _ (hb2.out.trans (hb4.out.mono (by simp)))⟩
   | true =>
    have C3' := C3.out
    rw [h3] at C3'
    have C3'' := Lib.hid C3'
    have H3 := Lib.hid h3
    clear h3 C3'
    have C4' := C4.out
    obtain ⟨b4, hb4⟩ : ∃ b, b = pairsB headB h := ⟨_, rfl⟩
    rw [← hb4] at C4'
    have C4'' := Lib.hid C4'
    have HB4 := Lib.hid hb4
    clear hb4 C4'
    cases b4 with
    | false =>
     have HV : Hid (faultI m path q h body = 1) := Lib.hid (by unfold faultI reqB; rw [H1.out, H2.out, H3.out, ← HB4.out]; rfl)
     go_enter Tryd.func8, Tryd.ntmps8
     go_wp2_with fail
     refine (C1 _).mono ?_
     rintro e w' ⟨rfl, hd⟩
     obtain ⟨n1, rfl⟩ := hd.out
     go_wp2_with fail
     refine (C2 _).mono ?_
     rintro e w' ⟨rfl, hd2⟩
     obtain ⟨n2, rfl⟩ := hd2.out
     go_wp2_with fail
     have h12 := dr_trans hd hd2
     rw [World.drewN_drewN] at h12
     have hb2 := Lib.hid h12.below
     clear h12
     clear hd hd2
     refine (C3''.out _ (Kd.C_below HR2.out (HBX.out _ hb2.out))).mono ?_
     rintro e w3 ⟨rfl, hb3⟩
     have hb4 := Lib.hid (hb2.out.trans (hb3.mono (by simp)))
     clear hb3 hb2
     have ce3 := box_keep hb4.out 3 _ rfl
     go_wp2_with fail
     refine (C4''.out _ (Kd.C_below HR3.out (HBX.out _ hb4.out))).mono ?_
     rintro e w4 ⟨rfl, hb5⟩
     have hb6 := Lib.hid (hb4.out.trans (hb5.mono hb4.out.size))
     clear hb5 ce3
     go_wp2
     go_ret
     exact ⟨by rw [HV.out]; rfl, HBX.out _ hb6.out⟩
    | true =>
     by_cases h5 : (body.size : Int) ≤ 100000
     all_goals
      have HV : Hid (faultI m path q h body = if (body.size : Int) ≤ 100000 then 0 else 1) := Lib.hid (by unfold faultI reqB; rw [H1.out, H2.out, H3.out, ← HB4.out]; simp)
      go_enter Tryd.func8, Tryd.ntmps8
      go_wp2_with fail
      refine (C1 _).mono ?_
      rintro e w' ⟨rfl, hd⟩
      obtain ⟨n1, rfl⟩ := hd.out
      go_wp2_with fail
      refine (C2 _).mono ?_
      rintro e w' ⟨rfl, hd2⟩
      obtain ⟨n2, rfl⟩ := hd2.out
      go_wp2_with fail
      have h12 := dr_trans hd hd2
      rw [World.drewN_drewN] at h12
      have hb2 := Lib.hid h12.below
      clear h12
      clear hd hd2
      refine (C3''.out _ (Kd.C_below HR2.out (HBX.out _ hb2.out))).mono ?_
      rintro e w3 ⟨rfl, hb3⟩
      have hb4 := Lib.hid (hb2.out.trans (hb3.mono (by simp)))
      clear hb3 hb2
      have ce3 := box_keep hb4.out 3 _ rfl
      go_wp2_with fail
      refine (C4''.out _ (Kd.C_below HR3.out (HBX.out _ hb4.out))).mono ?_
      rintro e w4 ⟨rfl, hb5⟩
      have hb6 := Lib.hid (hb4.out.trans (hb5.mono hb4.out.size))
      clear hb5 ce3
      have ce4 := box_keep hb6.out 4 _ rfl
      go_wp2
      go_ret
      exact ⟨by rw [HV.out]; first | (rw [if_pos h5]; rfl) | (rw [if_neg (by omega)]; rfl), HBX.out _ hb6.out⟩

/-! ### the contract -/
def szB (l : List S38) : Bool := decide (l.length ≤ 1000000000) && l.all fun x => decide (x.f0.size ≤ 1000000000) && decide (x.f1.size ≤ 1000000000)
theorem szB_S {l : List S38} (h : szB l = true) : szS l := by
 unfold szB at h
 rw [Bool.and_eq_true, List.all_eq_true] at h
 obtain ⟨h1, h2⟩ := h
 have h1 := of_decide_eq_true h1
 refine ⟨by omega, fun i hi => ?_⟩
 have hm : rd_T38 l (i : Int) ∈ l := by
  unfold rd_T38
  rw [Int.toNat_natCast, List.getD_eq_getElem?_getD, List.getElem?_eq_getElem hi]
  exact List.getElem_mem hi
 have := h2 _ hm
 rw [Bool.and_eq_true] at this
 have a := of_decide_eq_true this.1
 have b := of_decide_eq_true this.2
 unfold maxLen
 exact ⟨Nat.le_trans a (by decide), Nat.le_trans b (by decide)⟩
def impl_RequestFault.f (k : Nat) (a0_0 : ByteArray) (a0_1 : ByteArray) (l0_2 : List (S38)) (l0_3 : List (S38)) (a0_4 : ByteArray) : Option (Int) :=
 if a0_0.size ≤ 1000000000 ∧ szB l0_2 = true ∧ szB l0_3 = true then some (faultI a0_0 a0_1 l0_2 l0_3 a0_4) else none
theorem impl_RequestFault.mono : ∀ a0 a1 a2 a3 a4 k, LeO (impl_RequestFault.f k a0 a1 a2 a3 a4) (impl_RequestFault.f (k + 1) a0 a1 a2 a3 a4) := fun _ _ _ _ _ _ => LeO.refl _
theorem impl_RequestFault.calls (k : Nat) (a0_0 : ByteArray) (a0_1 : ByteArray) (A0_2 : Option Addr) (c0_2 : Nat) (l0_2 : List (S38)) (A0_3 : Option Addr) (c0_3 : Nat) (l0_3 : List (S38)) (a0_4 : ByteArray) (r : Int) (w : World) (hr0_2 : Kd.C k38 w A0_2 l0_2.length l0_2) (hc0_2 : l0_2.length ≤ c0_2) (hr0_3 : Kd.C k38 w A0_3 l0_3.length l0_3) (hc0_3 : l0_3.length ≤ c0_3) (h : impl_RequestFault.f k a0_0 a0_1 l0_2 l0_3 a0_4 = some r) :
  Calls Tryd.prog 8 #[.agg #[.string a0_0, .string a0_1, .slice A0_2 l0_2.length c0_2, .slice A0_3 l0_3.length c0_3, .string a0_4]] w fun e w' => e = .returned (.int .i64 r) ∧ Below w.heap.size w w' := by
 unfold impl_RequestFault.f at h
 split at h
 ·rename_i hc
  obtain rfl := Option.some.inj h
  exact fault_any _ _ _ _ _ _ _ _ _ w (by unfold maxLen; exact Nat.le_trans hc.1 (by decide)) hr0_2 hc0_2 hr0_3 hc0_3 (szB_S hc.2.1) (szB_S hc.2.2)
 ·cases h
end Go.Proofs.YthcijamlaeeonaaDoor.QA
namespace Go.Proofs.YthcijamlaeeonaaDoor.QA
open Go.RowKit Go.Proofs.YthcijamlaeeonaaDoorW.PrintWords Go.Proofs.YthcijamlaeeonaaDoorW.PrintLast Go.Proofs.YthcijamlaeeonaaDoorW.PrintMore
attribute [local go_sem] max2_int min2_int max_two min_two max_three min_three max_four min_four
set_option linter.unusedVariables false
set_option linter.unusedSimpArgs false

-- EXT impl_RequestFault 8

end Go.Proofs.YthcijamlaeeonaaDoor.QA
