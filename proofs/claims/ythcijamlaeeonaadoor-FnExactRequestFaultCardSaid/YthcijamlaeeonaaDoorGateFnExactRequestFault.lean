/- The law FnExactRequestFault: what its arguments read as, and what is left to prove over numbers and lists. Conditions: none. -/
import Derived.Test.YthcijamlaeeonaaDoorOpn
import Derived.Test.YthcijamlaeeonaaDoorQAxlawsFnExactRequestFault
namespace Go.Proofs.YthcijamlaeeonaaDoor.QA
open Go.RowKit Go.Proofs.YthcijamlaeeonaaDoor Go.Proofs.YthcijamlaeeonaaDoorW.PrintWords
set_option linter.unusedVariables false
def Q47 (x : S47) : Prop := x.f0.size ≤ maxLen ∧ x.f1.size ≤ maxLen
theorem opn47 {H : Type} {enc : TypeId × Value → H} {w : World} : Opn enc Tryd.prog w k47 47 Q47 := ⟨by kernel_rfl, fun fuel cs x h => by
  obtain ⟨hl, hf⟩ := opn_fields Tryd.underlying47 h
  obtain ⟨a0, k0, q0⟩ := hf 0 _ rfl (opn_string Tryd.underlying9 (by kernel_rfl))
  obtain ⟨a1, k1, q1⟩ := hf 1 _ rfl (opn_string Tryd.underlying9 (by kernel_rfl))
  have hl' : cs.length = 2 := hl.trans (by kernel_rfl)
  exact ⟨⟨a0, a1⟩, ⟨cs.take 1, cs.drop 1, (List.take_append_drop 1 cs).symm, k0, by have e := take_all (cs := cs) (a := 1) (b := 1) hl'; exact e ▸ k1⟩, q0, q1⟩⟩
def PQ24 (x : (ByteArray × ByteArray × (List (S47)) × (List (S47)) × ByteArray)) : Prop := x.1.size ≤ maxLen ∧ x.2.1.size ≤ maxLen ∧ (x.2.2.1.length ≤ maxLen ∧ ∀ y ∈ x.2.2.1, Q47 y) ∧ (x.2.2.2.1.length ≤ maxLen ∧ ∀ y ∈ x.2.2.2.1, Q47 y) ∧ x.2.2.2.2.size ≤ maxLen
theorem popn24 {H : Type} {enc : TypeId × Value → H} {w : World} : Opn enc Tryd.prog w (Kd.pair Kd.string (Kd.pair Kd.string (Kd.pair (Kd.slice 47 k47) (Kd.pair (Kd.slice 47 k47) Kd.string)))) 24 PQ24 := ⟨by kernel_rfl, fun fuel cs x h => by
  obtain ⟨hl, hf⟩ := opn_fields Tryd.underlying24 h
  obtain ⟨a0, k0, q0⟩ := hf 0 _ rfl (opn_string Tryd.underlying9 (by kernel_rfl))
  obtain ⟨a1, k1, q1⟩ := hf 1 _ rfl (opn_string Tryd.underlying9 (by kernel_rfl))
  obtain ⟨a2, k2, q2⟩ := hf 2 _ rfl (opn_slice Tryd.underlying22 (by kernel_rfl) opn47)
  obtain ⟨a3, k3, q3⟩ := hf 3 _ rfl (opn_slice Tryd.underlying22 (by kernel_rfl) opn47)
  obtain ⟨a4, k4, q4⟩ := hf 4 _ rfl (opn_string Tryd.underlying9 (by kernel_rfl))
  have hl' : cs.length = 5 := hl.trans (by kernel_rfl)
  exact ⟨⟨a0, a1, a2, a3, a4⟩, ⟨cs.take 1, cs.drop 1, (List.take_append_drop 1 cs).symm, k0, ⟨(cs.drop 1).take 1, cs.drop 2, cut_two, k1, ⟨(cs.drop 2).take 1, cs.drop 3, cut_two, k2, ⟨(cs.drop 3).take 1, cs.drop 4, cut_two, k3, by have e := take_all (cs := cs) (a := 4) (b := 1) hl'; exact e ▸ k4⟩⟩⟩⟩, q0, q1, q2, q3, q4⟩⟩
/-- What is left of the law: numbers and lists alone. -/
def FnExactRequestFaultPure : Prop := ∀ (a0_0 : ByteArray) (a0_1 : ByteArray) (a0_2 : List (S47)) (a0_3 : List (S47)) (a0_4 : ByteArray), PQ24 (a0_0, a0_1, a0_2, a0_3, a0_4) → ∃ k, laws_FnExactRequestFault.f k a0_0 a0_1 a0_2 a0_3 a0_4 = some true
end Go.Proofs.YthcijamlaeeonaaDoor.QA
