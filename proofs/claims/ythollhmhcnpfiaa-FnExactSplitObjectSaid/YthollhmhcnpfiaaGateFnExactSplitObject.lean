/- The law FnExactSplitObject: what its arguments read as, and what is left to prove over numbers and lists. Conditions: none. -/
import Derived.Test.YthollhmhcnpfiaaOpn
import Derived.Test.YthollhmhcnpfiaaQAxlawsFnExactSplitObject
namespace Go.Proofs.Ythollhmhcnpfiaa.QA
open Go.RowKit Go.Proofs.Ythollhmhcnpfiaa Go.Proofs.YthollhmhcnpfiaaW.PrintWords
set_option linter.unusedVariables false
def PQ23 (x : (Int × Int × Int)) : Prop := (Lit.int .i64 x.1).wf = true ∧ (Lit.int .i64 x.2.1).wf = true ∧ (Lit.int .i64 x.2.2).wf = true
theorem popn23 {H : Type} {enc : TypeId × Value → H} {w : World} : Opn enc Try.prog w (Kd.pair (Kd.int .i64) (Kd.pair (Kd.int .i64) (Kd.int .i64))) 23 PQ23 := ⟨by kernel_rfl, fun fuel cs x h => by
  obtain ⟨hl, hf⟩ := opn_fields Try.underlying23 h
  obtain ⟨a0, k0, q0⟩ := hf 0 _ rfl (opn_int Try.underlying2 (by kernel_rfl))
  obtain ⟨a1, k1, q1⟩ := hf 1 _ rfl (opn_int Try.underlying2 (by kernel_rfl))
  obtain ⟨a2, k2, q2⟩ := hf 2 _ rfl (opn_int Try.underlying2 (by kernel_rfl))
  have hl' : cs.length = 3 := hl.trans (by kernel_rfl)
  exact ⟨⟨a0, a1, a2⟩, ⟨cs.take 1, cs.drop 1, (List.take_append_drop 1 cs).symm, k0, ⟨(cs.drop 1).take 1, cs.drop 2, cut_two, k1, by have e := take_all (cs := cs) (a := 2) (b := 1) hl'; exact e ▸ k2⟩⟩, q0, q1, q2⟩⟩
/-- What is left of the law: numbers and lists alone. -/
def FnExactSplitObjectPure : Prop := ∀ (a0_0 : Int) (a0_1 : Int) (a0_2 : Int) (a1 : Int) (a2 : ByteArray), PQ23 (a0_0, a0_1, a0_2) → (Lit.int .i64 a1).wf = true → a2.size ≤ maxLen → ∃ k : Nat, laws_FnExactSplitObject.f a0_0 a0_1 a0_2 a1 a2 = some true
end Go.Proofs.Ythollhmhcnpfiaa.QA
