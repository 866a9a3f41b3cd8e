/- FnExactSplitObject: what is left of the law, over numbers and lists. Conditions: none. -/
import Derived.Test.YthollhmhcnpfiaaGateFnExactSplitObject
namespace Go.Proofs.Ythollhmhcnpfiaa.QA
open Go.RowKit Go.Proofs.YthollhmhcnpfiaaW.PrintWords Go.Proofs.YthollhmhcnpfiaaW.PrintLast Go.Proofs.YthollhmhcnpfiaaW.PrintMore

theorem FnExactSplitObject : FnExactSplitObjectPure := fun _ _ _ _ _ _ _ _ => ⟨0, rfl⟩

end Go.Proofs.Ythollhmhcnpfiaa.QA
