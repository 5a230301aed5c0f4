import Derived.Test.YtfmbifnbmlhhjaaS1
import Derived.Test.YtfmbifnbmlhhjaaUc
namespace Go.Proofs.Ytfmbifnbmlhhjaa
open Go Go.Vcg Go.IntWalk
set_option maxRecDepth 100000
set_option maxHeartbeats 20000000
set_option linter.unusedSimpArgs false
set_option linter.unusedVariables false
section
variable {H : Type} {enc : TypeId × Value → H} {w : World}
theorem enSuper : EncP enc Try.prog w 68 fSuper (fun _ => True) :=
  EncFs.struct Try.underlying68 (by kernel_rfl) (EncFs.cons (EncP.int Try.underlying3) (EncFs.cons (EncP.int Try.underlying3) (EncFs.cons (EncP.int Try.underlying3) (EncFs.cons (EncP.int Try.underlying3) EncFs.nil)))) (fun x => ⟨x.1, x.2.1, x.2.2.1, x.2.2.2.1⟩) (fun _ => rfl) (fun _ _ => trivial)
end
end Go.Proofs.Ytfmbifnbmlhhjaa

