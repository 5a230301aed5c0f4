import Derived.Test.YtnancifnodbkdaaD3
import Derived.Test.YtnancifnodbkdaaO1
namespace Go.Proofs.Ytnancifnodbkdaa
open Go Go.Vcg Go.IntWalk
set_option maxRecDepth 100000
set_option maxHeartbeats 20000000
set_option linter.unusedSimpArgs false
set_option linter.unusedVariables false
section
variable {H : Type} {enc : TypeId × Value → H} {w : World}
theorem enOp : EncP enc Try.prog w 59 fOp lnOp :=
  EncFs.struct Try.underlying59 (by kernel_rfl) (EncFs.cons (EncP.int Try.underlying3) (EncFs.cons (EncP.int Try.underlying3) (EncFs.cons enB EncFs.nil))) (fun x => ⟨x.1, x.2.1, x.2.2.1⟩) (fun _ => rfl) (fun _ h => h.2.2.1)
theorem enOpS : EncP enc Try.prog w 68 (fun xs => [.pd (encL fOp xs)]) lnOpS :=
  (EncP.slice Try.underlying68 (of_decide_eq_true (by kernel_rfl)) (of_decide_eq_true (by kernel_rfl)) enOp).imp fun xs h => by have := h.1; unfold reachBytes at this; exact ⟨by omega, h.2⟩
end
end Go.Proofs.Ytnancifnodbkdaa

