import Derived.Test.YtekdhfppbahidaaA6
import Derived.Test.YtekdhfppbahidaaU25
namespace Go.Proofs.Ytekdhfppbahidaa
open Go Go.Vcg Go.IntWalk
set_option maxRecDepth 100000
set_option maxHeartbeats 4000000
set_option linter.unusedSimpArgs false
set_option linter.unusedVariables false

section
variable {H : Type} {enc : TypeId × Value → H} {w : World}
theorem enB : EncP enc Try.prog w 25 fB lnB :=
  (EncP.slice Try.underlying25 (of_decide_eq_true (by kernel_rfl)) (of_decide_eq_true (by kernel_rfl)) (EncP.int Try.underlying5)).imp fun xs h => by have := h.1; unfold reachBytes at this; unfold lnB; omega
theorem enSS : EncP enc Try.prog w 30 (fun xs => [.pd (encL fB xs)]) lnByteSS :=
  (EncP.slice Try.underlying30 (of_decide_eq_true (by kernel_rfl)) (of_decide_eq_true (by kernel_rfl)) enB).imp fun xs h => by have := h.1; unfold reachBytes at this; exact ⟨by omega, h.2⟩
theorem enPend : EncP enc Try.prog w 68 fPend lnPend :=
  EncFs.struct Try.underlying68 (by kernel_rfl) (EncFs.cons (EncP.int Try.underlying3) (EncFs.cons enB EncFs.nil)) (fun x => ⟨x.1, x.2.1⟩) (fun _ => rfl) (fun _ h => h.2.1)
theorem enPendS : EncP enc Try.prog w 42 (fun xs => [.pd (encL fPend xs)]) lnPendS :=
  (EncP.slice Try.underlying42 (of_decide_eq_true (by kernel_rfl)) (of_decide_eq_true (by kernel_rfl)) enPend).imp fun xs h => by have := h.1; unfold reachBytes at this; exact ⟨by omega, h.2⟩
theorem enDisk : EncP enc Try.prog w 44 fDisk lnDisk :=
  EncFs.struct Try.underlying44 (by kernel_rfl) (EncFs.cons enSS (EncFs.cons enPendS EncFs.nil)) (fun x => ⟨x.1, x.2.1⟩) (fun _ => rfl) (fun _ h => ⟨h.1, h.2.1⟩)
end
end Go.Proofs.Ytekdhfppbahidaa

