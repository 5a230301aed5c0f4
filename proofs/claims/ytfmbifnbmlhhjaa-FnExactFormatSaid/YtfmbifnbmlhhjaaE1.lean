import Derived.Test.YtfmbifnbmlhhjaaA8
import Derived.Test.YtfmbifnbmlhhjaaUc
namespace Go.Proofs.Ytfmbifnbmlhhjaa
open Go Go.Vcg Go.IntWalk
set_option maxRecDepth 100000
set_option maxHeartbeats 20000000
set_option linter.unusedSimpArgs false
set_option linter.unusedVariables false

theorem enBy {H : Type} {enc : TypeId × Value → H} {w : World} : EncP enc Try.prog w 22 (fun xs => [.pd (encI .u8 xs)]) (fun xs => xs.length < 2 ^ 50 ∧ okBytes xs) :=
  (EncP.slice Try.underlying22 (of_decide_eq_true (by kernel_rfl)) (of_decide_eq_true (by kernel_rfl)) (EncP.int Try.underlying5)).imp fun xs h => by
    refine ⟨by have := h.1; unfold reachBytes at this; omega, fun x hx => ?_⟩
    obtain ⟨i, hi, rfl⟩ := List.mem_iff_getElem.mp hx
    have := h.2 i hi
    simp only [List.getD_eq_getElem?_getD, List.getElem?_eq_getElem hi, Option.getD_some] at this
    have h1 : IntKind.u8.min ≤ xs[i] ∧ xs[i] ≤ IntKind.u8.max := by simpa [Lit.wf, Bool.and_eq_true] using this
    have e1 : IntKind.u8.min = 0 := rfl
    have e2 : IntKind.u8.max = 255 := rfl
    omega
end Go.Proofs.Ytfmbifnbmlhhjaa

