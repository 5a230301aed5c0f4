import Derived.Test.YtfmbifnbmlhhjaaD2
import Derived.Test.YtfmbifnbmlhhjaaE1
import Derived.Test.YtfmbifnbmlhhjaaUc
namespace Go.Proofs.Ytfmbifnbmlhhjaa
open Go Go.Vcg Go.IntWalk
set_option maxRecDepth 100000
set_option maxHeartbeats 20000000
set_option linter.unusedSimpArgs false
set_option linter.unusedVariables false
theorem totDisk_ct (a : DiskA) : ctDisk a ≤ totDisk a := by
  unfold ctDisk totDisk
  have h1 : sumN ctPend a.Pending ≤ a.Pending.length + sumN totPend a.Pending := by
    generalize a.Pending = l
    induction l with
    | nil => simp [sumN]
    | cons x xs ih =>
      have e : ctPend x = 1 + totPend x := rfl
      simp only [sumN, List.length_cons]
      omega
  omega
section
variable {H : Type} {enc : TypeId × Value → H} {w : World}
theorem enB : EncP enc Try.prog w 22 fB lnB :=
  (EncP.slice Try.underlying22 (of_decide_eq_true (by kernel_rfl)) (of_decide_eq_true (by kernel_rfl)) (EncP.int Try.underlying5)).imp fun xs h => by have := h.1; unfold reachBytes at this; unfold lnB; omega
theorem enSS : EncP enc Try.prog w 32 (fun xs => [.pd (encL fB xs)]) lnByteSS :=
  (EncP.slice Try.underlying32 (of_decide_eq_true (by kernel_rfl)) (of_decide_eq_true (by kernel_rfl)) enB).imp fun xs h => by have := h.1; unfold reachBytes at this; exact ⟨by omega, h.2⟩
theorem enPend : EncP enc Try.prog w 208 fPend lnPend :=
  EncFs.struct Try.underlying208 (by kernel_rfl) (EncFs.cons (EncP.int Try.underlying3) (EncFs.cons enB EncFs.nil)) (fun x => ⟨x.1, x.2.1⟩) (fun _ => rfl) (fun _ h => h.2.1)
theorem enPendS : EncP enc Try.prog w 41 (fun xs => [.pd (encL fPend xs)]) lnPendS :=
  (EncP.slice Try.underlying41 (of_decide_eq_true (by kernel_rfl)) (of_decide_eq_true (by kernel_rfl)) enPend).imp fun xs h => by have := h.1; unfold reachBytes at this; exact ⟨by omega, h.2⟩
theorem enDisk : EncP enc Try.prog w 43 fDisk lnDisk :=
  EncFs.struct Try.underlying43 (by kernel_rfl) (EncFs.cons enSS (EncFs.cons enPendS EncFs.nil)) (fun x => ⟨x.1, x.2.1⟩) (fun _ => rfl) (fun _ h => ⟨h.1, h.2.1⟩)
end
end Go.Proofs.Ytfmbifnbmlhhjaa

