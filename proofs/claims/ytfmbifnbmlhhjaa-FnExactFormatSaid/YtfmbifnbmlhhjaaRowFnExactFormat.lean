/- The law FnExactFormat returns true at every input; the arguments read behind the call as they read before. No condition. -/
import Derived.Test.YtfmbifnbmlhhjaaRows
import Derived.Test.YtfmbifnbmlhhjaaChecked
import Derived.Test.YtfmbifnbmlhhjaaK3
import Derived.WalkKit
import Derived.ProofKit
import Derived.OpenShut
import Derived.ShutString
import Derived.ChangeOld
import Derived.Below
import Derived.SizedLaws
namespace Go.Proofs.Ytfmbifnbmlhhjaa.fnExactFormat
open Go.ChangeShapes Go.WideShapes Go.ChangeAt Go.RowKit
set_option linter.unusedVariables false
set_option linter.unusedSimpArgs false
theorem own : ownKnob Try.prog.godebug = none := by kernel_rfl
theorem laidOut : laidOutB Try.prog = true := by kernel_rfl
set_option maxRecDepth 100000 in
theorem lifted (os : Os) (started : os.Started) (H : Type) (enc : TypeId × Value → H) :
    ReturnsInHanded {} Try.checked os 4 .any (Rows.fnExactFormatSpec.pre6 enc Try.prog Try.f4 Rows.fnExactFormatRow.domain false) (Rows.fnExactFormatSpec.post enc Try.prog Try.f4 false true false false) := by
  refine returnsInHanded_of_change_sized (C := Try.checked) own started (by kernel_rfl) Try.func4
    (ChangeSpec.witness6 (enc := enc) (C := Try.checked) false ⟨#[], #[(.int .i64 0)], []⟩ 4 (by kernel_rfl) (by kernel_rfl) (by kernel_rfl) (by kernel_rfl)) ?_
  intro W base args ds gs before hval0 hW hcnd hsz0 _
  have hval : ∀ (j : Nat) t v, Try.f4.params[j]? = some t → args[j]? = some v → Value.okWide Try.prog W .any base t v := hval0
  have hW' := hW
  obtain ⟨p, q, hA0, hV, rfl, hfz, hnd⟩ := hW
  have hA : DataW.TrodAll enc Try.prog W 0 (fun _ => true) true Try.f4.params.toList args.toList ds p := hA0
  rw [Try.params4] at hA hval
  obtain ⟨v0, vs0, d0, ds0, p0, q0, hargs0, rfl, rfl, h0, r0⟩ := trodAll_cons hA
  obtain ⟨rfl, rfl, rfl⟩ := trodAll_nil r0
  obtain rfl : args = #[v0] := by cases args; simp_all
  obtain ⟨rfl, rfl⟩ := trodVars_none hV
  obtain ⟨n0, rfl⟩ := okWide_int Try.underlying3 (hval 0 3 v0 rfl rfl)
  obtain ⟨a0, ra0, k0⟩ := (Go.Vcg.EncP.int Try.underlying3).arg1 (by simp [Value.cells]) h0 (fun x hx => by
    have h1 := List.all_eq_true.mp hsz0 x (Go.Vcg.weightsEach_mem (i := 0) (t := 3) (d := d0) rfl rfl x hx)
    simpa using h1)
  have g0 := h0
  have lt0 : ∀ x ∈ p0, x.block < W.heap.size := by obtain ⟨m, hm⟩ := g0; exact DataW.trod_lt m _ _ _ hm
  clear hA0 hval0 hsz0
  refine ((lawFormat_ok (n := a0)).law W [.int .i64 n0] rfl fun i v s h1 h2 => ?_).mono fun e W2 ⟨he, bel⟩ => ?_
  · rcases i with _ | i
    · simp only [List.getElem?_cons_zero, List.getElem?_cons_succ, Option.some.injEq] at h1 h2; subst h1; subst h2; exact ra0
    simp at h1
  subst he
  exact ⟨_, rfl, _, _, _, [], _, [], hW', trodAll_mk1 (shut_bool Try.underlying4 _), (trodAll_cons_mk (Below.trod laidOut (by kernel_rfl) (of_decide_eq_true (by kernel_rfl)) g0 bel lt0) trodAll_mk0), rfl, bel.frame _, fun h => by cases h⟩
set_option maxRecDepth 100000 in
theorem jf3 : Try.pinned.checked.prog.inPlace 4 = Rows.fnExactFormatRow.inPlace := by kernel_rfl
set_option maxRecDepth 100000 in
theorem jf4 : Try.pinned.checked.prog.unfollowed 4 = Rows.fnExactFormatRow.unfollowed := by kernel_rfl
set_option maxRecDepth 100000 in
theorem jf5 : Try.pinned.checked.prog.recurses 4 = Rows.fnExactFormatRow.recurses := by kernel_rfl
set_option maxRecDepth 100000 in
theorem jf6 : Try.pinned.checked.prog.varsNamed 4 = Rows.fnExactFormatRow.named := by kernel_rfl
set_option maxRecDepth 100000 in
theorem closed : joinedFacts Try.pinned.checked.prog 4 Try.f4 Rows.fnExactFormatSpec Rows.fnExactFormatRow = true := by
  unfold joinedFacts
  rw [jf3, jf4, jf5, jf6]
  kernel_rfl
theorem over : Rows.fnExactFormatRow.holds Try.pinned (OpenSpec.ofChange Rows.fnExactFormatSpec) :=
  OpenClaim.holds_of_wide 4 Try.f4 rfl rfl rfl rfl rfl rfl rfl ⟨rfl, rfl, rfl, rfl, rfl⟩ rfl rfl rfl rfl rfl (by kernel_rfl) Try.func4 closed
    (of_decide_eq_true (by kernel_rfl)) (by unfold Func.isWrapper; first | (rw [if_pos (by decide +kernel)]; kernel_rfl) | (rw [if_neg (by decide +kernel)]; exact ⟨rfl, rfl⟩))
    (fun os started H enc _ => lifted os started H enc)
theorem proved : Rows.FnExactFormatSaid := over
#print axioms proved
end Go.Proofs.Ytfmbifnbmlhhjaa.fnExactFormat
namespace Go.Proofs.Ytfmbifnbmlhhjaa
/-- The row, under a short name, for the claim. -/
theorem fnExactFormat_holds : Rows.FnExactFormatSaid := fnExactFormat.proved
end Go.Proofs.Ytfmbifnbmlhhjaa
