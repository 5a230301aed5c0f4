/- The law FnExactReadPage returns true at every input; the arguments read behind the call as they read before. No condition. -/
import Derived.Test.YtfmbifnbmlhhjaaRows
import Derived.Test.YtfmbifnbmlhhjaaChecked
import Derived.Test.YtfmbifnbmlhhjaaG4
import Derived.WalkKit
import Derived.ProofKit
import Derived.OpenShut
import Derived.ShutString
import Derived.ChangeOld
import Derived.Below
import Derived.SizedLaws
namespace Go.Proofs.Ytfmbifnbmlhhjaa.fnExactReadPage
open Go.ChangeShapes Go.WideShapes Go.ChangeAt Go.RowKit
set_option linter.unusedVariables false
set_option linter.unusedSimpArgs false
theorem own : ownKnob Try.prog.godebug = none := by kernel_rfl
theorem laidOut : laidOutB Try.prog = true := by kernel_rfl
set_option maxRecDepth 100000 in
theorem lifted (os : Os) (started : os.Started) (H : Type) (enc : TypeId × Value → H) :
    ReturnsInHanded {} Try.checked os 5 .any (Rows.fnExactReadPageSpec.pre6 enc Try.prog Try.f5 Rows.fnExactReadPageRow.domain false) (Rows.fnExactReadPageSpec.post enc Try.prog Try.f5 false true false false) := by
  refine returnsInHanded_of_change_sized (C := Try.checked) own started (by kernel_rfl) Try.func5
    (ChangeSpec.witness6 (enc := enc) (C := Try.checked) false ⟨#[], #[(.agg #[.slice none 0 0, .slice none 0 0]), (.int .i64 0)], []⟩ 5 (by kernel_rfl) (by kernel_rfl) (by kernel_rfl) (by kernel_rfl)) ?_
  intro W base args ds gs before hval0 hW hcnd hsz0 _
  have hval : ∀ (j : Nat) t v, Try.f5.params[j]? = some t → args[j]? = some v → Value.okWide Try.prog W .any base t v := hval0
  have hW' := hW
  obtain ⟨p, q, hA0, hV, rfl, hfz, hnd⟩ := hW
  have hA : DataW.TrodAll enc Try.prog W 0 (fun _ => true) true Try.f5.params.toList args.toList ds p := hA0
  rw [Try.params5] at hA hval
  obtain ⟨v0, vs0, d0, ds0, p0, q0, hargs0, rfl, rfl, h0, r0⟩ := trodAll_cons hA
  obtain ⟨v1, vs1, d1, ds1, p1, q1, hargs1, rfl, rfl, h1, r1⟩ := trodAll_cons r0
  obtain ⟨rfl, rfl, rfl⟩ := trodAll_nil r1
  obtain rfl := hargs1
  obtain rfl : args = #[v0, v1] := by cases args; simp_all
  obtain ⟨rfl, rfl⟩ := trodVars_none hV
  obtain ⟨c0, rfl⟩ : ∃ c : Array Value, v0 = .agg c := by
    have h := hval 0 43 v0 rfl rfl
    rw [Value.okWide, Try.underlying43] at h
    obtain ⟨c, h1, _⟩ := h
    exact ⟨c, h1⟩
  obtain ⟨a0, ra0, k0⟩ := enDisk2.argS h0 (fun x hx => by
    have h1 := List.all_eq_true.mp hsz0 x (Go.Vcg.weightsEach_mem (i := 0) (t := 43) (d := d0) rfl rfl x hx)
    simpa using h1)
  obtain ⟨n1, rfl⟩ := okWide_int Try.underlying3 (hval 1 3 v1 rfl rfl)
  obtain ⟨a1, ra1, k1⟩ := (Go.Vcg.EncP.int Try.underlying3).arg1 (by simp [Value.cells]) h1 (fun x hx => by
    have h1 := List.all_eq_true.mp hsz0 x (Go.Vcg.weightsEach_mem (i := 1) (t := 3) (d := d1) rfl rfl x hx)
    simpa using h1)
  have g0 := h0
  have lt0 : ∀ x ∈ p0, x.block < W.heap.size := by obtain ⟨m, hm⟩ := g0; exact DataW.trod_lt m _ _ _ hm
  have g1 := h1
  have lt1 : ∀ x ∈ p1, x.block < W.heap.size := by obtain ⟨m, hm⟩ := g1; exact DataW.trod_lt m _ _ _ hm
  clear hA0 hval0 hsz0
  refine ((lawReadPage_ok (id := a1) k0.1 k0.2).law W [.agg c0, .int .i64 n1] rfl fun i v s h1 h2 => ?_).mono fun e W2 ⟨he, bel⟩ => ?_
  · rcases i with _ | i
    · simp only [List.getElem?_cons_zero, List.getElem?_cons_succ, Option.some.injEq] at h1 h2; subst h1; subst h2; exact ra0
    rcases i with _ | i
    · simp only [List.getElem?_cons_zero, List.getElem?_cons_succ, Option.some.injEq] at h1 h2; subst h1; subst h2; exact ra1
    simp at h1
  subst he
  exact ⟨_, rfl, _, _, _, [], _, [], hW', trodAll_mk1 (shut_bool Try.underlying4 _), (trodAll_cons_mk (Below.trod laidOut (by kernel_rfl) (of_decide_eq_true (by kernel_rfl)) g0 bel lt0) (trodAll_cons_mk (Below.trod laidOut (by kernel_rfl) (of_decide_eq_true (by kernel_rfl)) g1 bel lt1) trodAll_mk0)), rfl, bel.frame _, fun h => by cases h⟩
set_option maxRecDepth 100000 in
theorem jf3 : Try.pinned.checked.prog.inPlace 5 = Rows.fnExactReadPageRow.inPlace := by kernel_rfl
set_option maxRecDepth 100000 in
theorem jf4 : Try.pinned.checked.prog.unfollowed 5 = Rows.fnExactReadPageRow.unfollowed := by kernel_rfl
set_option maxRecDepth 100000 in
theorem jf5 : Try.pinned.checked.prog.recurses 5 = Rows.fnExactReadPageRow.recurses := by kernel_rfl
set_option maxRecDepth 100000 in
theorem jf6 : Try.pinned.checked.prog.varsNamed 5 = Rows.fnExactReadPageRow.named := by kernel_rfl
set_option maxRecDepth 100000 in
theorem closed : joinedFacts Try.pinned.checked.prog 5 Try.f5 Rows.fnExactReadPageSpec Rows.fnExactReadPageRow = true := by
  unfold joinedFacts
  rw [jf3, jf4, jf5, jf6]
  kernel_rfl
theorem over : Rows.fnExactReadPageRow.holds Try.pinned (OpenSpec.ofChange Rows.fnExactReadPageSpec) :=
  OpenClaim.holds_of_wide 5 Try.f5 rfl rfl rfl rfl rfl rfl rfl ⟨rfl, rfl, rfl, rfl, rfl⟩ rfl rfl rfl rfl rfl (by kernel_rfl) Try.func5 closed
    (of_decide_eq_true (by kernel_rfl)) (by unfold Func.isWrapper; first | (rw [if_pos (by decide +kernel)]; kernel_rfl) | (rw [if_neg (by decide +kernel)]; exact ⟨rfl, rfl⟩))
    (fun os started H enc _ => lifted os started H enc)
theorem proved : Rows.FnExactReadPageSaid := over
#print axioms proved
end Go.Proofs.Ytfmbifnbmlhhjaa.fnExactReadPage
namespace Go.Proofs.Ytfmbifnbmlhhjaa
/-- The row, under a short name, for the claim. -/
theorem fnExactReadPage_holds : Rows.FnExactReadPageSaid := fnExactReadPage.proved
end Go.Proofs.Ytfmbifnbmlhhjaa
