/- The law FnExactFreeList returns true at every input; the arguments read behind the call as they read before. No condition. -/
import Derived.Test.YtfmbifnbmlhhjaaRows
import Derived.Test.YtfmbifnbmlhhjaaChecked
import Derived.Test.YtfmbifnbmlhhjaaJ5
import Derived.Test.YtfmbifnbmlhhjaaE4
import Derived.WalkKit
import Derived.ProofKit
import Derived.OpenShut
import Derived.ShutString
import Derived.ChangeOld
import Derived.Below
import Derived.SizedLaws
namespace Go.Proofs.Ytfmbifnbmlhhjaa.fnExactFreeList
open Go.ChangeShapes Go.WideShapes Go.ChangeAt Go.RowKit
set_option linter.unusedVariables false
set_option linter.unusedSimpArgs false
theorem own : ownKnob Try.prog.godebug = none := by kernel_rfl
theorem laidOut : laidOutB Try.prog = true := by kernel_rfl
set_option maxRecDepth 100000 in
theorem lifted (os : Os) (started : os.Started) (H : Type) (enc : TypeId × Value → H) :
    ReturnsInHanded {} Try.checked os 8 .any (Rows.fnExactFreeListSpec.pre6 enc Try.prog Try.f8 Rows.fnExactFreeListRow.domain false) (Rows.fnExactFreeListSpec.post enc Try.prog Try.f8 false true false false) := by
  refine returnsInHanded_of_change_sized (C := Try.checked) own started (by kernel_rfl) Try.func8
    (ChangeSpec.witness6 (enc := enc) (C := Try.checked) false ⟨#[], #[(.agg #[.slice none 0 0, .slice none 0 0]), (.agg #[.int .i64 0, .int .i64 0, .int .i64 0, .int .i64 0])], []⟩ 8 (by kernel_rfl) (by kernel_rfl) (by kernel_rfl) (by kernel_rfl)) ?_
  intro W base args ds gs before hval0 hW hcnd hsz0 _
  have hval : ∀ (j : Nat) t v, Try.f8.params[j]? = some t → args[j]? = some v → Value.okWide Try.prog W .any base t v := hval0
  have hW' := hW
  obtain ⟨p, q, hA0, hV, rfl, hfz, hnd⟩ := hW
  have hA : DataW.TrodAll enc Try.prog W 0 (fun _ => true) true Try.f8.params.toList args.toList ds p := hA0
  rw [Try.params8] at hA hval
  obtain ⟨v0, vs0, d0, ds0, p0, q0, hargs0, rfl, rfl, h0, r0⟩ := trodAll_cons hA
  obtain ⟨v1, vs1, d1, ds1, p1, q1, hargs1, rfl, rfl, h1, r1⟩ := trodAll_cons r0
  obtain ⟨rfl, rfl, rfl⟩ := trodAll_nil r1
  obtain rfl := hargs1
  obtain rfl : args = #[v0, v1] := by cases args; simp_all
  obtain ⟨rfl, rfl⟩ := trodVars_none hV
  obtain ⟨c0, rfl⟩ : ∃ c : Array Value, v0 = .agg c := by
    have h := hval 0 43 v0 rfl rfl
    rw [Value.okWide, Try.underlying43] at h
    obtain ⟨c, h1, _⟩ := h
    exact ⟨c, h1⟩
  obtain ⟨a0, ra0, k0⟩ := enDisk2.argS h0 (fun x hx => by
    have h1 := List.all_eq_true.mp hsz0 x (Go.Vcg.weightsEach_mem (i := 0) (t := 43) (d := d0) rfl rfl x hx)
    simpa using h1)
  obtain ⟨c1, rfl⟩ : ∃ c : Array Value, v1 = .agg c := by
    have h := hval 1 68 v1 rfl rfl
    rw [Value.okWide, Try.underlying68] at h
    obtain ⟨c, h1, _⟩ := h
    exact ⟨c, h1⟩
  obtain ⟨a1, ra1, k1⟩ := enSuper.argS h1 (fun x hx => by
    have h1 := List.all_eq_true.mp hsz0 x (Go.Vcg.weightsEach_mem (i := 1) (t := 68) (d := d1) rfl rfl x hx)
    simpa using h1)
  have g0 := h0
  have lt0 : ∀ x ∈ p0, x.block < W.heap.size := by obtain ⟨m, hm⟩ := g0; exact DataW.trod_lt m _ _ _ hm
  have g1 := h1
  have lt1 : ∀ x ∈ p1, x.block < W.heap.size := by obtain ⟨m, hm⟩ := g1; exact DataW.trod_lt m _ _ _ hm
  clear hA0 hval0 hsz0
  refine ((lawFreeList_ok (s := a1) k0.1 k0.2).law W [.agg c0, .agg c1] rfl fun i v s h1 h2 => ?_).mono fun e W2 ⟨he, bel⟩ => ?_
  · rcases i with _ | i
    · simp only [List.getElem?_cons_zero, List.getElem?_cons_succ, Option.some.injEq] at h1 h2; subst h1; subst h2; exact ra0
    rcases i with _ | i
    · simp only [List.getElem?_cons_zero, List.getElem?_cons_succ, Option.some.injEq] at h1 h2; subst h1; subst h2; exact ra1
    simp at h1
  subst he
  exact ⟨_, rfl, _, _, _, [], _, [], hW', trodAll_mk1 (shut_bool Try.underlying4 _), (trodAll_cons_mk (Below.trod laidOut (by kernel_rfl) (of_decide_eq_true (by kernel_rfl)) g0 bel lt0) (trodAll_cons_mk (Below.trod laidOut (by kernel_rfl) (of_decide_eq_true (by kernel_rfl)) g1 bel lt1) trodAll_mk0)), rfl, bel.frame _, fun h => by cases h⟩
set_option maxRecDepth 100000 in
theorem jf3 : Try.pinned.checked.prog.inPlace 8 = Rows.fnExactFreeListRow.inPlace := by kernel_rfl
set_option maxRecDepth 100000 in
theorem jf4 : Try.pinned.checked.prog.unfollowed 8 = Rows.fnExactFreeListRow.unfollowed := by kernel_rfl
set_option maxRecDepth 100000 in
theorem jf5 : Try.pinned.checked.prog.recurses 8 = Rows.fnExactFreeListRow.recurses := by kernel_rfl
set_option maxRecDepth 100000 in
theorem jf6 : Try.pinned.checked.prog.varsNamed 8 = Rows.fnExactFreeListRow.named := by kernel_rfl
set_option maxRecDepth 100000 in
theorem closed : joinedFacts Try.pinned.checked.prog 8 Try.f8 Rows.fnExactFreeListSpec Rows.fnExactFreeListRow = true := by
  unfold joinedFacts
  rw [jf3, jf4, jf5, jf6]
  kernel_rfl
theorem over : Rows.fnExactFreeListRow.holds Try.pinned (OpenSpec.ofChange Rows.fnExactFreeListSpec) :=
  OpenClaim.holds_of_wide 8 Try.f8 rfl rfl rfl rfl rfl rfl rfl ⟨rfl, rfl, rfl, rfl, rfl⟩ rfl rfl rfl rfl rfl (by kernel_rfl) Try.func8 closed
    (of_decide_eq_true (by kernel_rfl)) (by unfold Func.isWrapper; first | (rw [if_pos (by decide +kernel)]; kernel_rfl) | (rw [if_neg (by decide +kernel)]; exact ⟨rfl, rfl⟩))
    (fun os started H enc _ => lifted os started H enc)
theorem proved : Rows.FnExactFreeListSaid := over
#print axioms proved
end Go.Proofs.Ytfmbifnbmlhhjaa.fnExactFreeList
namespace Go.Proofs.Ytfmbifnbmlhhjaa
/-- The row, under a short name, for the claim. -/
theorem fnExactFreeList_holds : Rows.FnExactFreeListSaid := fnExactFreeList.proved
end Go.Proofs.Ytfmbifnbmlhhjaa
