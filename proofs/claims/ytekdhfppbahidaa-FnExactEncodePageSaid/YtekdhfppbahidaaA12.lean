import Derived.Test.YtekdhfppbahidaaA11
import Derived.Test.YtekdhfppbahidaaU28
namespace Go.Proofs.Ytekdhfppbahidaa
open Go Go.Vcg Go.IntWalk
set_option maxRecDepth 100000
set_option maxHeartbeats 4000000
set_option linter.unusedSimpArgs false
set_option linter.unusedVariables false

theorem c7 : CallOk Try.prog 7 := ⟨_, Try.func7, rfl, by kernel_rfl⟩
theorem lawEncodePage_ok {k n : Int} {xs : List Int} (hx : xs.length < 2 ^ 50 := by exact pm) (ho : okBytes xs := by exact pm) : TSpec Try.prog 7 [] [.pl (.int .i64 k), .pl (.int .i64 n), .pd (encI .u8 xs)] false [] (.pl (.bool true)) := by
  obtain ⟨b, hP⟩ : ∃ b : Bool, b = true ↔ headOk k n xs.length := by
    by_cases e : headOk k n xs.length
    · exact ⟨true, by simp [e]⟩
    · exact ⟨false, by simp [e]⟩
  obtain ⟨ys, hys⟩ : ∃ ys, ys = if b then encPage k n xs else [] := ⟨_, rfl⟩
  have hyl : ys.length < 2 ^ 40 := by
    rw [hys]
    split
    · rename_i e
      have := hP.mp e
      unfold headOk at this
      unfold encPage
      rw [List.length_append, lowB_length, pageRest_length k n xs (by omega)]
      omega
    · simp
  by_cases hxl : xs.length < 2 ^ 40
  · have hsp := spEncodePage_ok hxl ho hP
    have him := imEncodePage_ok hxl ho hP
    rw [← hys] at hsp him
    have hD := @decide_true
    refine sT 95 [.tmp 6] Try.func7 fun w0 S0 ρ0 φ0 => ?_
    repeat' (first | apply W.seq | apply W.skip | apply W.region | apply W.block | apply N.code | apply N.blk | apply Sl.nil | apply W.exit | apply W.ret | apply E.hit | apply E.code | apply E.fin | refine zM ?_ | apply O.i | refine sP ?_ | refine sQ fun _ => ?_ | refine zg fun _ => ?_ | (refine k1 false [] c12 ?_; refine k2 toByteS_ok ?_) | (refine k1 false [] c20 ?_; refine k2 hsp ?_) | (refine k1 false [] c21 ?_; refine k2 him ?_) | (refine k1 false [] c14 ?_; refine k2 eqByteS_ok ?_) | (focus (refine zs ?_ ?_; all_goals (intro hg; first | (exfalso; ((try simp [-List.getD_eq_getElem?_getD] at hg) <;> omega)) | ((first | subst hg | rw [hg] | skip); (focus (refine zj ?_ ?_; all_goals (intro hb; first | (exfalso; revert hb; decide) | ((try refine sA 57 ?_); (try refine sA 58 ?_); refine k1 false [] c14 ?_; refine k2 eqByteS_ok ?_) | refine Sl.weak (Weak.refl _ _) ?_))))))) | (refine k1 false [(1000000, 0, none)] c22 ?_; refine k2 markByteS_ok ?_) | (refine k1 false [] c23 ?_; refine k2 heldByteS_ok ?_) | refine zI ?_ ?_ | (intro hb; (try simp [-List.getD_eq_getElem?_getD] at hb); (try (exfalso; omega))))
    all_goals exact rT
  · have hD := @decide_true
    refine sT 95 [.tmp 6] Try.func7 fun w0 S0 ρ0 φ0 => ?_
    repeat' (first | apply W.seq | apply W.skip | apply W.region | apply W.block | apply N.code | apply N.blk | apply Sl.nil | apply W.exit | apply W.ret | apply E.hit | apply E.code | apply E.fin | refine zM ?_ | apply O.i | refine sP ?_ | refine sQ fun _ => ?_ | refine zg fun _ => ?_ | (refine k1 false [] c12 ?_; refine k2 toByteS_ok ?_) | (refine k1 false [] c20 ?_; refine k2 hsp ?_) | (refine k1 false [] c21 ?_; refine k2 him ?_) | (refine k1 false [] c14 ?_; refine k2 eqByteS_ok ?_) | (focus (refine zs ?_ ?_; all_goals (intro hg; first | (exfalso; ((try simp [-List.getD_eq_getElem?_getD] at hg) <;> omega)) | ((first | subst hg | rw [hg] | skip); (focus (refine zj ?_ ?_; all_goals (intro hb; first | (exfalso; revert hb; decide) | ((try refine sA 57 ?_); (try refine sA 58 ?_); refine k1 false [] c14 ?_; refine k2 eqByteS_ok ?_) | refine Sl.weak (Weak.refl _ _) ?_))))))) | (refine k1 false [(1000000, 0, none)] c22 ?_; refine k2 markByteS_ok ?_) | (refine k1 false [] c23 ?_; refine k2 heldByteS_ok ?_) | refine zI ?_ ?_ | (intro hb; (try simp [-List.getD_eq_getElem?_getD] at hb); (try (exfalso; omega))))
    all_goals exact rT
theorem enBy {H : Type} {enc : TypeId × Value → H} {w : World} : EncP enc Try.prog w 25 (fun xs => [.pd (encI .u8 xs)]) (fun xs => xs.length < 2 ^ 50 ∧ okBytes xs) :=
  (EncP.slice Try.underlying25 (of_decide_eq_true (by kernel_rfl)) (of_decide_eq_true (by kernel_rfl)) (EncP.int Try.underlying5)).imp fun xs h => by
    refine ⟨by have := h.1; unfold reachBytes at this; omega, fun x hx => ?_⟩
    obtain ⟨i, hi, rfl⟩ := List.mem_iff_getElem.mp hx
    have := h.2 i hi
    simp only [List.getD_eq_getElem?_getD, List.getElem?_eq_getElem hi, Option.getD_some] at this
    have h1 : IntKind.u8.min ≤ xs[i] ∧ xs[i] ≤ IntKind.u8.max := by simpa [Lit.wf, Bool.and_eq_true] using this
    have e1 : IntKind.u8.min = 0 := rfl
    have e2 : IntKind.u8.max = 255 := rfl
    omega
end Go.Proofs.Ytekdhfppbahidaa

