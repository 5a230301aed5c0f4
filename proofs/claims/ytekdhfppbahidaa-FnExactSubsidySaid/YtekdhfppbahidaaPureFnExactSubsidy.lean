/- The law FnExactSubsidy, printed as a Lean function, answers true at every int64: no condition. -/
import Derived.Test.YtekdhfppbahidaaPFnExactSubsidyx1
namespace Go.Proofs.Ytekdhfppbahidaa.Pure
open Go.RowKit Go.Proofs.Ytekdhfppbahidaa.PFnExactSubsidy Go.Proofs.YtekdhfppbahidaaW.PrintWords Go.Proofs.YtekdhfppbahidaaW.PrintLast Go.Proofs.YtekdhfppbahidaaW.PrintMore

theorem wrap_third {a : Int} (h1 : 1 ≤ a) (h2 : a ≤ 9223372036854775807) : wrap64 (Int.tdiv a 3) = a / 3 := by
  rw [Int.tdiv_eq_ediv_of_nonneg (by omega)]
  unfold wrap64
  omega

theorem step_yes (k : Nat) (a v i q v' i' : Int) (hq : wrap64 (Int.tdiv a 3) = q) (h1 : i < q) (h2 : v > 0)
    (hv : wrap64 (Int.tdiv v 2) = v') (hi : wrap64 (i + 1) = i') :
    spec_Subsidy.l0 (k + 1) a v i = spec_Subsidy.l0 k a v' i' := by
  simp only [spec_Subsidy.l0]
  rw [hq, if_pos h1, if_pos h2, hv, hi]

theorem step_low (k : Nat) (a v i q : Int) (hq : wrap64 (Int.tdiv a 3) = q) (h1 : ¬ i < q) :
    spec_Subsidy.l0 (k + 1) a v i = some v := by
  simp only [spec_Subsidy.l0]
  rw [hq, if_neg h1]

theorem step_end (k : Nat) (a v i q : Int) (hq : wrap64 (Int.tdiv a 3) = q) (h2 : ¬ v > 0) :
    spec_Subsidy.l0 (k + 1) a v i = some v := by
  simp only [spec_Subsidy.l0]
  rw [hq]
  by_cases h : i < q
  · rw [if_pos h, if_neg h2]
  · rw [if_neg h]

def val (i : Nat) : Int := 5000 / 2 ^ i

theorem loop_to (a q : Int) (hq : wrap64 (Int.tdiv a 3) = q) (i : Nat) (hi : i ≤ 13) (hiq : (i : Int) ≤ q) (d : Nat) (hd : i + d = 13) :
    spec_Subsidy.l0 (d + 2) a (val i) i = some (if q ≤ 12 then val q.toNat else 0) := by
  induction d generalizing i with
  | zero =>
    have e : i = 13 := by omega
    subst e
    rw [step_end _ _ _ _ q hq (by decide +kernel), if_neg (by omega)]
    rfl
  | succ d ih =>
    by_cases h : (i : Int) < q
    · have h0 : i ≤ 12 := by omega
      have hv : val i > 0 ∧ wrap64 (Int.tdiv (val i) 2) = val (i + 1) := by
        have : ∀ j : Fin 13, val j.1 > 0 ∧ wrap64 (Int.tdiv (val j.1) 2) = val (j.1 + 1) := by decide +kernel
        exact this ⟨i, by omega⟩
      rw [step_yes _ _ _ _ q (val (i + 1)) ((i + 1 : Nat) : Int) hq h hv.1 hv.2 (by unfold wrap64; omega)]
      exact ih (i + 1) (by omega) (by omega) (by omega)
    · have e : q = i := by omega
      rw [step_low _ _ _ _ q hq h, if_pos (by omega), e]
      rfl

theorem shr_val (q : Int) (h0 : 0 ≤ q) (h : q ≤ 20) : shr .i64 5000 q = (if q ≤ 12 then val q.toNat else 0) := by
  obtain ⟨n, rfl⟩ := Int.eq_ofNat_of_zero_le h0
  have : ∀ j : Fin 21, shr .i64 5000 ((j.1 : Nat) : Int) = (if ((j.1 : Nat) : Int) ≤ 12 then val j.1 else 0) := by decide +kernel
  have := this ⟨n, by omega⟩
  simpa using this

theorem FnExactSubsidy : laws_FnExactSubsidy.Pure := by
  intro a wf
  have hb : a ≤ 9223372036854775807 := by
    have h2 : IntKind.i64.max = 9223372036854775807 := by decide +kernel
    have wf2 : (decide (IntKind.i64.min ≤ a) && decide (a ≤ IntKind.i64.max)) = true := wf
    rw [h2] at wf2
    simp at wf2
    omega
  refine ⟨15, ?_⟩
  unfold laws_FnExactSubsidy.f spec_Subsidy.f impl_Subsidy.f
  by_cases h1 : a < 1
  · rw [if_pos h1, if_pos h1]
    rfl
  · rw [if_neg h1, if_neg h1]
    have hq := wrap_third (a := a) (by omega) hb
    have hl := loop_to a (a / 3) hq 0 (by omega) (by omega) 13 rfl
    have hl' : spec_Subsidy.l0 15 a 5000 0 = some (if a / 3 ≤ 12 then val (a / 3).toNat else 0) := hl
    rw [hl', hq]
    simp only [Option.bind_some]
    by_cases h2 : a / 3 > 20
    · rw [if_pos h2, if_neg (by omega)]
      rfl
    · rw [if_neg h2, if_pos (by omega), shr_val _ (by omega) (by omega)]
      simp

end Go.Proofs.Ytekdhfppbahidaa.Pure
