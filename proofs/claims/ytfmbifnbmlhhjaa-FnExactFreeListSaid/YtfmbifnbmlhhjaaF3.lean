import Derived.Test.YtfmbifnbmlhhjaaF2
import Derived.Test.YtfmbifnbmlhhjaaUc
namespace Go.Proofs.Ytfmbifnbmlhhjaa
open Go Go.Vcg Go.IntWalk
set_option maxRecDepth 100000
set_option maxHeartbeats 20000000
set_option linter.unusedSimpArgs false
set_option linter.unusedVariables false
theorem c16 : CallOk Try.prog 16 := ⟨_, Try.func16, rfl, by kernel_rfl⟩
/-! What DecodePage gives. -/
def decR (id : Int) (b : List Int) (c : Bool) : SV := .tu [.pl (.int .i64 (if c then pgK b else 0)), .ow 1 (encI .u8 (if c then pgB b else [])), .pl (.bool c)]
theorem imDecodePage_ok {id : Int} {xs : List Int} {c : Bool} (hl : xs.length < 2 ^ 40 := by exact pm) (ho : okBytes xs := by exact pm) (hc : c = true ↔ xs.length = 256 ∧ pgOk id xs := by exact pm) : TSpec Try.prog 16 [] [.pl (.int .i64 id), .pd (encI .u8 xs)] false [] (.tu [.pl (.int .i64 (if c then pgK xs else 0)), .ow 1 (encI .u8 (if c then pgB xs else [])), .pl (.bool c)]) := by
  have hbq : (pgB xs).length < 2 ^ 40 := by unfold pgB; rw [List.length_take, List.length_drop]; omega
  by_cases h1 : xs.length = 256
  · by_cases h2 : pgOk id xs
    · obtain rfl : c = true := hc.mpr ⟨h1, h2⟩
      have hp := parse3_ok ho h1 h2
      have his := @isN_ok
      have his2 := @isN_ok
      simp only [if_true]
      clear hc h2
      generalize pgK xs = kq at *
      generalize pgB xs = bq at *
      generalize pgN xs = nq at *
      have hD := dN0
      refine sT 29 [.tmp 4, .tmp 5, .tmp 6] Try.func16 fun w0 S0 ρ0 φ0 => ?_
      repeat' (first | apply W.seq | apply W.skip | apply W.region | apply W.block | apply N.code | apply N.blk | apply Sl.nil | apply W.exit | apply W.ret | apply E.hit | apply E.code | apply E.fin | refine zM ?_ | apply O.i | refine sP ?_ | refine sQ fun _ => ?_ | refine zg fun _ => ?_ | refine sX fun _ => ?_ | refine sPf ?_ | refine sPt ?_ | (refine k1 true [] c79 ?_; refine k2 hp ?_) | (refine k1 false [] c80 ?_; (first | refine k2 his2 ?_ | refine k2 his ?_)) | (focus (refine zs ?_ ?_; all_goals (intro hg; first | (exfalso; ((try simp [-List.getD_eq_getElem?_getD] at hg) <;> omega)) | ((first | subst hg | rw [hg] | skip); (focus (refine zj ?_ ?_; all_goals (intro hb; first | (exfalso; revert hb; decide) | ((try refine sA 19 ?_); (try refine sA 20 ?_); refine k1 false [] c80 ?_; (first | refine k2 his2 ?_ | refine k2 his ?_)) | refine Sl.weak (Weak.refl _ _) ?_))))))) | (refine rD (id := 4) anyW [] ?_; refine rP 0 false fun _ => ?_; refine rP 1 false fun _ => ?_; refine rP 2 true fun _ => ?_; refine rP 3 false fun _ => ?_; refine rP 4 true fun _ => ?_; refine rO 5 fun _ _ _ _ _ => ?_; refine k1 false [] c81 ?_; refine k2 bytesClone_ok ?_; refine rP 6 false fun _ => ?_; refine rP 7 false fun _ => ?_; refine rP 8 false fun _ => ?_; refine rE ?_) | refine zI ?_ ?_ | (intro hb; (try simp [-List.getD_eq_getElem?_getD] at hb); (try (exfalso; omega))))
      all_goals exact rT
    · obtain rfl : c = false := by cases c with
        | false => rfl
        | true => exact absurd (hc.mp rfl).2 h2
      have hp := parse2_ok ho h1 h2
      have his := is21_ok
      have his2 := is22_ok
      simp only [Bool.false_eq_true, if_false]
      have hD := dN0
      refine sT 29 [.tmp 4, .tmp 5, .tmp 6] Try.func16 fun w0 S0 ρ0 φ0 => ?_
      repeat' (first | apply W.seq | apply W.skip | apply W.region | apply W.block | apply N.code | apply N.blk | apply Sl.nil | apply W.exit | apply W.ret | apply E.hit | apply E.code | apply E.fin | refine zM ?_ | apply O.i | refine sP ?_ | refine sQ fun _ => ?_ | refine zg fun _ => ?_ | refine sX fun _ => ?_ | refine sPf ?_ | refine sPt ?_ | (refine k1 true [] c79 ?_; refine k2 hp ?_) | (refine k1 false [] c80 ?_; (first | refine k2 his2 ?_ | refine k2 his ?_)) | (focus (refine zs ?_ ?_; all_goals (intro hg; first | (exfalso; ((try simp [-List.getD_eq_getElem?_getD] at hg) <;> omega)) | ((first | subst hg | rw [hg] | skip); (focus (refine zj ?_ ?_; all_goals (intro hb; first | (exfalso; revert hb; decide) | ((try refine sA 19 ?_); (try refine sA 20 ?_); refine k1 false [] c80 ?_; (first | refine k2 his2 ?_ | refine k2 his ?_)) | refine Sl.weak (Weak.refl _ _) ?_))))))) | (refine rD (id := 4) anyW [] ?_; refine rP 0 false fun _ => ?_; refine rP 1 false fun _ => ?_; refine rP 2 true fun _ => ?_; refine rP 3 false fun _ => ?_; refine rP 4 true fun _ => ?_; refine rO 5 fun _ _ _ _ _ => ?_; refine k1 false [] c81 ?_; refine k2 bytesClone_ok ?_; refine rP 6 false fun _ => ?_; refine rP 7 false fun _ => ?_; refine rP 8 false fun _ => ?_; refine rE ?_) | refine zI ?_ ?_ | (intro hb; (try simp [-List.getD_eq_getElem?_getD] at hb); (try (exfalso; omega))))
      exact rT
  · obtain rfl : c = false := by cases c with
      | false => rfl
      | true => exact absurd (hc.mp rfl).1 h1
    have hp := parse1_ok (id := id) hl ho h1
    have his := is11_ok
    have his2 := is11_ok
    simp only [Bool.false_eq_true, if_false]
    have hD := dN0
    refine sT 29 [.tmp 4, .tmp 5, .tmp 6] Try.func16 fun w0 S0 ρ0 φ0 => ?_
    repeat' (first | apply W.seq | apply W.skip | apply W.region | apply W.block | apply N.code | apply N.blk | apply Sl.nil | apply W.exit | apply W.ret | apply E.hit | apply E.code | apply E.fin | refine zM ?_ | apply O.i | refine sP ?_ | refine sQ fun _ => ?_ | refine zg fun _ => ?_ | refine sX fun _ => ?_ | refine sPf ?_ | refine sPt ?_ | (refine k1 true [] c79 ?_; refine k2 hp ?_) | (refine k1 false [] c80 ?_; (first | refine k2 his2 ?_ | refine k2 his ?_)) | (focus (refine zs ?_ ?_; all_goals (intro hg; first | (exfalso; ((try simp [-List.getD_eq_getElem?_getD] at hg) <;> omega)) | ((first | subst hg | rw [hg] | skip); (focus (refine zj ?_ ?_; all_goals (intro hb; first | (exfalso; revert hb; decide) | ((try refine sA 19 ?_); (try refine sA 20 ?_); refine k1 false [] c80 ?_; (first | refine k2 his2 ?_ | refine k2 his ?_)) | refine Sl.weak (Weak.refl _ _) ?_))))))) | (refine rD (id := 4) anyW [] ?_; refine rP 0 false fun _ => ?_; refine rP 1 false fun _ => ?_; refine rP 2 true fun _ => ?_; refine rP 3 false fun _ => ?_; refine rP 4 true fun _ => ?_; refine rO 5 fun _ _ _ _ _ => ?_; refine k1 false [] c81 ?_; refine k2 bytesClone_ok ?_; refine rP 6 false fun _ => ?_; refine rP 7 false fun _ => ?_; refine rP 8 false fun _ => ?_; refine rE ?_) | refine zI ?_ ?_ | (intro hb; (try simp [-List.getD_eq_getElem?_getD] at hb); (try (exfalso; omega))))
    exact rT
end Go.Proofs.Ytfmbifnbmlhhjaa

