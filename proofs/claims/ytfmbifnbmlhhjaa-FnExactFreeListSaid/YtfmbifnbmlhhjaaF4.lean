import Derived.Test.YtfmbifnbmlhhjaaF3
import Derived.Test.YtfmbifnbmlhhjaaUc
import Derived.Test.YtfmbifnbmlhhjaaE1
namespace Go.Proofs.Ytfmbifnbmlhhjaa
open Go Go.Vcg Go.IntWalk
set_option maxRecDepth 100000
set_option maxHeartbeats 20000000
set_option linter.unusedSimpArgs false
set_option linter.unusedVariables false
theorem c18 : CallOk Try.prog 18 := ⟨_, Try.func18, rfl, by kernel_rfl⟩
theorem spDecodePage_ok {id : Int} {xs : List Int} {c : Bool} (hl : xs.length < 2 ^ 40 := by exact pm) (ho : okBytes xs := by exact pm) (hc : c = true ↔ xs.length = 256 ∧ pgOk id xs := by exact pm) : TSpec Try.prog 18 [] [.pl (.int .i64 id), .pd (encI .u8 xs)] false [] (.tu [.pl (.int .i64 (if c then pgK xs else 0)), .ow 1 (encI .u8 (if c then pgB xs else [])), .pl (.bool c)]) := by
  have hnl := pgN_lt ho
  have ho2 : okBytes ((xs.drop 10).take 2) := fun x hx => ho x (List.mem_of_mem_drop (List.mem_of_mem_take hx))
  by_cases h1 : xs.length = 256
  · have hby := okBytes_getD ho 8 (by omega)
    have hk : IntKind.i64.wrap (xs.getD 8 0) = pgK xs := nWrap (by omega) (by omega)
    have hn : leN ((xs.drop 10).take 2) = pgN xs := rfl
    by_cases hs : pgN xs ≤ 240
    · have hbl : (pgB xs).length = pgN xs := by unfold pgB; rw [List.length_take, List.length_drop]; omega
      have hbo : okBytes (pgB xs) := fun x hx => ho x (List.mem_of_mem_drop (List.mem_of_mem_take hx))
      have hbd : (xs.drop 16).take ((16 + (pgN xs : Int)).toNat - 16) = pgB xs := by
        rw [show (16 + (pgN xs : Int)).toNat - 16 = pgN xs by omega]
        rfl
      by_cases hh : headOk id (pgK xs) (pgN xs)
      · have hep := spEncodePage_ok (k := id) (n := pgK xs) (xs := pgB xs) (b := true) (by omega) hbo ⟨fun _ => hbl ▸ hh, fun _ => rfl⟩
        have hpl := page_length id (pgK xs) (xs := pgB xs) (by omega)
        simp only [if_true] at hep
        obtain rfl : c = decide (encPage id (pgK xs) (pgB xs) = xs) := by
          rw [Bool.eq_iff_iff, hc, decide_eq_true_eq]
          exact ⟨fun h => h.2.2, fun h => ⟨h1, hh, h⟩⟩
        clear hc hh hby
        generalize pgK xs = kq at *
        generalize pgB xs = bq at *
        generalize pgN xs = nq at *
        generalize encPage id kq bq = eq at *
        have hD := And.intro (hk) (And.intro (hn) ((hbd)))
        by_cases he : eq = xs
        · have he2 : decide (eq = xs) = true := decide_eq_true he
          rw [he2]
          simp only [if_true]
          have hD := And.intro (hk) (And.intro (hn) (And.intro (hbd) ((he2))))
          have hD := And.intro (hk) (And.intro (hn) (And.intro (hbd) ((he2))))
          refine sT 53 [.tmp 4, .tmp 5, .tmp 6] Try.func18 fun w0 S0 ρ0 φ0 => ?_
          repeat' (first | apply W.seq | apply W.skip | apply W.region | apply W.block | apply N.code | apply N.blk | apply Sl.nil | apply W.exit | apply W.ret | apply E.hit | apply E.code | apply E.fin | refine zM ?_ | apply O.i | refine sP ?_ | refine sQ fun _ => ?_ | refine zg fun _ => ?_ | refine sX fun _ => ?_ | refine sPf ?_ | refine sPt ?_ | (refine k1 false [] c82 ?_; refine k2 l2Low_ok ?_) | (refine rD (id := 7) anyW [] ?_; refine rP 0 false fun _ => ?_; refine rP 1 false fun _ => ?_; refine rP 2 false fun _ => ?_; refine rP 3 true fun _ => ?_; refine rP 4 false fun _ => ?_; refine rP 5 false fun _ => ?_; refine rP 6 false fun _ => ?_; refine rP 7 false fun _ => ?_; refine rP 8 false fun _ => ?_; refine rO 9 fun _ _ _ _ _ => ?_; refine k1 false [] c14 ?_; refine k2 hep ?_; refine rP 10 false fun _ => ?_; refine rP 11 false fun _ => ?_; refine rP 12 false fun _ => ?_; refine rP 13 false fun _ => ?_; refine rP 14 false fun _ => ?_; refine rE ?_) | (refine k1 false [] c83 ?_; refine k2 l2Same_ok ?_) | (focus (refine zs ?_ ?_; all_goals (intro hg; first | (exfalso; ((try simp [-List.getD_eq_getElem?_getD] at hg) <;> omega)) | ((first | subst hg | rw [hg] | skip); (focus (refine zj ?_ ?_; all_goals (intro hb; first | (exfalso; revert hb; decide) | ((try refine sA 38 ?_); (try refine sA 39 ?_); refine k1 false [] c83 ?_; refine k2 l2Same_ok ?_) | refine Sl.weak (Weak.refl _ _) ?_))))))) | (refine rD (id := 10) anyW [] ?_; refine rP 0 false fun _ => ?_; refine rP 1 false fun _ => ?_; refine rP 2 true fun _ => ?_; refine rP 3 false fun _ => ?_; refine rP 4 false fun _ => ?_; refine rP 5 false fun _ => ?_; refine rP 6 false fun _ => ?_; refine rP 7 false fun _ => ?_; refine rO 8 fun _ _ _ _ _ => ?_; refine k1 false [] c84 ?_; refine k2 l1Bytes_ok ?_; refine rP 9 false fun _ => ?_; refine rP 10 false fun _ => ?_; refine rP 11 false fun _ => ?_; refine rE ?_) | refine zI ?_ ?_ | (intro hb; (try simp [-List.getD_eq_getElem?_getD] at hb); (try (exfalso; omega))))
          all_goals exact rT
        · have he2 : decide (eq = xs) = false := decide_eq_false he
          rw [he2]
          simp only [Bool.false_eq_true, if_false]
          have hD := And.intro (hk) (And.intro (hn) (And.intro (hbd) ((he2))))
          have hD := And.intro (hk) (And.intro (hn) (And.intro (hbd) ((he2))))
          refine sT 53 [.tmp 4, .tmp 5, .tmp 6] Try.func18 fun w0 S0 ρ0 φ0 => ?_
          repeat' (first | apply W.seq | apply W.skip | apply W.region | apply W.block | apply N.code | apply N.blk | apply Sl.nil | apply W.exit | apply W.ret | apply E.hit | apply E.code | apply E.fin | refine zM ?_ | apply O.i | refine sP ?_ | refine sQ fun _ => ?_ | refine zg fun _ => ?_ | refine sX fun _ => ?_ | refine sPf ?_ | refine sPt ?_ | (refine k1 false [] c82 ?_; refine k2 l2Low_ok ?_) | (refine rD (id := 7) anyW [] ?_; refine rP 0 false fun _ => ?_; refine rP 1 false fun _ => ?_; refine rP 2 false fun _ => ?_; refine rP 3 true fun _ => ?_; refine rP 4 false fun _ => ?_; refine rP 5 false fun _ => ?_; refine rP 6 false fun _ => ?_; refine rP 7 false fun _ => ?_; refine rP 8 false fun _ => ?_; refine rO 9 fun _ _ _ _ _ => ?_; refine k1 false [] c14 ?_; refine k2 hep ?_; refine rP 10 false fun _ => ?_; refine rP 11 false fun _ => ?_; refine rP 12 false fun _ => ?_; refine rP 13 false fun _ => ?_; refine rP 14 false fun _ => ?_; refine rE ?_) | (refine k1 false [] c83 ?_; refine k2 l2Same_ok ?_) | (focus (refine zs ?_ ?_; all_goals (intro hg; first | (exfalso; ((try simp [-List.getD_eq_getElem?_getD] at hg) <;> omega)) | ((first | subst hg | rw [hg] | skip); (focus (refine zj ?_ ?_; all_goals (intro hb; first | (exfalso; revert hb; decide) | ((try refine sA 38 ?_); (try refine sA 39 ?_); refine k1 false [] c83 ?_; refine k2 l2Same_ok ?_) | refine Sl.weak (Weak.refl _ _) ?_))))))) | (refine rD (id := 10) anyW [] ?_; refine rP 0 false fun _ => ?_; refine rP 1 false fun _ => ?_; refine rP 2 true fun _ => ?_; refine rP 3 false fun _ => ?_; refine rP 4 false fun _ => ?_; refine rP 5 false fun _ => ?_; refine rP 6 false fun _ => ?_; refine rP 7 false fun _ => ?_; refine rO 8 fun _ _ _ _ _ => ?_; refine k1 false [] c84 ?_; refine k2 l1Bytes_ok ?_; refine rP 9 false fun _ => ?_; refine rP 10 false fun _ => ?_; refine rP 11 false fun _ => ?_; refine rE ?_) | refine zI ?_ ?_ | (intro hb; (try simp [-List.getD_eq_getElem?_getD] at hb); (try (exfalso; omega))))
          all_goals exact rT
      · have hep := spEncodePage_ok (k := id) (n := pgK xs) (xs := pgB xs) (b := false) (by omega) hbo ⟨fun e => (Bool.noConfusion e), fun e => absurd (hbl ▸ e) hh⟩
        obtain rfl : c = false := by cases c with
          | false => rfl
          | true => exact absurd (hc.mp rfl).2.1 hh
        simp only [Bool.false_eq_true, if_false] at hep ⊢
        clear hc hh hby
        generalize pgK xs = kq at *
        generalize pgB xs = bq at *
        generalize pgN xs = nq at *
        have hD := And.intro (hk) (And.intro (hn) ((hbd)))
        have hD := And.intro (hk) (And.intro (hn) ((hbd)))
        refine sT 53 [.tmp 4, .tmp 5, .tmp 6] Try.func18 fun w0 S0 ρ0 φ0 => ?_
        repeat' (first | apply W.seq | apply W.skip | apply W.region | apply W.block | apply N.code | apply N.blk | apply Sl.nil | apply W.exit | apply W.ret | apply E.hit | apply E.code | apply E.fin | refine zM ?_ | apply O.i | refine sP ?_ | refine sQ fun _ => ?_ | refine zg fun _ => ?_ | refine sX fun _ => ?_ | refine sPf ?_ | refine sPt ?_ | (refine k1 false [] c82 ?_; refine k2 l2Low_ok ?_) | (refine rD (id := 7) anyW [] ?_; refine rP 0 false fun _ => ?_; refine rP 1 false fun _ => ?_; refine rP 2 false fun _ => ?_; refine rP 3 true fun _ => ?_; refine rP 4 false fun _ => ?_; refine rP 5 false fun _ => ?_; refine rP 6 false fun _ => ?_; refine rP 7 false fun _ => ?_; refine rP 8 false fun _ => ?_; refine rO 9 fun _ _ _ _ _ => ?_; refine k1 false [] c14 ?_; refine k2 hep ?_; refine rP 10 false fun _ => ?_; refine rP 11 false fun _ => ?_; refine rP 12 false fun _ => ?_; refine rP 13 false fun _ => ?_; refine rP 14 false fun _ => ?_; refine rE ?_) | (refine k1 false [] c83 ?_; refine k2 l2Same_ok ?_) | (focus (refine zs ?_ ?_; all_goals (intro hg; first | (exfalso; ((try simp [-List.getD_eq_getElem?_getD] at hg) <;> omega)) | ((first | subst hg | rw [hg] | skip); (focus (refine zj ?_ ?_; all_goals (intro hb; first | (exfalso; revert hb; decide) | ((try refine sA 38 ?_); (try refine sA 39 ?_); refine k1 false [] c83 ?_; refine k2 l2Same_ok ?_) | refine Sl.weak (Weak.refl _ _) ?_))))))) | (refine rD (id := 10) anyW [] ?_; refine rP 0 false fun _ => ?_; refine rP 1 false fun _ => ?_; refine rP 2 true fun _ => ?_; refine rP 3 false fun _ => ?_; refine rP 4 false fun _ => ?_; refine rP 5 false fun _ => ?_; refine rP 6 false fun _ => ?_; refine rP 7 false fun _ => ?_; refine rO 8 fun _ _ _ _ _ => ?_; refine k1 false [] c84 ?_; refine k2 l1Bytes_ok ?_; refine rP 9 false fun _ => ?_; refine rP 10 false fun _ => ?_; refine rP 11 false fun _ => ?_; refine rE ?_) | refine zI ?_ ?_ | (intro hb; (try simp [-List.getD_eq_getElem?_getD] at hb); (try (exfalso; omega))))
        all_goals exact rT
    · obtain rfl : c = false := by cases c with
        | false => rfl
        | true =>
          obtain ⟨_, _, _, _, h6⟩ := (hc.mp rfl).2.1
          omega
      simp only [Bool.false_eq_true, if_false]
      clear hc hby hk
      generalize pgN xs = nq at *
      have hD := (hn)
      have hD := (hn)
      refine sT 53 [.tmp 4, .tmp 5, .tmp 6] Try.func18 fun w0 S0 ρ0 φ0 => ?_
      repeat' (first | apply W.seq | apply W.skip | apply W.region | apply W.block | apply N.code | apply N.blk | apply Sl.nil | apply W.exit | apply W.ret | apply E.hit | apply E.code | apply E.fin | refine zM ?_ | apply O.i | refine sP ?_ | refine sQ fun _ => ?_ | refine zg fun _ => ?_ | refine sX fun _ => ?_ | refine sPf ?_ | refine sPt ?_ | (refine k1 false [] c82 ?_; refine k2 l2Low_ok ?_) | (refine rD (id := 7) anyW [] ?_; refine rP 0 false fun _ => ?_; refine rP 1 false fun _ => ?_; refine rP 2 false fun _ => ?_; refine rP 3 true fun _ => ?_; refine rP 4 false fun _ => ?_; refine rP 5 false fun _ => ?_; refine rP 6 false fun _ => ?_; refine rP 7 false fun _ => ?_; refine rP 8 false fun _ => ?_; refine rO 9 fun _ _ _ _ _ => ?_; refine k1 false [] c14 ?_; refine k2 hep ?_; refine rP 10 false fun _ => ?_; refine rP 11 false fun _ => ?_; refine rP 12 false fun _ => ?_; refine rP 13 false fun _ => ?_; refine rP 14 false fun _ => ?_; refine rE ?_) | (refine k1 false [] c83 ?_; refine k2 l2Same_ok ?_) | (focus (refine zs ?_ ?_; all_goals (intro hg; first | (exfalso; ((try simp [-List.getD_eq_getElem?_getD] at hg) <;> omega)) | ((first | subst hg | rw [hg] | skip); (focus (refine zj ?_ ?_; all_goals (intro hb; first | (exfalso; revert hb; decide) | ((try refine sA 38 ?_); (try refine sA 39 ?_); refine k1 false [] c83 ?_; refine k2 l2Same_ok ?_) | refine Sl.weak (Weak.refl _ _) ?_))))))) | (refine rD (id := 10) anyW [] ?_; refine rP 0 false fun _ => ?_; refine rP 1 false fun _ => ?_; refine rP 2 true fun _ => ?_; refine rP 3 false fun _ => ?_; refine rP 4 false fun _ => ?_; refine rP 5 false fun _ => ?_; refine rP 6 false fun _ => ?_; refine rP 7 false fun _ => ?_; refine rO 8 fun _ _ _ _ _ => ?_; refine k1 false [] c84 ?_; refine k2 l1Bytes_ok ?_; refine rP 9 false fun _ => ?_; refine rP 10 false fun _ => ?_; refine rP 11 false fun _ => ?_; refine rE ?_) | refine zI ?_ ?_ | (intro hb; (try simp [-List.getD_eq_getElem?_getD] at hb); (try (exfalso; omega))))
      exact rT
  · obtain rfl : c = false := by cases c with
      | false => rfl
      | true => exact absurd (hc.mp rfl).1 h1
    simp only [Bool.false_eq_true, if_false]
    have hD := dN0
    have hD := dN0
    refine sT 53 [.tmp 4, .tmp 5, .tmp 6] Try.func18 fun w0 S0 ρ0 φ0 => ?_
    repeat' (first | apply W.seq | apply W.skip | apply W.region | apply W.block | apply N.code | apply N.blk | apply Sl.nil | apply W.exit | apply W.ret | apply E.hit | apply E.code | apply E.fin | refine zM ?_ | apply O.i | refine sP ?_ | refine sQ fun _ => ?_ | refine zg fun _ => ?_ | refine sX fun _ => ?_ | refine sPf ?_ | refine sPt ?_ | (refine k1 false [] c82 ?_; refine k2 l2Low_ok ?_) | (refine rD (id := 7) anyW [] ?_; refine rP 0 false fun _ => ?_; refine rP 1 false fun _ => ?_; refine rP 2 false fun _ => ?_; refine rP 3 true fun _ => ?_; refine rP 4 false fun _ => ?_; refine rP 5 false fun _ => ?_; refine rP 6 false fun _ => ?_; refine rP 7 false fun _ => ?_; refine rP 8 false fun _ => ?_; refine rO 9 fun _ _ _ _ _ => ?_; refine k1 false [] c14 ?_; refine k2 hep ?_; refine rP 10 false fun _ => ?_; refine rP 11 false fun _ => ?_; refine rP 12 false fun _ => ?_; refine rP 13 false fun _ => ?_; refine rP 14 false fun _ => ?_; refine rE ?_) | (refine k1 false [] c83 ?_; refine k2 l2Same_ok ?_) | (focus (refine zs ?_ ?_; all_goals (intro hg; first | (exfalso; ((try simp [-List.getD_eq_getElem?_getD] at hg) <;> omega)) | ((first | subst hg | rw [hg] | skip); (focus (refine zj ?_ ?_; all_goals (intro hb; first | (exfalso; revert hb; decide) | ((try refine sA 38 ?_); (try refine sA 39 ?_); refine k1 false [] c83 ?_; refine k2 l2Same_ok ?_) | refine Sl.weak (Weak.refl _ _) ?_))))))) | (refine rD (id := 10) anyW [] ?_; refine rP 0 false fun _ => ?_; refine rP 1 false fun _ => ?_; refine rP 2 true fun _ => ?_; refine rP 3 false fun _ => ?_; refine rP 4 false fun _ => ?_; refine rP 5 false fun _ => ?_; refine rP 6 false fun _ => ?_; refine rP 7 false fun _ => ?_; refine rO 8 fun _ _ _ _ _ => ?_; refine k1 false [] c84 ?_; refine k2 l1Bytes_ok ?_; refine rP 9 false fun _ => ?_; refine rP 10 false fun _ => ?_; refine rP 11 false fun _ => ?_; refine rE ?_) | refine zI ?_ ?_ | (intro hb; (try simp [-List.getD_eq_getElem?_getD] at hb); (try (exfalso; omega))))
    exact rT
end Go.Proofs.Ytfmbifnbmlhhjaa

