import Derived.Test.YtcmnbefdbckhcaaB19
import Derived.Test.YtcmnbefdbckhcaaE2
namespace Go.Proofs.Ytcmnbefdbckhcaa
open Go Go.Vcg Go.IntWalk
set_option maxRecDepth 100000
set_option maxHeartbeats 4000000
set_option linter.unusedSimpArgs false
set_option linter.unusedVariables false
theorem toHashS_ok {xs : List H32} (h : xs.length < 2 ^ 40 := by exact pm) : TSpec Try.prog 31 [] [.pd (encL hR xs)] false [] (.ow 32 (encL hR xs)) := by
  have hD := dN0
  refine sT 23 [.tmp 2] Try.func31 fun w0 S0 ρ0 φ0 => ?_
  repeat' (first | apply W.seq | apply W.skip | apply W.region | apply W.block | apply N.code | apply N.blk | apply Sl.nil | apply W.exit | apply W.ret | apply E.hit | apply E.code | apply E.fin | refine zM ?_ | apply O.i | refine sP ?_ | refine sQ fun _ => ?_ | refine sX fun _ => ?_ | (refine k1 false [] c76 ?_; refine k2 toHash_ok ?_) | refine zI ?_ ?_ | (intro hb; (try simp [-List.getD_eq_getElem?_getD] at hb); (try (exfalso; omega))))
  refine W.iter (fun k => ⟨23, [(0, .pd (encL hR xs)), (3, .sl 7 0 xs.length), (4, .pl (.int .i64 k))], [(7, .c 32 (encL hR (xs.take k) ++ List.replicate (xs.length - k) (encA .u8 (List.replicate 32 0))))]⟩) (fun k => True) (xs.length) (Weak.to rfl ?s1 ?b1) ?h1 (fun k hk hH => ?body1)
  (try case' s1 => first | exact to1 | (simp +decide only [go_sem]; (try simp (disch := first | exact ds | fail) only [go_sem, Nat.reduceAdd, Nat.reduceMul, Nat.reduceSub, Int.reduceToNat, Int.reduceNeg, Nat.reduceLeDiff, hD]); (try simp only [SV.pl.injEq, SV.sl.injEq, Value.int.injEq, Bk.c.injEq, encI_inj, true_and]); (try omega))); (try case' b1 => first | exact to1 | (simp +decide only [go_sem]; (try simp (disch := first | exact ds | fail) only [go_sem, Nat.reduceAdd, Nat.reduceMul, Nat.reduceSub, Int.reduceToNat, Int.reduceNeg, Nat.reduceLeDiff, hD]); (try simp only [SV.pl.injEq, SV.sl.injEq, Value.int.injEq, Bk.c.injEq, encI_inj, true_and]); (try omega))); (try case' h1 => first | exact to1 | (simp +decide only [go_sem]; (try simp (disch := first | exact ds | fail) only [go_sem, Nat.reduceAdd, Nat.reduceMul, Nat.reduceSub, Int.reduceToNat, Int.reduceNeg, Nat.reduceLeDiff, hD]); (try simp only [SV.pl.injEq, SV.sl.injEq, Value.int.injEq, Bk.c.injEq, encI_inj, true_and]); (try omega)))
  repeat' (first | apply W.seq | apply W.skip | apply W.region | apply W.block | apply N.code | apply N.blk | apply Sl.nil | apply W.exit | apply W.ret | apply E.hit | apply E.code | apply E.fin | refine zM ?_ | apply O.i | refine sP ?_ | refine sQ fun _ => ?_ | refine sX fun _ => ?_ | (refine k1 false [] c76 ?_; refine k2 toHash_ok ?_) | refine zI ?_ ?_ | (intro hb; (try simp [-List.getD_eq_getElem?_getD] at hb); (try (exfalso; omega))))
  · (refine N.fin ⟨by omega, ?h2, ?w2⟩; case' w2 => (refine Weak.to rfl ?s2 ?b2))
    (try case' s2 => first | exact to1 | (simp +decide only [go_sem]; (try simp (disch := first | exact ds | fail) only [go_sem, Nat.reduceAdd, Nat.reduceMul, Nat.reduceSub, Int.reduceToNat, Int.reduceNeg, Nat.reduceLeDiff, hD]); (try simp only [SV.pl.injEq, SV.sl.injEq, Value.int.injEq, Bk.c.injEq, encI_inj, true_and]); (try omega))); (try case' b2 => first | exact to1 | (simp +decide only [go_sem]; (try simp (disch := first | exact ds | fail) only [go_sem, Nat.reduceAdd, Nat.reduceMul, Nat.reduceSub, Int.reduceToNat, Int.reduceNeg, Nat.reduceLeDiff, hD]); (try simp only [SV.pl.injEq, SV.sl.injEq, Value.int.injEq, Bk.c.injEq, encI_inj, true_and]); (try omega))); (try case' h2 => first | exact to1 | (simp +decide only [go_sem]; (try simp (disch := first | exact ds | fail) only [go_sem, Nat.reduceAdd, Nat.reduceMul, Nat.reduceSub, Int.reduceToNat, Int.reduceNeg, Nat.reduceLeDiff, hD]); (try simp only [SV.pl.injEq, SV.sl.injEq, Value.int.injEq, Bk.c.injEq, encI_inj, true_and]); (try omega)))
    exact to_stepL hR _ xs k (by omega)
  · obtain rfl : k = xs.length := by omega
    rw [to_allL]
    exact rT
theorem eqHashS_ok {xs ys : List H32} (h : xs.length < 2 ^ 40 := by exact pm) : TSpec Try.prog 33 [] [.pd (encL hR xs), .pd (encL hR ys)] false [] (.pl (.bool (decide (xs = ys)))) := by
  have hD := dN0
  refine sT 27 [.tmp 4] Try.func33 fun w0 S0 ρ0 φ0 => ?_
  repeat' (first | apply W.seq | apply W.skip | apply W.region | apply W.block | apply N.code | apply N.blk | apply Sl.nil | apply W.exit | apply W.ret | apply E.hit | apply E.code | apply E.fin | refine zM ?_ | apply O.i | refine sP ?_ | refine sQ fun _ => ?_ | (refine rD (id := 6) anyW [] ?_; refine rP 0 false fun _ => ?_; refine rP 1 false fun _ => ?_; refine rP 2 false fun _ => ?_; refine rP 3 true fun _ => ?_; refine rP 4 false fun _ => ?_; refine rP 5 false fun _ => ?_; refine rP 6 false fun _ => ?_; refine rP 7 true fun _ => ?_; refine rO 8 fun _ _ _ _ _ => ?_; refine k1 false [] c18 ?_; refine k2 eqH_ok ?_; refine rP 9 false fun _ => ?_; refine rE ?_) | refine zI ?_ ?_ | (intro hb; (try simp [-List.getD_eq_getElem?_getD] at hb); (try (exfalso; omega))))
  · have hne : decide (xs = ys) = false := decide_eq_false fun e => hb (by rw [e])
    rw [hne]
    exact rT
  · refine W.iter (fun k => ⟨27, [(0, .pd (encL hR xs)), (1, .pd (encL hR ys)), (5, .pl (.int .i64 k))], []⟩) (fun k => xs.take k = ys.take k) (xs.length) (Weak.to rfl ?s3 ?b3) ?h3 (fun k hk hH => ?body3)
    (try case' s3 => first | exact to1 | (simp +decide only [go_sem]; (try simp (disch := first | exact ds | fail) only [go_sem, Nat.reduceAdd, Nat.reduceMul, Nat.reduceSub, Int.reduceToNat, Int.reduceNeg, Nat.reduceLeDiff, hD]); (try simp only [SV.pl.injEq, SV.sl.injEq, Value.int.injEq, Bk.c.injEq, encI_inj, true_and]); (try omega))); (try case' b3 => first | exact to1 | (simp +decide only [go_sem]; (try simp (disch := first | exact ds | fail) only [go_sem, Nat.reduceAdd, Nat.reduceMul, Nat.reduceSub, Int.reduceToNat, Int.reduceNeg, Nat.reduceLeDiff, hD]); (try simp only [SV.pl.injEq, SV.sl.injEq, Value.int.injEq, Bk.c.injEq, encI_inj, true_and]); (try omega))); (try case' h3 => first | exact to1 | (simp +decide only [go_sem]; (try simp (disch := first | exact ds | fail) only [go_sem, Nat.reduceAdd, Nat.reduceMul, Nat.reduceSub, Int.reduceToNat, Int.reduceNeg, Nat.reduceLeDiff, hD]); (try simp only [SV.pl.injEq, SV.sl.injEq, Value.int.injEq, Bk.c.injEq, encI_inj, true_and]); (try omega)))
    repeat' (first | apply W.seq | apply W.skip | apply W.region | apply W.block | apply N.code | apply N.blk | apply Sl.nil | apply W.exit | apply W.ret | apply E.hit | apply E.code | apply E.fin | refine zM ?_ | apply O.i | refine sP ?_ | refine sQ fun _ => ?_ | (refine rD (id := 6) anyW [] ?_; refine rP 0 false fun _ => ?_; refine rP 1 false fun _ => ?_; refine rP 2 false fun _ => ?_; refine rP 3 true fun _ => ?_; refine rP 4 false fun _ => ?_; refine rP 5 false fun _ => ?_; refine rP 6 false fun _ => ?_; refine rP 7 true fun _ => ?_; refine rO 8 fun _ _ _ _ _ => ?_; refine k1 false [] c18 ?_; refine k2 eqH_ok ?_; refine rP 9 false fun _ => ?_; refine rE ?_) | refine zI ?_ ?_ | (intro hb; (try simp [-List.getD_eq_getElem?_getD] at hb); (try (exfalso; omega))))
    · rw [decide_ne_of_take default k hb]
      exact rT
    · (refine N.fin ⟨by omega, ?h4, ?w4⟩; case' w4 => (refine Weak.to rfl ?s4 ?b4))
      (try case' s4 => first | exact to1 | (simp +decide only [go_sem]; (try simp (disch := first | exact ds | fail) only [go_sem, Nat.reduceAdd, Nat.reduceMul, Nat.reduceSub, Int.reduceToNat, Int.reduceNeg, Nat.reduceLeDiff, hD]); (try simp only [SV.pl.injEq, SV.sl.injEq, Value.int.injEq, Bk.c.injEq, encI_inj, true_and]); (try omega))); (try case' b4 => first | exact to1 | (simp +decide only [go_sem]; (try simp (disch := first | exact ds | fail) only [go_sem, Nat.reduceAdd, Nat.reduceMul, Nat.reduceSub, Int.reduceToNat, Int.reduceNeg, Nat.reduceLeDiff, hD]); (try simp only [SV.pl.injEq, SV.sl.injEq, Value.int.injEq, Bk.c.injEq, encI_inj, true_and]); (try omega))); (try case' h4 => first | exact to1 | (simp +decide only [go_sem]; (try simp (disch := first | exact ds | fail) only [go_sem, Nat.reduceAdd, Nat.reduceMul, Nat.reduceSub, Int.reduceToNat, Int.reduceNeg, Nat.reduceLeDiff, hD]); (try simp only [SV.pl.injEq, SV.sl.injEq, Value.int.injEq, Bk.c.injEq, encI_inj, true_and]); (try omega)))
      exact take_eq_step default xs ys k (by omega) (by omega) hH hb
    · rw [decide_eq_true (take_all_eq hH (by omega) (by omega))]
      exact rT
theorem szHashS_ok {xs : List H32} {left : Int} (h : xs.length < 2 ^ 50 := by exact pm) (hp : 0 ≤ left ∧ left < 2 ^ 62 := by exact pm) : TSpec Try.prog 29 [] [.pd (encL hR xs), .pl (.int .i64 left)] false [] (.pl (.int .i64 (if left < xs.length then -1 else left - xs.length))) := by
  have hD := dN0
  refine sT 12 [.tmp 4] Try.func29 fun w0 S0 ρ0 φ0 => ?_
  repeat' (first | apply W.seq | apply W.skip | apply W.region | apply W.block | apply N.code | apply N.blk | apply Sl.nil | apply W.exit | apply W.ret | apply E.hit | apply E.code | apply E.fin | refine zM ?_ | apply O.i | refine sP ?_ | refine sQ fun _ => ?_ | refine zI ?_ ?_ | (intro hb; (try simp [-List.getD_eq_getElem?_getD] at hb); (try (exfalso; omega))))
  · rw [if_pos (by omega)]
    exact rT
  · rw [if_neg (by omega)]
    exact rT
theorem lawMerkleRoot_ok {xs : List H32} (h : xs.length < 2 ^ 50 := by exact pm) : TSpec Try.prog 6 [] [.pd (encL hR xs)] false [] (.pl (.bool true)) := by
  by_cases hl : xs.length < 2 ^ 40
  · obtain ⟨d, h0, h1⟩ : ∃ d : H32, (xs.length = 0 ∨ 1000 < xs.length → d = default) ∧ (1 ≤ xs.length ∧ xs.length ≤ 1000 → ∃ n, Lad n xs d) := by
      by_cases e : 1 ≤ xs.length ∧ xs.length ≤ 1000
      · obtain ⟨n, r, h⟩ := lad_ex xs.length xs (Nat.le_refl _) e.1
        exact ⟨r, fun g => absurd e (by omega), fun _ => ⟨n, h⟩⟩
      · exact ⟨default, fun _ => rfl, fun g => absurd g e⟩
    have hsp := spMerkle_ok hl h0 h1
    have him := imMerkle_ok hl h0 h1
    have hD := @decide_true
    refine sT 28 [.tmp 2] Try.func6 fun w0 S0 ρ0 φ0 => ?_
    repeat' (first | apply W.seq | apply W.skip | apply W.region | apply W.block | apply N.code | apply N.blk | apply Sl.nil | apply W.exit | apply W.ret | apply E.hit | apply E.code | apply E.fin | refine zM ?_ | apply O.i | refine sP ?_ | refine sQ fun _ => ?_ | refine sX fun _ => ?_ | (refine k1 false [] c29 ?_; refine k2 szHashS_ok ?_) | (refine k1 false [] c31 ?_; refine k2 toHashS_ok ?_) | (refine k1 false [] c30 ?_; refine k2 hsp ?_) | (refine k1 false [] c32 ?_; refine k2 him ?_) | (refine k1 false [] c18 ?_; refine k2 eqH_ok ?_) | (refine k1 false [] c33 ?_; refine k2 eqHashS_ok ?_) | refine zI ?_ ?_ | (intro hb; (try simp [-List.getD_eq_getElem?_getD] at hb); (try (exfalso; omega))))
    all_goals exact rT
  · have hD := @decide_true
    refine sT 28 [.tmp 2] Try.func6 fun w0 S0 ρ0 φ0 => ?_
    repeat' (first | apply W.seq | apply W.skip | apply W.region | apply W.block | apply N.code | apply N.blk | apply Sl.nil | apply W.exit | apply W.ret | apply E.hit | apply E.code | apply E.fin | refine zM ?_ | apply O.i | refine sP ?_ | refine sQ fun _ => ?_ | refine sX fun _ => ?_ | (refine k1 false [] c29 ?_; refine k2 szHashS_ok ?_) | (refine k1 false [] c31 ?_; refine k2 toHashS_ok ?_) | (refine k1 false [] c30 ?_; refine k2 hsp ?_) | (refine k1 false [] c32 ?_; refine k2 him ?_) | (refine k1 false [] c18 ?_; refine k2 eqH_ok ?_) | (refine k1 false [] c33 ?_; refine k2 eqHashS_ok ?_) | refine zI ?_ ?_ | (intro hb; (try simp [-List.getD_eq_getElem?_getD] at hb); (try (exfalso; omega))))
    all_goals exact rT
theorem enHashS {H : Type} {enc : TypeId × Value → H} {w : World} : EncP enc Try.prog w 40 (fun xs => [.pd (encL hR xs)]) (fun xs => xs.length < 2 ^ 50) :=
  (EncP.slice Try.underlying40 (of_decide_eq_true (by kernel_rfl)) (of_decide_eq_true (by kernel_rfl)) enHash).imp fun xs h => by have := h.1; unfold reachBytes at this; omega
end Go.Proofs.Ytcmnbefdbckhcaa

