import Derived.Test.YtfmbifnbmlhhjaaA8
namespace Go.Proofs.Ytfmbifnbmlhhjaa
open Go Go.Vcg Go.IntWalk
set_option maxRecDepth 100000
set_option maxHeartbeats 20000000
set_option linter.unusedSimpArgs false
set_option linter.unusedVariables false

theorem c128 : CallOk Try.prog 128 := ⟨_, Try.func128, rfl, by kernel_rfl⟩
theorem mnzOk : MnzOk Try.prog 170 22 := ⟨⟨_, Try.func170, by kernel_rfl, by kernel_rfl, by kernel_rfl, #[3], by kernel_rfl⟩, _, Try.underlying22⟩
theorem overRows_nil (rows : Go.Vcg.Rows) (i : Nat) : overRows rows i [] = rows := by unfold overRows; simp
theorem over_step (a y : List Int) (N : Nat) (d : List SV) (h : a.length + y.length ≤ N) : overRows (encI .u8 a ++ List.replicate (N - a.length) d) a.length (encI .u8 y) = encI .u8 (a ++ y) ++ List.replicate (N - (a ++ y).length) d := by
  unfold overRows
  rw [List.take_append_of_le_length (by simp [encI]), List.take_of_length_le (by simp [encI]), encI_append, encI_length, List.drop_append, encI_length, List.drop_of_length_le (by simp [encI]), List.nil_append, List.drop_replicate, List.length_append]
  congr 2
  omega
theorem over_step2 (a y : List Int) (N i : Nat) (d : List SV) (hi : i = a.length) (h : i + y.length ≤ N) : overRows (encI .u8 a ++ List.replicate (N - i) d) i (encI .u8 y) = encI .u8 (a ++ y) ++ List.replicate (N - (i + y.length)) d := by
  subst hi
  rw [over_step a y N d h, List.length_append]
theorem drop1_getD {α : Type} (xs : List α) (j : Nat) (d : α) : (xs.drop 1).getD j d = xs.getD (j + 1) d := by
  rw [List.getD_eq_getElem?_getD, List.getElem?_drop, List.getD_eq_getElem?_getD, Nat.add_comm]
theorem over_first (y : List Int) (N : Nat) (d : List SV) (h : y.length ≤ N) : overRows (List.replicate N d) 0 (encI .u8 y) = encI .u8 y ++ List.replicate (N - y.length) d := by
  have := over_step [] y N d (by simpa using h)
  simpa [encI_nil] using this
theorem flat_len (xs : List (List Int)) : xs.flatten.length = sumN List.length xs := by
  induction xs with
  | nil => rfl
  | cons x xs ih => rw [List.flatten_cons, List.length_append, ih]; rfl
theorem flat_step (xs : List (List Int)) (k : Nat) (h : k < xs.length) : (xs.take (k + 1)).flatten = (xs.take k).flatten ++ xs.getD k default := by
  rw [← List.take_append_getElem h, List.flatten_append, List.getD_eq_getElem?_getD, List.getElem?_eq_getElem h]
  simp
theorem fB_len (xs : List (List Int)) : RowsLen (encL fB xs) 1 = True := encL_rowsLen fB (fun _ => rfl) xs
theorem join_ok {xs : List (List Int)} (h2 : 2 ≤ xs.length := by exact pm) (h : totByteSS xs < 2 ^ 40 := by exact pm) : TSpec Try.prog 128 [] [.pd (encL fB xs), .pd []] false [] (.ow 1 (encI .u8 xs.flatten)) := by
  have hall : ∀ k, k < xs.length → (xs.getD k default).length < 2 ^ 40 := fun k hk => by have := sumN_get List.length xs k hk; unfold totByteSS at h; omega
  have hlen : totByteSS xs = xs.length + sumN List.length xs := rfl
  have hD := And.intro @fB_len (And.intro @encL_drop (And.intro @encL_take (And.intro @lDrop (And.intro @encI_nil (And.intro @overRows_nil (And.intro @lTakeNil (And.intro @Nat.zero_min (And.intro @Nat.min_eq_left (And.intro @over_first (And.intro @over_step2 (And.intro @flat_len (And.intro @drop1_getD (@Int.add_zero)))))))))))))
  refine sT 92 [.tmp 4] Try.func128 fun w0 S0 ρ0 φ0 => ?_
  repeat' (first | apply W.seq | apply W.skip | apply W.region | apply W.block | apply N.code | apply N.blk | apply Sl.nil | apply W.exit | apply W.ret | apply E.hit | apply E.code | apply E.fin | refine zM ?_ | apply O.i | refine sP ?_ | refine sQ fun _ => ?_ | refine sX fun _ => ?_ | refine sY fun _ => ?_ | refine sYA fun _ => ?_ | refine z3 fun _ => ?_ | refine zz ?_ | refine zI ?_ ?_ | (intro hb; (try simp [-List.getD_eq_getElem?_getD] at hb); (try (exfalso; omega))))
  · subst hb
    simp at h2
  refine W.iter (fun k => ⟨92, [(0, .pd (encL fB xs)), (1, .pd []), (5, .pl (.int .i64 (sumN List.length (xs.take k)))), (42, .pd (encL fB xs)), (43, .pl (.int .i64 xs.length)), (44, .pl (.int .i64 k))], [], []⟩) (fun k => True) (xs.length) (Weak.to (by first | rfl | (simp only [virtAt_n, virt_n]; rfl)) ?s1 ?b1 (by exact dfe)) ?h1 (fun k hk hH => ?body1)
  (try case' s1 => first | exact to1 | (simp +decide only [go_sem]; (try simp (disch := first | exact ds | fail) only [go_sem, Nat.reduceAdd, Nat.reduceMul, Nat.reduceSub, Int.reduceToNat, Int.reduceNeg, Nat.reduceLeDiff, hD]); (try simp only [SV.pl.injEq, SV.sl.injEq, Value.int.injEq, Bk.c.injEq, encI_inj, true_and]); (try omega))); (try case' b1 => first | exact to1 | (simp +decide only [go_sem]; (try simp (disch := first | exact ds | fail) only [go_sem, Nat.reduceAdd, Nat.reduceMul, Nat.reduceSub, Int.reduceToNat, Int.reduceNeg, Nat.reduceLeDiff, hD]); (try simp only [SV.pl.injEq, SV.sl.injEq, Value.int.injEq, Bk.c.injEq, encI_inj, true_and]); (try omega))); (try case' h1 => first | exact to1 | (simp +decide only [go_sem]; (try simp (disch := first | exact ds | fail) only [go_sem, Nat.reduceAdd, Nat.reduceMul, Nat.reduceSub, Int.reduceToNat, Int.reduceNeg, Nat.reduceLeDiff, hD]); (try simp only [SV.pl.injEq, SV.sl.injEq, Value.int.injEq, Bk.c.injEq, encI_inj, true_and]); (try omega)))
  have hsk := sumN_le List.length xs k
  repeat' (first | apply W.seq | apply W.skip | refine W.region (id := 0) ?_ | refine W.region (id := 1) ?_ | refine W.region (id := 2) ?_ | refine W.region (id := 3) ?_ | refine W.region (id := 4) ?_ | refine W.region (id := 5) ?_ | refine W.region (id := 6) ?_ | refine W.region (id := 7) ?_ | refine W.region (id := 8) ?_ | refine W.region (id := 9) ?_ | refine W.region (id := 10) ?_ | refine W.region (id := 11) ?_ | refine W.region (id := 13) ?_ | refine W.region (id := 14) ?_ | refine W.region (id := 15) ?_ | refine W.region (id := 16) ?_ | refine W.region (id := 18) ?_ | refine W.region (id := 19) ?_ | refine W.region (id := 20) ?_ | refine W.region (id := 21) ?_ | refine W.region (id := 22) ?_ | refine W.region (id := 23) ?_ | refine W.region (id := 24) ?_ | refine W.region (id := 25) ?_ | apply W.block | apply N.code | apply N.blk | apply Sl.nil | apply W.exit | apply W.ret | apply E.hit | apply E.code | apply E.fin | refine zM ?_ | apply O.i | refine sP ?_ | refine sQ fun _ => ?_ | refine sX fun _ => ?_ | refine sY fun _ => ?_ | refine sYA fun _ => ?_ | refine z3 fun _ => ?_ | refine zz ?_ | refine zI ?_ ?_ | (intro hb; (try simp [-List.getD_eq_getElem?_getD] at hb); (try (exfalso; omega))))
  · have hst := sumN_step List.length xs k hb
    have hsg := sumN_get List.length xs k hb
    have hak := hall k hb
    repeat' (first | apply W.seq | apply W.skip | apply W.region | apply W.block | apply N.code | apply N.blk | apply Sl.nil | apply W.exit | apply W.ret | apply E.hit | apply E.code | apply E.fin | refine zM ?_ | apply O.i | refine sP ?_ | refine sQ fun _ => ?_ | refine sX fun _ => ?_ | refine sY fun _ => ?_ | refine sYA fun _ => ?_ | refine z3 fun _ => ?_ | refine zz ?_ | refine zI ?_ ?_ | (intro hb; (try simp [-List.getD_eq_getElem?_getD] at hb); (try (exfalso; omega))))
    (refine N.fin ⟨by omega, ?h2, ?w2⟩; case' w2 => (refine Weak.to (by first | rfl | (simp only [virtAt_n, virt_n]; rfl)) ?s2 ?b2 (by exact dfe)))
    (try case' s2 => first | exact to1 | (simp +decide only [go_sem]; (try simp (disch := first | exact ds | fail) only [go_sem, Nat.reduceAdd, Nat.reduceMul, Nat.reduceSub, Int.reduceToNat, Int.reduceNeg, Nat.reduceLeDiff, hD]); (try simp only [SV.pl.injEq, SV.sl.injEq, Value.int.injEq, Bk.c.injEq, encI_inj, true_and]); (try omega))); (try case' b2 => first | exact to1 | (simp +decide only [go_sem]; (try simp (disch := first | exact ds | fail) only [go_sem, Nat.reduceAdd, Nat.reduceMul, Nat.reduceSub, Int.reduceToNat, Int.reduceNeg, Nat.reduceLeDiff, hD]); (try simp only [SV.pl.injEq, SV.sl.injEq, Value.int.injEq, Bk.c.injEq, encI_inj, true_and]); (try omega))); (try case' h2 => first | exact to1 | (simp +decide only [go_sem]; (try simp (disch := first | exact ds | fail) only [go_sem, Nat.reduceAdd, Nat.reduceMul, Nat.reduceSub, Int.reduceToNat, Int.reduceNeg, Nat.reduceLeDiff, hD]); (try simp only [SV.pl.injEq, SV.sl.injEq, Value.int.injEq, Bk.c.injEq, encI_inj, true_and]); (try omega)))
  · obtain rfl : k = xs.length := by omega
    have h0 : (xs.getD 0 default).length ≤ sumN List.length xs := by
      have := sumN_get List.length xs 0 (by omega)
      omega
    repeat' (first | apply W.seq | apply W.skip | apply W.region | apply W.block | apply N.code | apply N.blk | apply Sl.nil | apply W.exit | apply W.ret | apply E.hit | apply E.code | apply E.fin | refine zM ?_ | apply O.i | refine sP ?_ | refine sQ fun _ => ?_ | refine sX fun _ => ?_ | refine sY fun _ => ?_ | refine sYA fun _ => ?_ | refine z3 fun _ => ?_ | refine zz ?_ | refine zI ?_ ?_ | (intro hb; (try simp [-List.getD_eq_getElem?_getD] at hb); (try (exfalso; omega))))
    have e1 : (xs.take 1).flatten = xs.getD 0 default := by
      have := flat_step xs 0 (by omega)
      rw [this]
      rfl
    have e2 : sumN List.length (xs.take 1) = (xs.getD 0 default).length := by
      rw [← flat_len, e1]
    refine W.iter (fun j => ⟨92, [(1, .pd []), (8, .sl 60 0 (sumN List.length xs)), (9, .pl (.int .i64 (sumN List.length (xs.take (j + 1))))), (70, .pd (encL fB (xs.drop 1))), (71, .pl (.int .i64 (xs.length - 1 : Nat))), (72, .pl (.int .i64 j))], [(60, .c 1 (encI .u8 (xs.take (j + 1)).flatten ++ List.replicate (sumN List.length xs - sumN List.length (xs.take (j + 1))) [.dead]))], []⟩) (fun j => True) (xs.length - 1) (Weak.to (by first | rfl | (simp only [virtAt_n, virt_n]; rfl)) ?s3 ?b3 (by exact dfe)) ?h3 (fun j hj Hj => ?body3)
    (try case' s3 => first | exact to1 | (simp +decide only [go_sem]; (try simp (disch := first | exact ds | fail) only [go_sem, Nat.reduceAdd, Nat.reduceMul, Nat.reduceSub, Int.reduceToNat, Int.reduceNeg, Nat.reduceLeDiff, hD]); (try simp only [SV.pl.injEq, SV.sl.injEq, Value.int.injEq, Bk.c.injEq, encI_inj, true_and]); (try omega))); (try case' b3 => first | exact to1 | (simp +decide only [go_sem]; (try simp (disch := first | exact ds | fail) only [go_sem, Nat.reduceAdd, Nat.reduceMul, Nat.reduceSub, Int.reduceToNat, Int.reduceNeg, Nat.reduceLeDiff, hD]); (try simp only [SV.pl.injEq, SV.sl.injEq, Value.int.injEq, Bk.c.injEq, encI_inj, true_and]); (try omega))); (try case' h3 => first | exact to1 | (simp +decide only [go_sem]; (try simp (disch := first | exact ds | fail) only [go_sem, Nat.reduceAdd, Nat.reduceMul, Nat.reduceSub, Int.reduceToNat, Int.reduceNeg, Nat.reduceLeDiff, hD]); (try simp only [SV.pl.injEq, SV.sl.injEq, Value.int.injEq, Bk.c.injEq, encI_inj, true_and]); (try omega)))
    · rw [e1, e2]
    have hsk2 := sumN_le List.length xs (j + 1)
    repeat' (first | apply W.seq | apply W.skip | refine W.region (id := 0) ?_ | refine W.region (id := 1) ?_ | refine W.region (id := 2) ?_ | refine W.region (id := 3) ?_ | refine W.region (id := 4) ?_ | refine W.region (id := 5) ?_ | refine W.region (id := 6) ?_ | refine W.region (id := 7) ?_ | refine W.region (id := 8) ?_ | refine W.region (id := 9) ?_ | refine W.region (id := 10) ?_ | refine W.region (id := 11) ?_ | refine W.region (id := 12) ?_ | refine W.region (id := 13) ?_ | refine W.region (id := 14) ?_ | refine W.region (id := 15) ?_ | refine W.region (id := 16) ?_ | refine W.region (id := 17) ?_ | refine W.region (id := 18) ?_ | refine W.region (id := 19) ?_ | refine W.region (id := 20) ?_ | refine W.region (id := 21) ?_ | refine W.region (id := 23) ?_ | refine W.region (id := 24) ?_ | apply W.block | apply N.code | apply N.blk | apply Sl.nil | apply W.exit | apply W.ret | apply E.hit | apply E.code | apply E.fin | refine zM ?_ | apply O.i | refine sP ?_ | refine sQ fun _ => ?_ | refine sX fun _ => ?_ | refine sY fun _ => ?_ | refine sYA fun _ => ?_ | refine z3 fun _ => ?_ | refine zz ?_ | refine zI ?_ ?_ | (intro hb; (try simp [-List.getD_eq_getElem?_getD] at hb); (try (exfalso; omega))))
    · have hst := sumN_step List.length xs (j + 1) (by omega)
      have hsg := sumN_get List.length xs (j + 1) (by omega)
      have hak := hall (j + 1) (by omega)
      repeat' (first | apply W.seq | apply W.skip | apply W.region | apply W.block | apply N.code | apply N.blk | apply Sl.nil | apply W.exit | apply W.ret | apply E.hit | apply E.code | apply E.fin | refine zM ?_ | apply O.i | refine sP ?_ | refine sQ fun _ => ?_ | refine sX fun _ => ?_ | refine sY fun _ => ?_ | refine sYA fun _ => ?_ | refine z3 fun _ => ?_ | refine zz ?_ | refine zI ?_ ?_ | (intro hb; (try simp [-List.getD_eq_getElem?_getD] at hb); (try (exfalso; omega))))
      (refine N.fin ⟨by omega, ?h4, ?w4⟩; case' w4 => (refine Weak.to (by first | rfl | (simp only [virtAt_n, virt_n]; rfl)) ?s4 ?b4 (by exact dfe)))
      (try case' s4 => first | exact to1 | (simp +decide only [go_sem]; (try simp (disch := first | exact ds | fail) only [go_sem, Nat.reduceAdd, Nat.reduceMul, Nat.reduceSub, Int.reduceToNat, Int.reduceNeg, Nat.reduceLeDiff, hD]); (try simp only [SV.pl.injEq, SV.sl.injEq, Value.int.injEq, Bk.c.injEq, encI_inj, true_and]); (try omega))); (try case' b4 => first | exact to1 | (simp +decide only [go_sem]; (try simp (disch := first | exact ds | fail) only [go_sem, Nat.reduceAdd, Nat.reduceMul, Nat.reduceSub, Int.reduceToNat, Int.reduceNeg, Nat.reduceLeDiff, hD]); (try simp only [SV.pl.injEq, SV.sl.injEq, Value.int.injEq, Bk.c.injEq, encI_inj, true_and]); (try omega))); (try case' h4 => first | exact to1 | (simp +decide only [go_sem]; (try simp (disch := first | exact ds | fail) only [go_sem, Nat.reduceAdd, Nat.reduceMul, Nat.reduceSub, Int.reduceToNat, Int.reduceNeg, Nat.reduceLeDiff, hD]); (try simp only [SV.pl.injEq, SV.sl.injEq, Value.int.injEq, Bk.c.injEq, encI_inj, true_and]); (try omega)))
      rw [flat_step xs (j + 1) (by omega), hst]
    · obtain rfl : j = xs.length - 1 := by omega
      have e3 : xs.take (xs.length - 1 + 1) = xs := List.take_of_length_le (by omega)
      rw [e3, Nat.sub_self, List.replicate_zero, List.append_nil]
      repeat' (first | apply W.seq | apply W.skip | apply W.region | apply W.block | apply N.code | apply N.blk | apply Sl.nil | apply W.exit | apply W.ret | apply E.hit | apply E.code | apply E.fin | refine zM ?_ | apply O.i | refine sP ?_ | refine sQ fun _ => ?_ | refine sX fun _ => ?_ | refine sY fun _ => ?_ | refine sYA fun _ => ?_ | refine z3 fun _ => ?_ | refine zz ?_ | refine zI ?_ ?_ | (intro hb; (try simp [-List.getD_eq_getElem?_getD] at hb); (try (exfalso; omega))))
      exact rT
end Go.Proofs.Ytfmbifnbmlhhjaa

