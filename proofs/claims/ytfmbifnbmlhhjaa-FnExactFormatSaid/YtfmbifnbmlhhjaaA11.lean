import Derived.Test.YtfmbifnbmlhhjaaA10
namespace Go.Proofs.Ytfmbifnbmlhhjaa
open Go Go.Vcg Go.IntWalk
set_option maxRecDepth 100000
set_option maxHeartbeats 20000000
set_option linter.unusedSimpArgs false
set_option linter.unusedVariables false

theorem enc2 (k : IntKind) (a b : Int) : [[SV.pl (.int k a)], [SV.pl (.int k b)]] = encI k [a, b] := rfl
theorem enc4 (k : IntKind) (a b c d : Int) : [[SV.pl (.int k a)], [SV.pl (.int k b)], [SV.pl (.int k c)], [SV.pl (.int k d)]] = encI k [a, b, c, d] := rfl
theorem encI_cons (k : IntKind) (a : Int) (xs : List Int) : [SV.pl (.int k a)] :: encI k xs = encI k (a :: xs) := rfl
theorem l2Num4_ok {n : Int} (h : 0 ≤ n ∧ n < 2 ^ 62 := by exact pm) : TSpec Try.prog 75 [] [.pl (.int .i64 n), .pl (.int .i64 4)] false [] (.ow 1 (encI .u8 (lowB n 4))) := l2Num_ok (m := 4) h (by omega)
theorem l2Num2_ok {n : Int} (h : 0 ≤ n ∧ n < 2 ^ 62 := by exact pm) : TSpec Try.prog 75 [] [.pl (.int .i64 n), .pl (.int .i64 2)] false [] (.ow 1 (encI .u8 (lowB n 2))) := l2Num_ok (m := 2) h (by omega)
theorem spEncodePage_ok {k n : Int} {xs : List Int} {b : Bool} (hx : xs.length < 2 ^ 40 := by exact pm) (ho : okBytes xs := by exact pm) (hP : b = true ↔ headOk k n xs.length := by exact pm) : TSpec Try.prog 14 [] [.pl (.int .i64 k), .pl (.int .i64 n), .pd (encI .u8 xs)] false [] (.tu [.ow 1 (encI .u8 (if b then encPage k n xs else [])), .pl (.bool b)]) := by
  have hD := And.intro @encI_one (And.intro @encI_cons (And.intro @encI_append (And.intro @chunks_1 (And.intro @encI_dup (And.intro @encI_rowsLen (And.intro @encI_drop (@encI_take)))))))
  refine sT 56 [.tmp 6, .tmp 7] Try.func14 fun w0 S0 ρ0 φ0 => ?_
  repeat' (first | apply W.seq | apply W.skip | refine W.region (id := 0) ?_ | refine W.region (id := 1) ?_ | refine W.region (id := 2) ?_ | refine W.region (id := 4) ?_ | refine W.region (id := 5) ?_ | refine W.region (id := 6) ?_ | refine W.region (id := 7) ?_ | refine W.region (id := 8) ?_ | apply W.block | apply N.code | apply N.blk | apply Sl.nil | apply W.exit | apply W.ret | apply E.hit | apply E.code | apply E.fin | refine zM ?_ | apply O.i | refine sP ?_ | refine sQ fun _ => ?_ | refine zg fun _ => ?_ | refine sX fun _ => ?_ | (refine k1 false [] c75 ?_; (first | refine k2 l2Num4_ok ?_ | refine k2 l2Num2_ok ?_)) | (refine k1 false [] c76 ?_; refine k2 spCrc32_ok ?_) | refine zI ?_ ?_ | (intro hb; (try simp [-List.getD_eq_getElem?_getD] at hb); (try (exfalso; omega))))
  · obtain rfl : b = false := Bool.eq_false_iff.mpr fun e => by have := hP.mp e; unfold headOk at this; omega
    simp only [Bool.false_eq_true, if_false]
    exact rT
  · obtain rfl : b = true := hP.mpr (by unfold headOk; omega)
    simp only [if_true]
    repeat' (first | apply W.seq | apply W.skip | apply W.region | apply W.block | apply N.code | apply N.blk | apply Sl.nil | apply W.exit | apply W.ret | apply E.hit | apply E.code | apply E.fin | refine zM ?_ | apply O.i | refine sP ?_ | refine sQ fun _ => ?_ | refine zg fun _ => ?_ | refine sX fun _ => ?_ | (refine k1 false [] c75 ?_; (first | refine k2 l2Num4_ok ?_ | refine k2 l2Num2_ok ?_)) | (refine k1 false [] c76 ?_; refine k2 spCrc32_ok ?_) | refine zI ?_ ?_ | (intro hb; (try simp [-List.getD_eq_getElem?_getD] at hb); (try (exfalso; omega))))
    have hn : IntKind.u8.wrap n = n := u8_in n (by omega)
    have hhd : headB k n xs.length = lowB k 4 ++ [n, 0] ++ lowB xs.length 2 ++ [0, 0, 0, 0] := by
      unfold headB
      rw [hn, show lowB 0 4 = [0, 0, 0, 0] from rfl]
      simp only [List.append_assoc]
    (refine gR 44 2000000 ?_)
    refine W.iter (fun j => ⟨56, [(8, .sl 2000000 0 (12 + xs.length + j))], [(2000000, .c 1 (encI .u8 (headB k n xs.length ++ xs ++ List.replicate j 0)))], []⟩) (fun j => True) (240 - xs.length) (Weak.to (by first | rfl | (simp only [virtAt_n, virt_n]; rfl)) ?s1 ?b1 (by exact dfe)) ?h1 (fun j hj Hj => ?body1)
    (try case' s1 => first | exact to1 | (simp +decide only [go_sem]; (try simp (disch := first | exact ds | fail) only [go_sem, Nat.reduceAdd, Nat.reduceMul, Nat.reduceSub, Int.reduceToNat, Int.reduceNeg, Nat.reduceLeDiff, hD]); (try simp only [SV.pl.injEq, SV.sl.injEq, Value.int.injEq, Bk.c.injEq, encI_inj, true_and]); (try omega))); (try case' b1 => first | exact to1 | (simp +decide only [go_sem]; (try simp (disch := first | exact ds | fail) only [go_sem, Nat.reduceAdd, Nat.reduceMul, Nat.reduceSub, Int.reduceToNat, Int.reduceNeg, Nat.reduceLeDiff, hD]); (try simp only [SV.pl.injEq, SV.sl.injEq, Value.int.injEq, Bk.c.injEq, encI_inj, true_and]); (try omega))); (try case' h1 => first | exact to1 | (simp +decide only [go_sem]; (try simp (disch := first | exact ds | fail) only [go_sem, Nat.reduceAdd, Nat.reduceMul, Nat.reduceSub, Int.reduceToNat, Int.reduceNeg, Nat.reduceLeDiff, hD]); (try simp only [SV.pl.injEq, SV.sl.injEq, Value.int.injEq, Bk.c.injEq, encI_inj, true_and]); (try omega)))
    · rw [hhd, List.replicate_zero, List.append_nil]
    · simp only [List.length_append, lowB_length, List.length_cons, List.length_nil]
    have hl12 := headB_length k n xs.length
    have hD := And.intro @encI_one (And.intro @encI_cons (And.intro @encI_append (And.intro @chunks_1 (@headB_length))))
    repeat' (first | apply W.seq | apply W.skip | refine W.region (id := 0) ?_ | refine W.region (id := 1) ?_ | refine W.region (id := 2) ?_ | refine W.region (id := 3) ?_ | refine W.region (id := 4) ?_ | refine W.region (id := 5) ?_ | refine W.region (id := 6) ?_ | refine W.region (id := 7) ?_ | apply W.block | apply N.code | apply N.blk | apply Sl.nil | apply W.exit | apply W.ret | apply E.hit | apply E.code | apply E.fin | refine zM ?_ | apply O.i | refine sP ?_ | refine sQ fun _ => ?_ | refine zg fun _ => ?_ | refine sX fun _ => ?_ | (refine k1 false [] c75 ?_; (first | refine k2 l2Num4_ok ?_ | refine k2 l2Num2_ok ?_)) | (refine k1 false [] c76 ?_; refine k2 spCrc32_ok ?_) | refine zI ?_ ?_ | (intro hb; (try simp [-List.getD_eq_getElem?_getD] at hb); (try (exfalso; omega))))
    · (refine N.fin ⟨by omega, ?h2, ?w2⟩; case' w2 => (refine eR 50 2000000 ?_; refine Weak.to (by first | rfl | (simp only [virtAt_n, virt_n]; rfl)) ?s2 ?b2 (by exact dfe)))
      (try case' s2 => first | exact to1 | (simp +decide only [go_sem]; (try simp (disch := first | exact ds | fail) only [go_sem, Nat.reduceAdd, Nat.reduceMul, Nat.reduceSub, Int.reduceToNat, Int.reduceNeg, Nat.reduceLeDiff, hD]); (try simp only [SV.pl.injEq, SV.sl.injEq, Value.int.injEq, Bk.c.injEq, encI_inj, true_and]); (try omega))); (try case' b2 => first | exact to1 | (simp +decide only [go_sem]; (try simp (disch := first | exact ds | fail) only [go_sem, Nat.reduceAdd, Nat.reduceMul, Nat.reduceSub, Int.reduceToNat, Int.reduceNeg, Nat.reduceLeDiff, hD]); (try simp only [SV.pl.injEq, SV.sl.injEq, Value.int.injEq, Bk.c.injEq, encI_inj, true_and]); (try omega))); (try case' h2 => first | exact to1 | (simp +decide only [go_sem]; (try simp (disch := first | exact ds | fail) only [go_sem, Nat.reduceAdd, Nat.reduceMul, Nat.reduceSub, Int.reduceToNat, Int.reduceNeg, Nat.reduceLeDiff, hD]); (try simp only [SV.pl.injEq, SV.sl.injEq, Value.int.injEq, Bk.c.injEq, encI_inj, true_and]); (try omega)))
      · simp only [List.replicate_succ', List.append_assoc]
      · simp only [List.length_append, headB_length, List.length_replicate]
        first | rfl | (congr 1) | trace_state
    · obtain rfl : j = 240 - xs.length := by omega
      have hR : headB k n xs.length ++ xs ++ List.replicate (240 - xs.length) 0 = pageRest k n xs := by
        unfold pageRest
        rw [List.append_assoc]
      rw [hR]
      have hor := okBytes_rest k n ho
      have hrl := pageRest_length k n xs (by omega)
      have hcl : crcOf (pageRest k n xs) < 4294967296 := lt32 (crcAll_lt _ hor (by omega)) (by omega)
      rw [show 12 + xs.length + (240 - xs.length) = 252 by omega]
      have hD := And.intro @encI_one (And.intro @encI_cons (And.intro @encI_append (And.intro @encI_dup (And.intro @chunks_1 (@hrl)))))
      repeat' (first | apply W.seq | apply W.skip | apply W.region | apply W.block | apply N.code | apply N.blk | apply Sl.nil | apply W.exit | apply W.ret | apply E.hit | apply E.code | apply E.fin | refine zM ?_ | apply O.i | refine sP ?_ | refine sQ fun _ => ?_ | refine zg fun _ => ?_ | refine sX fun _ => ?_ | (refine k1 false [] c75 ?_; (first | refine k2 l2Num4_ok ?_ | refine k2 l2Num2_ok ?_)) | (refine k1 false [] c76 ?_; refine k2 spCrc32_ok ?_) | refine zI ?_ ?_ | (intro hb; (try simp [-List.getD_eq_getElem?_getD] at hb); (try (exfalso; omega))))
      unfold encPage
      exact rT
end Go.Proofs.Ytfmbifnbmlhhjaa

