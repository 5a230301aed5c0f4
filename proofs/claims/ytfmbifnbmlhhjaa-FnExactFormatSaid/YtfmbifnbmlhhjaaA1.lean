import Derived.Test.YtfmbifnbmlhhjaaTy
import Derived.Test.YtfmbifnbmlhhjaaUc
namespace Go.Proofs.Ytfmbifnbmlhhjaa
open Go Go.Vcg Go.IntWalk
set_option maxRecDepth 100000
set_option maxHeartbeats 20000000
set_option linter.unusedSimpArgs false
set_option linter.unusedVariables false

theorem c60 : CallOk Try.prog 60 := ⟨_, Try.func60, rfl, by kernel_rfl⟩
theorem c28 : CallOk Try.prog 28 := ⟨_, Try.func28, rfl, by kernel_rfl⟩
theorem c29 : CallOk Try.prog 29 := ⟨_, Try.func29, rfl, by kernel_rfl⟩
theorem c30 : CallOk Try.prog 30 := ⟨_, Try.func30, rfl, by kernel_rfl⟩
theorem c153 : CallOk Try.prog 153 := ⟨_, Try.func153, rfl, by kernel_rfl⟩
theorem toByteS_ok {xs : List Int} (h : xs.length < 2 ^ 40 := by exact pm) : TSpec Try.prog 60 [] [.pd (encI .u8 xs)] false [] (.ow 1 (encI .u8 xs)) := by
  have hD := dN0
  refine sT 22 [.tmp 2] Try.func60 fun w0 S0 ρ0 φ0 => ?_
  repeat' (first | apply W.seq | apply W.skip | apply W.region | apply W.block | apply N.code | apply N.blk | apply Sl.nil | apply W.exit | apply W.ret | apply E.hit | apply E.code | apply E.fin | refine zM ?_ | apply O.i | refine sP ?_ | refine sQ fun _ => ?_ | refine sX fun _ => ?_ | refine zI ?_ ?_ | (intro hb; (try simp [-List.getD_eq_getElem?_getD] at hb); (try (exfalso; omega))))
  refine W.iter (fun k => ⟨22, [(0, .pd (encI .u8 xs)), (3, .sl 7 0 xs.length), (4, .pl (.int .i64 k))], [(7, .c 1 (encI .u8 (xs.take k ++ List.replicate (xs.length - k) 0)))], []⟩) (fun k => True) (xs.length) (Weak.to (by first | rfl | (simp only [virtAt_n, virt_n]; rfl)) ?s1 ?b1 (by exact dfe)) ?h1 (fun k hk hH => ?body1)
  (try case' s1 => first | exact to1 | (simp +decide only [go_sem]; (try simp (disch := first | exact ds | fail) only [go_sem, Nat.reduceAdd, Nat.reduceMul, Nat.reduceSub, Int.reduceToNat, Int.reduceNeg, Nat.reduceLeDiff, hD]); (try simp only [SV.pl.injEq, SV.sl.injEq, Value.int.injEq, Bk.c.injEq, encI_inj, true_and]); (try omega))); (try case' b1 => first | exact to1 | (simp +decide only [go_sem]; (try simp (disch := first | exact ds | fail) only [go_sem, Nat.reduceAdd, Nat.reduceMul, Nat.reduceSub, Int.reduceToNat, Int.reduceNeg, Nat.reduceLeDiff, hD]); (try simp only [SV.pl.injEq, SV.sl.injEq, Value.int.injEq, Bk.c.injEq, encI_inj, true_and]); (try omega))); (try case' h1 => first | exact to1 | (simp +decide only [go_sem]; (try simp (disch := first | exact ds | fail) only [go_sem, Nat.reduceAdd, Nat.reduceMul, Nat.reduceSub, Int.reduceToNat, Int.reduceNeg, Nat.reduceLeDiff, hD]); (try simp only [SV.pl.injEq, SV.sl.injEq, Value.int.injEq, Bk.c.injEq, encI_inj, true_and]); (try omega)))
  repeat' (first | apply W.seq | apply W.skip | apply W.region | apply W.block | apply N.code | apply N.blk | apply Sl.nil | apply W.exit | apply W.ret | apply E.hit | apply E.code | apply E.fin | refine zM ?_ | apply O.i | refine sP ?_ | refine sQ fun _ => ?_ | refine sX fun _ => ?_ | refine zI ?_ ?_ | (intro hb; (try simp [-List.getD_eq_getElem?_getD] at hb); (try (exfalso; omega))))
  · (refine N.fin ⟨by omega, ?h2, ?w2⟩; case' w2 => (refine Weak.to (by first | rfl | (simp only [virtAt_n, virt_n]; rfl)) ?s2 ?b2 (by exact dfe)))
    (try case' s2 => first | exact to1 | (simp +decide only [go_sem]; (try simp (disch := first | exact ds | fail) only [go_sem, Nat.reduceAdd, Nat.reduceMul, Nat.reduceSub, Int.reduceToNat, Int.reduceNeg, Nat.reduceLeDiff, hD]); (try simp only [SV.pl.injEq, SV.sl.injEq, Value.int.injEq, Bk.c.injEq, encI_inj, true_and]); (try omega))); (try case' b2 => first | exact to1 | (simp +decide only [go_sem]; (try simp (disch := first | exact ds | fail) only [go_sem, Nat.reduceAdd, Nat.reduceMul, Nat.reduceSub, Int.reduceToNat, Int.reduceNeg, Nat.reduceLeDiff, hD]); (try simp only [SV.pl.injEq, SV.sl.injEq, Value.int.injEq, Bk.c.injEq, encI_inj, true_and]); (try omega))); (try case' h2 => first | exact to1 | (simp +decide only [go_sem]; (try simp (disch := first | exact ds | fail) only [go_sem, Nat.reduceAdd, Nat.reduceMul, Nat.reduceSub, Int.reduceToNat, Int.reduceNeg, Nat.reduceLeDiff, hD]); (try simp only [SV.pl.injEq, SV.sl.injEq, Value.int.injEq, Bk.c.injEq, encI_inj, true_and]); (try omega)))
    exact take_step 0 0 xs k (by omega)
  · obtain rfl : k = xs.length := by omega
    simp only [Nat.sub_self, List.take_length, List.replicate_zero, List.append_nil]
    exact rT

theorem eqByteS_ok {xs ys : List Int} (h : xs.length < 2 ^ 40 := by exact pm) : TSpec Try.prog 28 [] [.pd (encI .u8 xs), .pd (encI .u8 ys)] false [] (.pl (.bool (decide (xs = ys)))) := by
  have hD := dN0
  refine sT 26 [.tmp 4] Try.func28 fun w0 S0 ρ0 φ0 => ?_
  repeat' (first | apply W.seq | apply W.skip | apply W.region | apply W.block | apply N.code | apply N.blk | apply Sl.nil | apply W.exit | apply W.ret | apply E.hit | apply E.code | apply E.fin | refine zM ?_ | apply O.i | refine sP ?_ | refine sQ fun _ => ?_ | (refine rD (id := 6) anyW [] ?_; refine rP 0 false fun _ => ?_; refine rP 1 false fun _ => ?_; refine rP 2 false fun _ => ?_; refine rP 3 true fun _ => ?_; refine rP 4 false fun _ => ?_; refine rP 5 false fun _ => ?_; refine rP 6 false fun _ => ?_; refine rP 7 true fun _ => ?_; refine rP 8 false fun _ => ?_; refine rE ?_) | refine zI ?_ ?_ | (intro hb; (try simp [-List.getD_eq_getElem?_getD] at hb); (try (exfalso; omega))))
  · have hne : decide (xs = ys) = false := decide_eq_false fun e => hb (by rw [e])
    rw [hne]
    exact rT
  · refine W.iter (fun k => ⟨26, [(0, .pd (encI .u8 xs)), (1, .pd (encI .u8 ys)), (5, .pl (.int .i64 k))], [], []⟩) (fun k => xs.take k = ys.take k) (xs.length) (Weak.to (by first | rfl | (simp only [virtAt_n, virt_n]; rfl)) ?s3 ?b3 (by exact dfe)) ?h3 (fun k hk hH => ?body3)
    (try case' s3 => first | exact to1 | (simp +decide only [go_sem]; (try simp (disch := first | exact ds | fail) only [go_sem, Nat.reduceAdd, Nat.reduceMul, Nat.reduceSub, Int.reduceToNat, Int.reduceNeg, Nat.reduceLeDiff, hD]); (try simp only [SV.pl.injEq, SV.sl.injEq, Value.int.injEq, Bk.c.injEq, encI_inj, true_and]); (try omega))); (try case' b3 => first | exact to1 | (simp +decide only [go_sem]; (try simp (disch := first | exact ds | fail) only [go_sem, Nat.reduceAdd, Nat.reduceMul, Nat.reduceSub, Int.reduceToNat, Int.reduceNeg, Nat.reduceLeDiff, hD]); (try simp only [SV.pl.injEq, SV.sl.injEq, Value.int.injEq, Bk.c.injEq, encI_inj, true_and]); (try omega))); (try case' h3 => first | exact to1 | (simp +decide only [go_sem]; (try simp (disch := first | exact ds | fail) only [go_sem, Nat.reduceAdd, Nat.reduceMul, Nat.reduceSub, Int.reduceToNat, Int.reduceNeg, Nat.reduceLeDiff, hD]); (try simp only [SV.pl.injEq, SV.sl.injEq, Value.int.injEq, Bk.c.injEq, encI_inj, true_and]); (try omega)))
    repeat' (first | apply W.seq | apply W.skip | apply W.region | apply W.block | apply N.code | apply N.blk | apply Sl.nil | apply W.exit | apply W.ret | apply E.hit | apply E.code | apply E.fin | refine zM ?_ | apply O.i | refine sP ?_ | refine sQ fun _ => ?_ | (refine rD (id := 6) anyW [] ?_; refine rP 0 false fun _ => ?_; refine rP 1 false fun _ => ?_; refine rP 2 false fun _ => ?_; refine rP 3 true fun _ => ?_; refine rP 4 false fun _ => ?_; refine rP 5 false fun _ => ?_; refine rP 6 false fun _ => ?_; refine rP 7 true fun _ => ?_; refine rP 8 false fun _ => ?_; refine rE ?_) | refine zI ?_ ?_ | (intro hb; (try simp [-List.getD_eq_getElem?_getD] at hb); (try (exfalso; omega))))
    · have hne : decide (xs = ys) = false := decide_eq_false fun e => hb (by rw [e])
      rw [hne]
      exact rT
    · (refine N.fin ⟨by omega, ?h4, ?w4⟩; case' w4 => (refine Weak.to (by first | rfl | (simp only [virtAt_n, virt_n]; rfl)) ?s4 ?b4 (by exact dfe)))
      (try case' s4 => first | exact to1 | (simp +decide only [go_sem]; (try simp (disch := first | exact ds | fail) only [go_sem, Nat.reduceAdd, Nat.reduceMul, Nat.reduceSub, Int.reduceToNat, Int.reduceNeg, Nat.reduceLeDiff, hD]); (try simp only [SV.pl.injEq, SV.sl.injEq, Value.int.injEq, Bk.c.injEq, encI_inj, true_and]); (try omega))); (try case' b4 => first | exact to1 | (simp +decide only [go_sem]; (try simp (disch := first | exact ds | fail) only [go_sem, Nat.reduceAdd, Nat.reduceMul, Nat.reduceSub, Int.reduceToNat, Int.reduceNeg, Nat.reduceLeDiff, hD]); (try simp only [SV.pl.injEq, SV.sl.injEq, Value.int.injEq, Bk.c.injEq, encI_inj, true_and]); (try omega))); (try case' h4 => first | exact to1 | (simp +decide only [go_sem]; (try simp (disch := first | exact ds | fail) only [go_sem, Nat.reduceAdd, Nat.reduceMul, Nat.reduceSub, Int.reduceToNat, Int.reduceNeg, Nat.reduceLeDiff, hD]); (try simp only [SV.pl.injEq, SV.sl.injEq, Value.int.injEq, Bk.c.injEq, encI_inj, true_and]); (try omega)))
      exact take_eq_step 0 xs ys k (by omega) (by omega) hH (by simpa using hb)
    · rw [decide_eq_true (take_all_eq hH (by omega) (by omega))]
      exact rT

theorem markByteS_ok {xs : List Int} {b : Int} (h : xs.length < 2 ^ 40 := by exact pm) (hp : 0 ≤ b ∧ b + xs.length < 2 ^ 62 := by exact pm) : TSpec Try.prog 29 [(1000000, .c 1 (encI .u8 xs))] [.sl 1000000 0 xs.length, .pl (.int .i64 b)] false [(1000000, .c 1 (encI .u8 (markL .u8 b xs.length)))] (.pl (.int .i64 (b + xs.length))) := by
  have hD := dN0
  refine sT 20 [.tmp 4] Try.func29 fun w0 S0 ρ0 φ0 => ?_
  repeat' (first | apply W.seq | apply W.skip | apply W.region | apply W.block | apply N.code | apply N.blk | apply Sl.nil | apply W.exit | apply W.ret | apply E.hit | apply E.code | apply E.fin | refine zM ?_ | apply O.i | refine sP ?_ | refine sQ fun _ => ?_ | refine sX fun _ => ?_ | refine zI ?_ ?_ | (intro hb; (try simp [-List.getD_eq_getElem?_getD] at hb); (try (exfalso; omega))))
  refine W.iter (fun k => ⟨20, [(0, .sl 1000000 0 xs.length), (1, .pl (.int .i64 (b + k))), (5, .pl (.int .i64 k))], [(1000000, .c 1 (encI .u8 ((markL .u8 b xs.length).take k ++ xs.drop k)))], []⟩) (fun k => True) (xs.length) (Weak.to (by first | rfl | (simp only [virtAt_n, virt_n]; rfl)) ?s5 ?b5 (by exact dfe)) ?h5 (fun k hk hH => ?body5)
  (try case' s5 => first | exact to1 | (simp +decide only [go_sem]; (try simp (disch := first | exact ds | fail) only [go_sem, Nat.reduceAdd, Nat.reduceMul, Nat.reduceSub, Int.reduceToNat, Int.reduceNeg, Nat.reduceLeDiff, hD]); (try simp only [SV.pl.injEq, SV.sl.injEq, Value.int.injEq, Bk.c.injEq, encI_inj, true_and]); (try omega))); (try case' b5 => first | exact to1 | (simp +decide only [go_sem]; (try simp (disch := first | exact ds | fail) only [go_sem, Nat.reduceAdd, Nat.reduceMul, Nat.reduceSub, Int.reduceToNat, Int.reduceNeg, Nat.reduceLeDiff, hD]); (try simp only [SV.pl.injEq, SV.sl.injEq, Value.int.injEq, Bk.c.injEq, encI_inj, true_and]); (try omega))); (try case' h5 => first | exact to1 | (simp +decide only [go_sem]; (try simp (disch := first | exact ds | fail) only [go_sem, Nat.reduceAdd, Nat.reduceMul, Nat.reduceSub, Int.reduceToNat, Int.reduceNeg, Nat.reduceLeDiff, hD]); (try simp only [SV.pl.injEq, SV.sl.injEq, Value.int.injEq, Bk.c.injEq, encI_inj, true_and]); (try omega)))
  repeat' (first | apply W.seq | apply W.skip | apply W.region | apply W.block | apply N.code | apply N.blk | apply Sl.nil | apply W.exit | apply W.ret | apply E.hit | apply E.code | apply E.fin | refine zM ?_ | apply O.i | refine sP ?_ | refine sQ fun _ => ?_ | refine sX fun _ => ?_ | refine zI ?_ ?_ | (intro hb; (try simp [-List.getD_eq_getElem?_getD] at hb); (try (exfalso; omega))))
  · (refine N.fin ⟨by omega, ?h6, ?w6⟩; case' w6 => (refine Weak.to (by first | rfl | (simp only [virtAt_n, virt_n]; rfl)) ?s6 ?b6 (by exact dfe)))
    (try case' s6 => first | exact to1 | (simp +decide only [go_sem]; (try simp (disch := first | exact ds | fail) only [go_sem, Nat.reduceAdd, Nat.reduceMul, Nat.reduceSub, Int.reduceToNat, Int.reduceNeg, Nat.reduceLeDiff, hD]); (try simp only [SV.pl.injEq, SV.sl.injEq, Value.int.injEq, Bk.c.injEq, encI_inj, true_and]); (try omega))); (try case' b6 => first | exact to1 | (simp +decide only [go_sem]; (try simp (disch := first | exact ds | fail) only [go_sem, Nat.reduceAdd, Nat.reduceMul, Nat.reduceSub, Int.reduceToNat, Int.reduceNeg, Nat.reduceLeDiff, hD]); (try simp only [SV.pl.injEq, SV.sl.injEq, Value.int.injEq, Bk.c.injEq, encI_inj, true_and]); (try omega))); (try case' h6 => first | exact to1 | (simp +decide only [go_sem]; (try simp (disch := first | exact ds | fail) only [go_sem, Nat.reduceAdd, Nat.reduceMul, Nat.reduceSub, Int.reduceToNat, Int.reduceNeg, Nat.reduceLeDiff, hD]); (try simp only [SV.pl.injEq, SV.sl.injEq, Value.int.injEq, Bk.c.injEq, encI_inj, true_and]); (try omega)))
    rw [← markL_getD .u8 b xs.length k (by omega)]
    exact set_step 0 xs _ k (by omega) (by simp)
  · obtain rfl : k = xs.length := by omega
    rw [take_drop_all _ _ (by simp)]
    exact rT

theorem heldByteS_ok {n : Nat} {b : Int} (h : n < 2 ^ 40 := by exact pm) (hp : 0 ≤ b ∧ b + n < 2 ^ 62 := by exact pm) : TSpec Try.prog 30 [] [.pd (encI .u8 (markL .u8 b n)), .pl (.int .i64 b)] false [] (.pl (.int .i64 (b + n))) := by
  have hD := dN0
  refine sT 22 [.tmp 4] Try.func30 fun w0 S0 ρ0 φ0 => ?_
  repeat' (first | apply W.seq | apply W.skip | apply W.region | apply W.block | apply N.code | apply N.blk | apply Sl.nil | apply W.exit | apply W.ret | apply E.hit | apply E.code | apply E.fin | refine zM ?_ | apply O.i | refine sP ?_ | refine sQ fun _ => ?_ | refine zI ?_ ?_ | (intro hb; (try simp [-List.getD_eq_getElem?_getD] at hb); (try (exfalso; omega))))
  refine W.iter (fun k => ⟨22, [(0, .pd (encI .u8 (markL .u8 b n))), (1, .pl (.int .i64 (b + k))), (5, .pl (.int .i64 k))], [], []⟩) (fun k => True) (n) (Weak.to (by first | rfl | (simp only [virtAt_n, virt_n]; rfl)) ?s7 ?b7 (by exact dfe)) ?h7 (fun k hk hH => ?body7)
  (try case' s7 => first | exact to1 | (simp +decide only [go_sem]; (try simp (disch := first | exact ds | fail) only [go_sem, Nat.reduceAdd, Nat.reduceMul, Nat.reduceSub, Int.reduceToNat, Int.reduceNeg, Nat.reduceLeDiff, hD]); (try simp only [SV.pl.injEq, SV.sl.injEq, Value.int.injEq, Bk.c.injEq, encI_inj, true_and]); (try omega))); (try case' b7 => first | exact to1 | (simp +decide only [go_sem]; (try simp (disch := first | exact ds | fail) only [go_sem, Nat.reduceAdd, Nat.reduceMul, Nat.reduceSub, Int.reduceToNat, Int.reduceNeg, Nat.reduceLeDiff, hD]); (try simp only [SV.pl.injEq, SV.sl.injEq, Value.int.injEq, Bk.c.injEq, encI_inj, true_and]); (try omega))); (try case' h7 => first | exact to1 | (simp +decide only [go_sem]; (try simp (disch := first | exact ds | fail) only [go_sem, Nat.reduceAdd, Nat.reduceMul, Nat.reduceSub, Int.reduceToNat, Int.reduceNeg, Nat.reduceLeDiff, hD]); (try simp only [SV.pl.injEq, SV.sl.injEq, Value.int.injEq, Bk.c.injEq, encI_inj, true_and]); (try omega)))
  repeat' (first | apply W.seq | apply W.skip | apply W.region | apply W.block | apply N.code | apply N.blk | apply Sl.nil | apply W.exit | apply W.ret | apply E.hit | apply E.code | apply E.fin | refine zM ?_ | apply O.i | refine sP ?_ | refine sQ fun _ => ?_ | refine zI ?_ ?_ | (intro hb; (try simp [-List.getD_eq_getElem?_getD] at hb); (try (exfalso; omega))))
  · (refine N.fin ⟨by omega, ?h8, ?w8⟩; case' w8 => (refine Weak.to (by first | rfl | (simp only [virtAt_n, virt_n]; rfl)) ?s8 ?b8 (by exact dfe)))
    (try case' s8 => first | exact to1 | (simp +decide only [go_sem]; (try simp (disch := first | exact ds | fail) only [go_sem, Nat.reduceAdd, Nat.reduceMul, Nat.reduceSub, Int.reduceToNat, Int.reduceNeg, Nat.reduceLeDiff, hD]); (try simp only [SV.pl.injEq, SV.sl.injEq, Value.int.injEq, Bk.c.injEq, encI_inj, true_and]); (try omega))); (try case' b8 => first | exact to1 | (simp +decide only [go_sem]; (try simp (disch := first | exact ds | fail) only [go_sem, Nat.reduceAdd, Nat.reduceMul, Nat.reduceSub, Int.reduceToNat, Int.reduceNeg, Nat.reduceLeDiff, hD]); (try simp only [SV.pl.injEq, SV.sl.injEq, Value.int.injEq, Bk.c.injEq, encI_inj, true_and]); (try omega))); (try case' h8 => first | exact to1 | (simp +decide only [go_sem]; (try simp (disch := first | exact ds | fail) only [go_sem, Nat.reduceAdd, Nat.reduceMul, Nat.reduceSub, Int.reduceToNat, Int.reduceNeg, Nat.reduceLeDiff, hD]); (try simp only [SV.pl.injEq, SV.sl.injEq, Value.int.injEq, Bk.c.injEq, encI_inj, true_and]); (try omega)))
  · obtain rfl : k = n := by omega
    exact rT

def lnB (xs : List Int) : Prop := xs.length < 2 ^ 50
theorem szByteS_ok {xs : List Int} {left : Int} (h : lnB xs := by exact pm) (hp : 0 ≤ left ∧ left < 2 ^ 62 := by exact pm) : TSpec Try.prog 153 [] [.pd (encI .u8 xs), .pl (.int .i64 left)] false [] (.pl (.int .i64 (if left < xs.length then -1 else left - xs.length))) := by
  unfold lnB at h
  have hD := dN0
  refine sT 12 [.tmp 4] Try.func153 fun w0 S0 ρ0 φ0 => ?_
  repeat' (first | apply W.seq | apply W.skip | apply W.region | apply W.block | apply N.code | apply N.blk | apply Sl.nil | apply W.exit | apply W.ret | apply E.hit | apply E.code | apply E.fin | refine zM ?_ | apply O.i | refine sP ?_ | refine sQ fun _ => ?_ | refine zI ?_ ?_ | (intro hb; (try simp [-List.getD_eq_getElem?_getD] at hb); (try (exfalso; omega))))
  · rw [if_pos (by omega)]
    exact rT
  · rw [if_neg (by omega)]
    exact rT
end Go.Proofs.Ytfmbifnbmlhhjaa

