import Derived.Test.YtcmnbefdbckhcaaB11
namespace Go.Proofs.Ytcmnbefdbckhcaa
open Go Go.Vcg Go.IntWalk
set_option maxRecDepth 100000
set_option maxHeartbeats 4000000
set_option linter.unusedSimpArgs false
set_option linter.unusedVariables false

theorem c88 : CallOk Try.prog 88 := ⟨_, Try.func88, rfl, by kernel_rfl⟩
theorem c92 : CallOk Try.prog 92 := ⟨_, Try.func92, rfl, by kernel_rfl⟩
theorem c94 : CallOk Try.prog 94 := ⟨_, Try.func94, rfl, by kernel_rfl⟩
theorem c141 : CallOk Try.prog 141 := ⟨_, Try.func141, rfl, by kernel_rfl⟩
theorem c84 : CallOk Try.prog 84 := ⟨_, Try.func84, rfl, by kernel_rfl⟩
theorem wrap_int {x : Int} (h0 : 0 ≤ x) (h : x < 2 ^ 62) : IntKind.i64.wrap x = x := by
  simp only [IntKind.wrap, IntKind.signed, IntKind.bits]
  simp
  omega
theorem markL_int (b : Int) (n k : Nat) (h0 : 0 ≤ b) (h : b + n < 2 ^ 62) (hk : k < n) : (markL .i64 b n).getD k 0 = b + k := by
  rw [markL_getD .i64 b n k hk, wrap_int (by omega) (by omega)]
theorem toIntS_ok {xs : List Int} (h : xs.length < 2 ^ 40 := by exact pm) : TSpec Try.prog 88 [] [.pd (encI .i64 xs)] false [] (.ow 1 (encI .i64 xs)) := by
  have hD := dN0
  refine sT 22 [.tmp 2] Try.func88 fun w0 S0 ρ0 φ0 => ?_
  repeat' (first | apply W.seq | apply W.skip | apply W.region | apply W.block | apply N.code | apply N.blk | apply Sl.nil | apply W.exit | apply W.ret | apply E.hit | apply E.code | apply E.fin | refine zM ?_ | apply O.i | refine sP ?_ | refine sQ fun _ => ?_ | refine sX fun _ => ?_ | refine zI ?_ ?_ | (intro hb; (try simp [-List.getD_eq_getElem?_getD] at hb); (try (exfalso; omega))))
  refine W.iter (fun k => ⟨22, [(0, .pd (encI .i64 xs)), (3, .sl 7 0 xs.length), (4, .pl (.int .i64 k))], [(7, .c 1 (encI .i64 (xs.take k ++ List.replicate (xs.length - k) 0)))]⟩) (fun k => True) (xs.length) (Weak.to rfl ?s1 ?b1) ?h1 (fun k hk hH => ?body1)
  (try case' s1 => first | exact to1 | (simp +decide only [go_sem]; (try simp (disch := first | exact ds | fail) only [go_sem, Nat.reduceAdd, Nat.reduceMul, Nat.reduceSub, Int.reduceToNat, Int.reduceNeg, Nat.reduceLeDiff, hD]); (try simp only [SV.pl.injEq, SV.sl.injEq, Value.int.injEq, Bk.c.injEq, encI_inj, true_and]); (try omega))); (try case' b1 => first | exact to1 | (simp +decide only [go_sem]; (try simp (disch := first | exact ds | fail) only [go_sem, Nat.reduceAdd, Nat.reduceMul, Nat.reduceSub, Int.reduceToNat, Int.reduceNeg, Nat.reduceLeDiff, hD]); (try simp only [SV.pl.injEq, SV.sl.injEq, Value.int.injEq, Bk.c.injEq, encI_inj, true_and]); (try omega))); (try case' h1 => first | exact to1 | (simp +decide only [go_sem]; (try simp (disch := first | exact ds | fail) only [go_sem, Nat.reduceAdd, Nat.reduceMul, Nat.reduceSub, Int.reduceToNat, Int.reduceNeg, Nat.reduceLeDiff, hD]); (try simp only [SV.pl.injEq, SV.sl.injEq, Value.int.injEq, Bk.c.injEq, encI_inj, true_and]); (try omega)))
  repeat' (first | apply W.seq | apply W.skip | apply W.region | apply W.block | apply N.code | apply N.blk | apply Sl.nil | apply W.exit | apply W.ret | apply E.hit | apply E.code | apply E.fin | refine zM ?_ | apply O.i | refine sP ?_ | refine sQ fun _ => ?_ | refine sX fun _ => ?_ | refine zI ?_ ?_ | (intro hb; (try simp [-List.getD_eq_getElem?_getD] at hb); (try (exfalso; omega))))
  · (refine N.fin ⟨by omega, ?h2, ?w2⟩; case' w2 => (refine Weak.to rfl ?s2 ?b2))
    (try case' s2 => first | exact to1 | (simp +decide only [go_sem]; (try simp (disch := first | exact ds | fail) only [go_sem, Nat.reduceAdd, Nat.reduceMul, Nat.reduceSub, Int.reduceToNat, Int.reduceNeg, Nat.reduceLeDiff, hD]); (try simp only [SV.pl.injEq, SV.sl.injEq, Value.int.injEq, Bk.c.injEq, encI_inj, true_and]); (try omega))); (try case' b2 => first | exact to1 | (simp +decide only [go_sem]; (try simp (disch := first | exact ds | fail) only [go_sem, Nat.reduceAdd, Nat.reduceMul, Nat.reduceSub, Int.reduceToNat, Int.reduceNeg, Nat.reduceLeDiff, hD]); (try simp only [SV.pl.injEq, SV.sl.injEq, Value.int.injEq, Bk.c.injEq, encI_inj, true_and]); (try omega))); (try case' h2 => first | exact to1 | (simp +decide only [go_sem]; (try simp (disch := first | exact ds | fail) only [go_sem, Nat.reduceAdd, Nat.reduceMul, Nat.reduceSub, Int.reduceToNat, Int.reduceNeg, Nat.reduceLeDiff, hD]); (try simp only [SV.pl.injEq, SV.sl.injEq, Value.int.injEq, Bk.c.injEq, encI_inj, true_and]); (try omega)))
    exact take_step 0 0 xs k (by omega)
  · obtain rfl : k = xs.length := by omega
    simp only [Nat.sub_self, List.take_length, List.replicate_zero, List.append_nil]
    exact rT

theorem eqIntS_ok {xs ys : List Int} (h : xs.length < 2 ^ 40 := by exact pm) : TSpec Try.prog 92 [] [.pd (encI .i64 xs), .pd (encI .i64 ys)] false [] (.pl (.bool (decide (xs = ys)))) := by
  have hD := dN0
  refine sT 26 [.tmp 4] Try.func92 fun w0 S0 ρ0 φ0 => ?_
  repeat' (first | apply W.seq | apply W.skip | apply W.region | apply W.block | apply N.code | apply N.blk | apply Sl.nil | apply W.exit | apply W.ret | apply E.hit | apply E.code | apply E.fin | refine zM ?_ | apply O.i | refine sP ?_ | refine sQ fun _ => ?_ | (refine rD (id := 6) anyW [] ?_; refine rP 0 false fun _ => ?_; refine rP 1 false fun _ => ?_; refine rP 2 false fun _ => ?_; refine rP 3 true fun _ => ?_; refine rP 4 false fun _ => ?_; refine rP 5 false fun _ => ?_; refine rP 6 false fun _ => ?_; refine rP 7 true fun _ => ?_; refine rP 8 false fun _ => ?_; refine rE ?_) | refine zI ?_ ?_ | (intro hb; (try simp [-List.getD_eq_getElem?_getD] at hb); (try (exfalso; omega))))
  · have hne : decide (xs = ys) = false := decide_eq_false fun e => hb (by rw [e])
    rw [hne]
    exact rT
  · refine W.iter (fun k => ⟨26, [(0, .pd (encI .i64 xs)), (1, .pd (encI .i64 ys)), (5, .pl (.int .i64 k))], []⟩) (fun k => xs.take k = ys.take k) (xs.length) (Weak.to rfl ?s3 ?b3) ?h3 (fun k hk hH => ?body3)
    (try case' s3 => first | exact to1 | (simp +decide only [go_sem]; (try simp (disch := first | exact ds | fail) only [go_sem, Nat.reduceAdd, Nat.reduceMul, Nat.reduceSub, Int.reduceToNat, Int.reduceNeg, Nat.reduceLeDiff, hD]); (try simp only [SV.pl.injEq, SV.sl.injEq, Value.int.injEq, Bk.c.injEq, encI_inj, true_and]); (try omega))); (try case' b3 => first | exact to1 | (simp +decide only [go_sem]; (try simp (disch := first | exact ds | fail) only [go_sem, Nat.reduceAdd, Nat.reduceMul, Nat.reduceSub, Int.reduceToNat, Int.reduceNeg, Nat.reduceLeDiff, hD]); (try simp only [SV.pl.injEq, SV.sl.injEq, Value.int.injEq, Bk.c.injEq, encI_inj, true_and]); (try omega))); (try case' h3 => first | exact to1 | (simp +decide only [go_sem]; (try simp (disch := first | exact ds | fail) only [go_sem, Nat.reduceAdd, Nat.reduceMul, Nat.reduceSub, Int.reduceToNat, Int.reduceNeg, Nat.reduceLeDiff, hD]); (try simp only [SV.pl.injEq, SV.sl.injEq, Value.int.injEq, Bk.c.injEq, encI_inj, true_and]); (try omega)))
    repeat' (first | apply W.seq | apply W.skip | apply W.region | apply W.block | apply N.code | apply N.blk | apply Sl.nil | apply W.exit | apply W.ret | apply E.hit | apply E.code | apply E.fin | refine zM ?_ | apply O.i | refine sP ?_ | refine sQ fun _ => ?_ | (refine rD (id := 6) anyW [] ?_; refine rP 0 false fun _ => ?_; refine rP 1 false fun _ => ?_; refine rP 2 false fun _ => ?_; refine rP 3 true fun _ => ?_; refine rP 4 false fun _ => ?_; refine rP 5 false fun _ => ?_; refine rP 6 false fun _ => ?_; refine rP 7 true fun _ => ?_; refine rP 8 false fun _ => ?_; refine rE ?_) | refine zI ?_ ?_ | (intro hb; (try simp [-List.getD_eq_getElem?_getD] at hb); (try (exfalso; omega))))
    · have hne : decide (xs = ys) = false := decide_eq_false fun e => hb (by rw [e])
      rw [hne]
      exact rT
    · (refine N.fin ⟨by omega, ?h4, ?w4⟩; case' w4 => (refine Weak.to rfl ?s4 ?b4))
      (try case' s4 => first | exact to1 | (simp +decide only [go_sem]; (try simp (disch := first | exact ds | fail) only [go_sem, Nat.reduceAdd, Nat.reduceMul, Nat.reduceSub, Int.reduceToNat, Int.reduceNeg, Nat.reduceLeDiff, hD]); (try simp only [SV.pl.injEq, SV.sl.injEq, Value.int.injEq, Bk.c.injEq, encI_inj, true_and]); (try omega))); (try case' b4 => first | exact to1 | (simp +decide only [go_sem]; (try simp (disch := first | exact ds | fail) only [go_sem, Nat.reduceAdd, Nat.reduceMul, Nat.reduceSub, Int.reduceToNat, Int.reduceNeg, Nat.reduceLeDiff, hD]); (try simp only [SV.pl.injEq, SV.sl.injEq, Value.int.injEq, Bk.c.injEq, encI_inj, true_and]); (try omega))); (try case' h4 => first | exact to1 | (simp +decide only [go_sem]; (try simp (disch := first | exact ds | fail) only [go_sem, Nat.reduceAdd, Nat.reduceMul, Nat.reduceSub, Int.reduceToNat, Int.reduceNeg, Nat.reduceLeDiff, hD]); (try simp only [SV.pl.injEq, SV.sl.injEq, Value.int.injEq, Bk.c.injEq, encI_inj, true_and]); (try omega)))
      exact take_eq_step 0 xs ys k (by omega) (by omega) hH (by simpa using hb)
    · rw [decide_eq_true (take_all_eq hH (by omega) (by omega))]
      exact rT

theorem markIntS_ok {xs : List Int} {b : Int} (h : xs.length < 2 ^ 40 := by exact pm) (hp : 0 ≤ b ∧ b + xs.length < 2 ^ 62 := by exact pm) : TSpec Try.prog 94 [(1000000, .c 1 (encI .i64 xs))] [.sl 1000000 0 xs.length, .pl (.int .i64 b)] false [(1000000, .c 1 (encI .i64 (markL .i64 b xs.length)))] (.pl (.int .i64 (b + xs.length))) := by
  have hD := dN0
  refine sT 19 [.tmp 4] Try.func94 fun w0 S0 ρ0 φ0 => ?_
  repeat' (first | apply W.seq | apply W.skip | apply W.region | apply W.block | apply N.code | apply N.blk | apply Sl.nil | apply W.exit | apply W.ret | apply E.hit | apply E.code | apply E.fin | refine zM ?_ | apply O.i | refine sP ?_ | refine sQ fun _ => ?_ | refine sX fun _ => ?_ | refine zI ?_ ?_ | (intro hb; (try simp [-List.getD_eq_getElem?_getD] at hb); (try (exfalso; omega))))
  refine W.iter (fun k => ⟨19, [(0, .sl 1000000 0 xs.length), (1, .pl (.int .i64 (b + k))), (5, .pl (.int .i64 k))], [(1000000, .c 1 (encI .i64 ((markL .i64 b xs.length).take k ++ xs.drop k)))]⟩) (fun k => True) (xs.length) (Weak.to rfl ?s5 ?b5) ?h5 (fun k hk hH => ?body5)
  (try case' s5 => first | exact to1 | (simp +decide only [go_sem]; (try simp (disch := first | exact ds | fail) only [go_sem, Nat.reduceAdd, Nat.reduceMul, Nat.reduceSub, Int.reduceToNat, Int.reduceNeg, Nat.reduceLeDiff, hD]); (try simp only [SV.pl.injEq, SV.sl.injEq, Value.int.injEq, Bk.c.injEq, encI_inj, true_and]); (try omega))); (try case' b5 => first | exact to1 | (simp +decide only [go_sem]; (try simp (disch := first | exact ds | fail) only [go_sem, Nat.reduceAdd, Nat.reduceMul, Nat.reduceSub, Int.reduceToNat, Int.reduceNeg, Nat.reduceLeDiff, hD]); (try simp only [SV.pl.injEq, SV.sl.injEq, Value.int.injEq, Bk.c.injEq, encI_inj, true_and]); (try omega))); (try case' h5 => first | exact to1 | (simp +decide only [go_sem]; (try simp (disch := first | exact ds | fail) only [go_sem, Nat.reduceAdd, Nat.reduceMul, Nat.reduceSub, Int.reduceToNat, Int.reduceNeg, Nat.reduceLeDiff, hD]); (try simp only [SV.pl.injEq, SV.sl.injEq, Value.int.injEq, Bk.c.injEq, encI_inj, true_and]); (try omega)))
  repeat' (first | apply W.seq | apply W.skip | apply W.region | apply W.block | apply N.code | apply N.blk | apply Sl.nil | apply W.exit | apply W.ret | apply E.hit | apply E.code | apply E.fin | refine zM ?_ | apply O.i | refine sP ?_ | refine sQ fun _ => ?_ | refine sX fun _ => ?_ | refine zI ?_ ?_ | (intro hb; (try simp [-List.getD_eq_getElem?_getD] at hb); (try (exfalso; omega))))
  · (refine N.fin ⟨by omega, ?h6, ?w6⟩; case' w6 => (refine Weak.to rfl ?s6 ?b6))
    (try case' s6 => first | exact to1 | (simp +decide only [go_sem]; (try simp (disch := first | exact ds | fail) only [go_sem, Nat.reduceAdd, Nat.reduceMul, Nat.reduceSub, Int.reduceToNat, Int.reduceNeg, Nat.reduceLeDiff, hD]); (try simp only [SV.pl.injEq, SV.sl.injEq, Value.int.injEq, Bk.c.injEq, encI_inj, true_and]); (try omega))); (try case' b6 => first | exact to1 | (simp +decide only [go_sem]; (try simp (disch := first | exact ds | fail) only [go_sem, Nat.reduceAdd, Nat.reduceMul, Nat.reduceSub, Int.reduceToNat, Int.reduceNeg, Nat.reduceLeDiff, hD]); (try simp only [SV.pl.injEq, SV.sl.injEq, Value.int.injEq, Bk.c.injEq, encI_inj, true_and]); (try omega))); (try case' h6 => first | exact to1 | (simp +decide only [go_sem]; (try simp (disch := first | exact ds | fail) only [go_sem, Nat.reduceAdd, Nat.reduceMul, Nat.reduceSub, Int.reduceToNat, Int.reduceNeg, Nat.reduceLeDiff, hD]); (try simp only [SV.pl.injEq, SV.sl.injEq, Value.int.injEq, Bk.c.injEq, encI_inj, true_and]); (try omega)))
    rw [← markL_int b xs.length k (by omega) (by omega) (by omega)]
    exact set_step 0 xs _ k (by omega) (by simp)
  · obtain rfl : k = xs.length := by omega
    rw [take_drop_all _ _ (by simp)]
    exact rT

theorem heldIntS_ok {n : Nat} {b : Int} (h : n < 2 ^ 40 := by exact pm) (hp : 0 ≤ b ∧ b + n < 2 ^ 62 := by exact pm) : TSpec Try.prog 141 [] [.pd (encI .i64 (markL .i64 b n)), .pl (.int .i64 b)] false [] (.pl (.int .i64 (b + n))) := by
  have hD := dN0
  refine sT 21 [.tmp 4] Try.func141 fun w0 S0 ρ0 φ0 => ?_
  repeat' (first | apply W.seq | apply W.skip | apply W.region | apply W.block | apply N.code | apply N.blk | apply Sl.nil | apply W.exit | apply W.ret | apply E.hit | apply E.code | apply E.fin | refine zM ?_ | apply O.i | refine sP ?_ | refine sQ fun _ => ?_ | refine zI ?_ ?_ | (intro hb; (try simp [-List.getD_eq_getElem?_getD] at hb); (try (exfalso; omega))))
  refine W.iter (fun k => ⟨21, [(0, .pd (encI .i64 (markL .i64 b n))), (1, .pl (.int .i64 (b + k))), (5, .pl (.int .i64 k))], []⟩) (fun k => True) (n) (Weak.to rfl ?s7 ?b7) ?h7 (fun k hk hH => ?body7)
  (try case' s7 => first | exact to1 | (simp +decide only [go_sem]; (try simp (disch := first | exact ds | fail) only [go_sem, Nat.reduceAdd, Nat.reduceMul, Nat.reduceSub, Int.reduceToNat, Int.reduceNeg, Nat.reduceLeDiff, hD]); (try simp only [SV.pl.injEq, SV.sl.injEq, Value.int.injEq, Bk.c.injEq, encI_inj, true_and]); (try omega))); (try case' b7 => first | exact to1 | (simp +decide only [go_sem]; (try simp (disch := first | exact ds | fail) only [go_sem, Nat.reduceAdd, Nat.reduceMul, Nat.reduceSub, Int.reduceToNat, Int.reduceNeg, Nat.reduceLeDiff, hD]); (try simp only [SV.pl.injEq, SV.sl.injEq, Value.int.injEq, Bk.c.injEq, encI_inj, true_and]); (try omega))); (try case' h7 => first | exact to1 | (simp +decide only [go_sem]; (try simp (disch := first | exact ds | fail) only [go_sem, Nat.reduceAdd, Nat.reduceMul, Nat.reduceSub, Int.reduceToNat, Int.reduceNeg, Nat.reduceLeDiff, hD]); (try simp only [SV.pl.injEq, SV.sl.injEq, Value.int.injEq, Bk.c.injEq, encI_inj, true_and]); (try omega)))
  repeat' (first | apply W.seq | apply W.skip | apply W.region | apply W.block | apply N.code | apply N.blk | apply Sl.nil | apply W.exit | apply W.ret | apply E.hit | apply E.code | apply E.fin | refine zM ?_ | apply O.i | refine sP ?_ | refine sQ fun _ => ?_ | refine zI ?_ ?_ | (intro hb; (try simp [-List.getD_eq_getElem?_getD] at hb); (try (exfalso; omega))))
  · (refine N.fin ⟨by omega, ?h8, ?w8⟩; case' w8 => (refine Weak.to rfl ?s8 ?b8))
    (try case' s8 => first | exact to1 | (simp +decide only [go_sem]; (try simp (disch := first | exact ds | fail) only [go_sem, Nat.reduceAdd, Nat.reduceMul, Nat.reduceSub, Int.reduceToNat, Int.reduceNeg, Nat.reduceLeDiff, hD]); (try simp only [SV.pl.injEq, SV.sl.injEq, Value.int.injEq, Bk.c.injEq, encI_inj, true_and]); (try omega))); (try case' b8 => first | exact to1 | (simp +decide only [go_sem]; (try simp (disch := first | exact ds | fail) only [go_sem, Nat.reduceAdd, Nat.reduceMul, Nat.reduceSub, Int.reduceToNat, Int.reduceNeg, Nat.reduceLeDiff, hD]); (try simp only [SV.pl.injEq, SV.sl.injEq, Value.int.injEq, Bk.c.injEq, encI_inj, true_and]); (try omega))); (try case' h8 => first | exact to1 | (simp +decide only [go_sem]; (try simp (disch := first | exact ds | fail) only [go_sem, Nat.reduceAdd, Nat.reduceMul, Nat.reduceSub, Int.reduceToNat, Int.reduceNeg, Nat.reduceLeDiff, hD]); (try simp only [SV.pl.injEq, SV.sl.injEq, Value.int.injEq, Bk.c.injEq, encI_inj, true_and]); (try omega)))
  · obtain rfl : k = n := by omega
    exact rT

def lnI (xs : List Int) : Prop := xs.length < 2 ^ 50
theorem szIntS_ok {xs : List Int} {left : Int} (h : lnI xs := by exact pm) (hp : 0 ≤ left ∧ left < 2 ^ 62 := by exact pm) : TSpec Try.prog 84 [] [.pd (encI .i64 xs), .pl (.int .i64 left)] false [] (.pl (.int .i64 (if left < xs.length then -1 else left - xs.length))) := by
  unfold lnI at h
  have hD := dN0
  refine sT 12 [.tmp 4] Try.func84 fun w0 S0 ρ0 φ0 => ?_
  repeat' (first | apply W.seq | apply W.skip | apply W.region | apply W.block | apply N.code | apply N.blk | apply Sl.nil | apply W.exit | apply W.ret | apply E.hit | apply E.code | apply E.fin | refine zM ?_ | apply O.i | refine sP ?_ | refine sQ fun _ => ?_ | refine zI ?_ ?_ | (intro hb; (try simp [-List.getD_eq_getElem?_getD] at hb); (try (exfalso; omega))))
  · rw [if_pos (by omega)]
    exact rT
  · rw [if_neg (by omega)]
    exact rT

def ctPoint (_ : PointA) : Nat := 33
def mkPoint (b : Int) (_ : PointA) : PointA := ⟨mkH b, b + 32⟩
theorem sumN_const {α : Type} (ct : α → Nat) (c : Nat) (h : ∀ x, ct x = c) (xs : List α) : sumN ct xs = c * xs.length := by
  induction xs with
  | nil => simp [sumN_nil]
  | cons x xs ih => rw [show x :: xs = [x] ++ xs from rfl, sumN_append, ih, List.length_append]; simp [sumN, h, Nat.mul_add]
theorem sumPoint (xs : List PointA) : sumN ctPoint xs = 33 * xs.length := sumN_const ctPoint 33 (fun _ => rfl) xs
/-- A hash of which the first j bytes are marked. -/
def mixH (b : Int) (h : H32) (j : Nat) : H32 := if hj : j ≤ 32 then ⟨(markL .u8 b 32).take j ++ h.l.drop j, by simp [h.len]; omega, okBytes_append (okBytes_take (okBytes_mark b 32) j) (fun x hx => h.ok x (List.mem_of_mem_drop hx))⟩ else mkH b
theorem mixH_zero (b : Int) (h : H32) : mixH b h 0 = h := H32.ext' (by simp [mixH])
theorem mixH_all (b : Int) (h : H32) : mixH b h 32 = mkH b := H32.ext' (by simp only [mixH, mkH, Nat.le_refl, dite_true]; rw [List.take_of_length_le (by rw [markL_length]; omega), List.drop_of_length_le (by rw [h.len]; omega), List.append_nil])
theorem mixH_step (b : Int) (h : H32) (j : Nat) (hj : j < 32) : (mixH b h j).l.set j ((markL .u8 b 32).getD j 0) = (mixH b h (j + 1)).l := by
  have := set_step 0 h.l (markL .u8 b 32) j (by simp; omega) (by simp)
  simp only [mixH, dif_pos (show j ≤ 32 by omega), dif_pos (show j + 1 ≤ 32 by omega)]
  exact this
theorem setGet {α : Type} (L : List α) (k : Nat) (x d : α) (h : k < L.length) : (L.set k x).getD k d = x := by simp [List.getD_eq_getElem?_getD, h]
theorem setSet {α : Type} (L : List α) (k : Nat) (x y : α) : (L.set k x).set k y = L.set k y := List.set_set ..
theorem setSelf {α : Type} (L : List α) (k : Nat) (d : α) (h : k < L.length) : L.set k (L.getD k d) = L := by
  refine List.ext_getElem? fun j => ?_
  rw [List.getElem?_set]
  split
  · rename_i e; subst e; simp [List.getD_eq_getElem?_getD, h]
  · rfl
theorem lSet {α : Type} (L : List α) (k : Nat) (x : α) : (L.set k x).length = L.length := List.length_set ..
theorem encL_setP (L : List PointA) (k : Nat) (x y : PointA) : (encL fPoint (L.set k x)).set k (encA .u8 y.Id.l ++ [.pl (.int .i64 y.N)]) = encL fPoint (L.set k y) := by
  show _ = (L.set k y).map fPoint
  show ((L.set k x).map fPoint).set k (fPoint y) = _
  rw [List.map_set, List.map_set, List.set_set]
theorem szPointS_ok {xs : List PointA} {left : Int} (h : xs.length < 2 ^ 50 := by exact pm) (hp : 0 ≤ left ∧ left < 2 ^ 62 := by exact pm) : TSpec Try.prog 83 [] [.pd (encL fPoint xs), .pl (.int .i64 left)] false [] (.pl (.int .i64 (if left < xs.length then -1 else left - xs.length))) := by
  have hD := dN0
  refine sT 12 [.tmp 4] Try.func83 fun w0 S0 ρ0 φ0 => ?_
  repeat' (first | apply W.seq | apply W.skip | apply W.region | apply W.block | apply N.code | apply N.blk | apply Sl.nil | apply W.exit | apply W.ret | apply E.hit | apply E.code | apply E.fin | refine zM ?_ | apply O.i | refine sP ?_ | refine sQ fun _ => ?_ | refine zI ?_ ?_ | (intro hb; (try simp [-List.getD_eq_getElem?_getD] at hb); (try (exfalso; omega))))
  · rw [if_pos (by omega)]
    exact rT
  · rw [if_neg (by omega)]
    exact rT
theorem markPointS_ok {xs : List PointA} {b : Int} (h : xs.length < 2 ^ 40 := by exact pm) (hp : 0 ≤ b ∧ b + sumN ctPoint xs < 2 ^ 62 := by exact pm) : TSpec Try.prog 93 [(1000000, .c 33 (encL fPoint xs))] [.sl 1000000 0 xs.length, .pl (.int .i64 b)] false [(1000000, .c 33 (encL fPoint (mkS mkPoint ctPoint b xs)))] (.pl (.int .i64 (b + sumN ctPoint xs))) := by
  have hsp := sumPoint xs
  have hD := dN0
  refine sT 35 [.tmp 4] Try.func93 fun w0 S0 ρ0 φ0 => ?_
  repeat' (first | apply W.seq | apply W.skip | apply W.region | apply W.block | apply N.code | apply N.blk | apply Sl.nil | apply W.exit | apply W.ret | apply E.hit | apply E.code | apply E.fin | refine zM ?_ | apply O.i | refine sP ?_ | refine sQ fun _ => ?_ | refine sX fun _ => ?_ | refine zI ?_ ?_ | (intro hb; (try simp [-List.getD_eq_getElem?_getD] at hb); (try (exfalso; omega))))
  refine W.iter (fun k => ⟨35, [(0, .sl 1000000 0 xs.length), (1, .pl (.int .i64 (b + sumN ctPoint (xs.take k)))), (5, .pl (.int .i64 k))], [(1000000, .c 33 (encL fPoint ((mkS mkPoint ctPoint b xs).take k ++ xs.drop k)))]⟩) (fun k => True) (xs.length) (Weak.to rfl ?s9 ?b9) ?h9 (fun k hk hH => ?body9)
  (try case' s9 => first | exact to1 | (simp +decide only [go_sem]; (try simp (disch := first | exact ds | fail) only [go_sem, Nat.reduceAdd, Nat.reduceMul, Nat.reduceSub, Int.reduceToNat, Int.reduceNeg, Nat.reduceLeDiff, hD]); (try simp only [SV.pl.injEq, SV.sl.injEq, Value.int.injEq, Bk.c.injEq, encI_inj, true_and]); (try omega))); (try case' b9 => first | exact to1 | (simp +decide only [go_sem]; (try simp (disch := first | exact ds | fail) only [go_sem, Nat.reduceAdd, Nat.reduceMul, Nat.reduceSub, Int.reduceToNat, Int.reduceNeg, Nat.reduceLeDiff, hD]); (try simp only [SV.pl.injEq, SV.sl.injEq, Value.int.injEq, Bk.c.injEq, encI_inj, true_and]); (try omega))); (try case' h9 => first | exact to1 | (simp +decide only [go_sem]; (try simp (disch := first | exact ds | fail) only [go_sem, Nat.reduceAdd, Nat.reduceMul, Nat.reduceSub, Int.reduceToNat, Int.reduceNeg, Nat.reduceLeDiff, hD]); (try simp only [SV.pl.injEq, SV.sl.injEq, Value.int.injEq, Bk.c.injEq, encI_inj, true_and]); (try omega)))
  have hsk := sumN_le ctPoint xs k
  repeat' (first | apply W.seq | apply W.skip | refine W.region (id := 0) ?_ | refine W.region (id := 1) ?_ | refine W.region (id := 2) ?_ | refine W.region (id := 5) ?_ | refine W.region (id := 7) ?_ | refine W.region (id := 8) ?_ | refine W.region (id := 6) ?_ | refine W.region (id := 9) ?_ | refine W.region (id := 10) ?_ | refine W.region (id := 3) ?_ | refine W.region (id := 11) ?_ | apply W.block | apply N.code | apply N.blk | apply Sl.nil | apply W.exit | apply W.ret | apply E.hit | apply E.code | apply E.fin | refine zM ?_ | apply O.i | refine sP ?_ | refine sQ fun _ => ?_ | refine sX fun _ => ?_ | refine zI ?_ ?_ | (intro hb; (try simp [-List.getD_eq_getElem?_getD] at hb); (try (exfalso; omega))))
  · have hst := sumN_step ctPoint xs k hb
    have hsg := sumN_get ctPoint xs k hb
    have hc1 : ctPoint (xs.getD k default) = 33 := rfl
    obtain ⟨L, hL⟩ : ∃ L, L = (mkS mkPoint ctPoint b xs).take k ++ xs.drop k := ⟨_, rfl⟩
    have hLl : L.length = xs.length := by rw [hL, List.length_append, List.length_take, List.length_drop, mkS_length]; omega
    have hLg : L.getD k default = xs.getD k default := by rw [hL, List.getD_eq_getElem?_getD, List.getElem?_append_right (by rw [List.length_take, mkS_length]; omega), List.length_take, mkS_length, List.getElem?_drop, show k + (k - min k xs.length) = k by omega, ← List.getD_eq_getElem?_getD]
    have hnx : encL fPoint (L.set k (mkPoint (b + sumN ctPoint (xs.take k)) (xs.getD k default))) = encL fPoint ((mkS mkPoint ctPoint b xs).take (k + 1) ++ xs.drop (k + 1)) := by
      have := mk_nextL fPoint mkPoint ctPoint b xs k hb
      rw [← hL] at this
      rw [← this]
      simp [encL]
    rw [← hL]
    obtain ⟨p, hp1⟩ : ∃ p, p = xs.getD k default := ⟨_, rfl⟩
    obtain ⟨c, hc⟩ : ∃ c : Int, c = b + sumN ctPoint (xs.take k) := ⟨_, rfl⟩
    rw [← hc, ← hp1] at hnx
    rw [← hp1] at hLg
    rw [← hc]
    have hD := And.intro @setGet (And.intro @setSet (And.intro @lSet ((hLl))))
    repeat' (first | apply W.seq | apply W.skip | refine W.region (id := 0) ?_ | refine W.region (id := 1) ?_ | refine W.region (id := 2) ?_ | refine W.region (id := 4) ?_ | refine W.region (id := 5) ?_ | refine W.region (id := 8) ?_ | refine W.region (id := 6) ?_ | refine W.region (id := 9) ?_ | refine W.region (id := 10) ?_ | refine W.region (id := 3) ?_ | refine W.region (id := 11) ?_ | apply W.block | apply N.code | apply N.blk | apply Sl.nil | apply W.exit | apply W.ret | apply E.hit | apply E.code | apply E.fin | refine zM ?_ | apply O.i | refine sP ?_ | refine sQ fun _ => ?_ | refine sX fun _ => ?_ | refine zI ?_ ?_ | (intro hb; (try simp [-List.getD_eq_getElem?_getD] at hb); (try (exfalso; omega))))
    refine W.iter (fun j => ⟨35, [(0, .sl 1000000 0 xs.length), (1, .pl (.int .i64 (c + j))), (5, .pl (.int .i64 k)), (6, .pl (.int .i64 j))], [(1000000, .c 33 (encL fPoint (L.set k ⟨mixH c p.Id j, p.N⟩)))]⟩) (fun j => True) (32) (Weak.to rfl ?s10 ?b10) ?h10 (fun j hj Hj => ?body10)
    (try case' s10 => first | exact to1 | (simp +decide only [go_sem]; (try simp (disch := first | exact ds | fail) only [go_sem, Nat.reduceAdd, Nat.reduceMul, Nat.reduceSub, Int.reduceToNat, Int.reduceNeg, Nat.reduceLeDiff, hD]); (try simp only [SV.pl.injEq, SV.sl.injEq, Value.int.injEq, Bk.c.injEq, encI_inj, true_and]); (try omega))); (try case' b10 => first | exact to1 | (simp +decide only [go_sem]; (try simp (disch := first | exact ds | fail) only [go_sem, Nat.reduceAdd, Nat.reduceMul, Nat.reduceSub, Int.reduceToNat, Int.reduceNeg, Nat.reduceLeDiff, hD]); (try simp only [SV.pl.injEq, SV.sl.injEq, Value.int.injEq, Bk.c.injEq, encI_inj, true_and]); (try omega))); (try case' h10 => first | exact to1 | (simp +decide only [go_sem]; (try simp (disch := first | exact ds | fail) only [go_sem, Nat.reduceAdd, Nat.reduceMul, Nat.reduceSub, Int.reduceToNat, Int.reduceNeg, Nat.reduceLeDiff, hD]); (try simp only [SV.pl.injEq, SV.sl.injEq, Value.int.injEq, Bk.c.injEq, encI_inj, true_and]); (try omega)))
    · rw [mixH_zero, show (⟨p.Id, p.N⟩ : PointA) = L.getD k default from hLg.symm ▸ rfl, setSelf _ _ _ (by omega)]
    repeat' (first | apply W.seq | apply W.skip | apply W.region | apply W.block | apply N.code | apply N.blk | apply Sl.nil | apply W.exit | apply W.ret | apply E.hit | apply E.code | apply E.fin | refine zM ?_ | apply O.i | refine sP ?_ | refine sQ fun _ => ?_ | refine sX fun _ => ?_ | refine zI ?_ ?_ | (intro hb; (try simp [-List.getD_eq_getElem?_getD] at hb); (try (exfalso; omega))))
    · (refine N.fin ⟨by omega, ?h11, ?w11⟩; case' w11 => (refine Weak.to rfl ?s11 ?b11))
      (try case' s11 => first | exact to1 | (simp +decide only [go_sem]; (try simp (disch := first | exact ds | fail) only [go_sem, Nat.reduceAdd, Nat.reduceMul, Nat.reduceSub, Int.reduceToNat, Int.reduceNeg, Nat.reduceLeDiff, hD]); (try simp only [SV.pl.injEq, SV.sl.injEq, Value.int.injEq, Bk.c.injEq, encI_inj, true_and]); (try omega))); (try case' b11 => first | exact to1 | (simp +decide only [go_sem]; (try simp (disch := first | exact ds | fail) only [go_sem, Nat.reduceAdd, Nat.reduceMul, Nat.reduceSub, Int.reduceToNat, Int.reduceNeg, Nat.reduceLeDiff, hD]); (try simp only [SV.pl.injEq, SV.sl.injEq, Value.int.injEq, Bk.c.injEq, encI_inj, true_and]); (try omega))); (try case' h11 => first | exact to1 | (simp +decide only [go_sem]; (try simp (disch := first | exact ds | fail) only [go_sem, Nat.reduceAdd, Nat.reduceMul, Nat.reduceSub, Int.reduceToNat, Int.reduceNeg, Nat.reduceLeDiff, hD]); (try simp only [SV.pl.injEq, SV.sl.injEq, Value.int.injEq, Bk.c.injEq, encI_inj, true_and]); (try omega)))
      rw [← markL_getD .u8 c 32 j (by omega), mixH_step c p.Id j (by omega)]
      exact encL_setP L k ⟨mixH c p.Id j, p.N⟩ ⟨mixH c p.Id (j + 1), p.N⟩
    · obtain rfl : j = 32 := by omega
      rw [mixH_all]
      repeat' (first | apply W.seq | apply W.skip | apply W.region | apply W.block | apply N.code | apply N.blk | apply Sl.nil | apply W.exit | apply W.ret | apply E.hit | apply E.code | apply E.fin | refine zM ?_ | apply O.i | refine sP ?_ | refine sQ fun _ => ?_ | refine sX fun _ => ?_ | refine zI ?_ ?_ | (intro hb; (try simp [-List.getD_eq_getElem?_getD] at hb); (try (exfalso; omega))))
      (refine N.fin ⟨by omega, ?h12, ?w12⟩; case' w12 => (refine Weak.to rfl ?s12 ?b12))
      (try case' s12 => first | exact to1 | (simp +decide only [go_sem]; (try simp (disch := first | exact ds | fail) only [go_sem, Nat.reduceAdd, Nat.reduceMul, Nat.reduceSub, Int.reduceToNat, Int.reduceNeg, Nat.reduceLeDiff, hD]); (try simp only [SV.pl.injEq, SV.sl.injEq, Value.int.injEq, Bk.c.injEq, encI_inj, true_and]); (try omega))); (try case' b12 => first | exact to1 | (simp +decide only [go_sem]; (try simp (disch := first | exact ds | fail) only [go_sem, Nat.reduceAdd, Nat.reduceMul, Nat.reduceSub, Int.reduceToNat, Int.reduceNeg, Nat.reduceLeDiff, hD]); (try simp only [SV.pl.injEq, SV.sl.injEq, Value.int.injEq, Bk.c.injEq, encI_inj, true_and]); (try omega))); (try case' h12 => first | exact to1 | (simp +decide only [go_sem]; (try simp (disch := first | exact ds | fail) only [go_sem, Nat.reduceAdd, Nat.reduceMul, Nat.reduceSub, Int.reduceToNat, Int.reduceNeg, Nat.reduceLeDiff, hD]); (try simp only [SV.pl.injEq, SV.sl.injEq, Value.int.injEq, Bk.c.injEq, encI_inj, true_and]); (try omega)))
      rw [← hnx]
      exact encL_setP L k ⟨mkH c, p.N⟩ ⟨mkH c, c + 32⟩
  · obtain rfl : k = xs.length := by omega
    rw [take_drop_all _ _ (by simp)]
    exact rT
theorem heldPointS_ok {xs : List PointA} {b : Int} (h : xs.length < 2 ^ 40 := by exact pm) (hp : 0 ≤ b ∧ b + sumN ctPoint xs < 2 ^ 62 := by exact pm) : TSpec Try.prog 140 [] [.pd (encL fPoint (mkS mkPoint ctPoint b xs)), .pl (.int .i64 b)] false [] (.pl (.int .i64 (b + sumN ctPoint xs))) := by
  have hsp := sumPoint xs
  have hD := And.intro @mkPoint.eq_1 (@mkH.eq_1)
  have hD := And.intro @mkPoint.eq_1 (@mkH.eq_1)
  refine sT 39 [.tmp 4] Try.func140 fun w0 S0 ρ0 φ0 => ?_
  repeat' (first | apply W.seq | apply W.skip | apply W.region | apply W.block | apply N.code | apply N.blk | apply Sl.nil | apply W.exit | apply W.ret | apply E.hit | apply E.code | apply E.fin | refine zM ?_ | apply O.i | refine sP ?_ | refine sQ fun _ => ?_ | refine zI ?_ ?_ | (intro hb; (try simp [-List.getD_eq_getElem?_getD] at hb); (try (exfalso; omega))))
  refine W.iter (fun k => ⟨39, [(0, .pd (encL fPoint (mkS mkPoint ctPoint b xs))), (1, .pl (.int .i64 (b + sumN ctPoint (xs.take k)))), (5, .pl (.int .i64 k))], []⟩) (fun k => True) (xs.length) (Weak.to rfl ?s13 ?b13) ?h13 (fun k hk hH => ?body13)
  (try case' s13 => first | exact to1 | (simp +decide only [go_sem]; (try simp (disch := first | exact ds | fail) only [go_sem, Nat.reduceAdd, Nat.reduceMul, Nat.reduceSub, Int.reduceToNat, Int.reduceNeg, Nat.reduceLeDiff, hD]); (try simp only [SV.pl.injEq, SV.sl.injEq, Value.int.injEq, Bk.c.injEq, encI_inj, true_and]); (try omega))); (try case' b13 => first | exact to1 | (simp +decide only [go_sem]; (try simp (disch := first | exact ds | fail) only [go_sem, Nat.reduceAdd, Nat.reduceMul, Nat.reduceSub, Int.reduceToNat, Int.reduceNeg, Nat.reduceLeDiff, hD]); (try simp only [SV.pl.injEq, SV.sl.injEq, Value.int.injEq, Bk.c.injEq, encI_inj, true_and]); (try omega))); (try case' h13 => first | exact to1 | (simp +decide only [go_sem]; (try simp (disch := first | exact ds | fail) only [go_sem, Nat.reduceAdd, Nat.reduceMul, Nat.reduceSub, Int.reduceToNat, Int.reduceNeg, Nat.reduceLeDiff, hD]); (try simp only [SV.pl.injEq, SV.sl.injEq, Value.int.injEq, Bk.c.injEq, encI_inj, true_and]); (try omega)))
  have hsk := sumN_le ctPoint xs k
  repeat' (first | apply W.seq | apply W.skip | refine W.region (id := 0) ?_ | refine W.region (id := 1) ?_ | refine W.region (id := 2) ?_ | refine W.region (id := 5) ?_ | refine W.region (id := 7) ?_ | refine W.region (id := 8) ?_ | refine W.region (id := 9) ?_ | refine W.region (id := 6) ?_ | refine W.region (id := 10) ?_ | refine W.region (id := 11) ?_ | refine W.region (id := 12) ?_ | refine W.region (id := 3) ?_ | refine W.region (id := 13) ?_ | apply W.block | apply N.code | apply N.blk | apply Sl.nil | apply W.exit | apply W.ret | apply E.hit | apply E.code | apply E.fin | refine zM ?_ | apply O.i | refine sP ?_ | refine sQ fun _ => ?_ | refine zI ?_ ?_ | (intro hb; (try simp [-List.getD_eq_getElem?_getD] at hb); (try (exfalso; omega))))
  · have hst := sumN_step ctPoint xs k hb
    have hsg := sumN_get ctPoint xs k hb
    have hc1 : ctPoint (xs.getD k default) = 33 := rfl
    repeat' (first | apply W.seq | apply W.skip | refine W.region (id := 0) ?_ | refine W.region (id := 1) ?_ | refine W.region (id := 2) ?_ | refine W.region (id := 4) ?_ | refine W.region (id := 5) ?_ | refine W.region (id := 8) ?_ | refine W.region (id := 9) ?_ | refine W.region (id := 6) ?_ | refine W.region (id := 10) ?_ | refine W.region (id := 11) ?_ | refine W.region (id := 12) ?_ | refine W.region (id := 3) ?_ | refine W.region (id := 13) ?_ | apply W.block | apply N.code | apply N.blk | apply Sl.nil | apply W.exit | apply W.ret | apply E.hit | apply E.code | apply E.fin | refine zM ?_ | apply O.i | refine sP ?_ | refine sQ fun _ => ?_ | refine zI ?_ ?_ | (intro hb; (try simp [-List.getD_eq_getElem?_getD] at hb); (try (exfalso; omega))))
    refine W.iter (fun j => ⟨39, [(0, .pd (encL fPoint (mkS mkPoint ctPoint b xs))), (1, .pl (.int .i64 (b + sumN ctPoint (xs.take k) + j))), (5, .pl (.int .i64 k)), (6, .pl (.int .i64 j))], []⟩) (fun j => True) (32) (Weak.to rfl ?s14 ?b14) ?h14 (fun j hj Hj => ?body14)
    (try case' s14 => first | exact to1 | (simp +decide only [go_sem]; (try simp (disch := first | exact ds | fail) only [go_sem, Nat.reduceAdd, Nat.reduceMul, Nat.reduceSub, Int.reduceToNat, Int.reduceNeg, Nat.reduceLeDiff, hD]); (try simp only [SV.pl.injEq, SV.sl.injEq, Value.int.injEq, Bk.c.injEq, encI_inj, true_and]); (try omega))); (try case' b14 => first | exact to1 | (simp +decide only [go_sem]; (try simp (disch := first | exact ds | fail) only [go_sem, Nat.reduceAdd, Nat.reduceMul, Nat.reduceSub, Int.reduceToNat, Int.reduceNeg, Nat.reduceLeDiff, hD]); (try simp only [SV.pl.injEq, SV.sl.injEq, Value.int.injEq, Bk.c.injEq, encI_inj, true_and]); (try omega))); (try case' h14 => first | exact to1 | (simp +decide only [go_sem]; (try simp (disch := first | exact ds | fail) only [go_sem, Nat.reduceAdd, Nat.reduceMul, Nat.reduceSub, Int.reduceToNat, Int.reduceNeg, Nat.reduceLeDiff, hD]); (try simp only [SV.pl.injEq, SV.sl.injEq, Value.int.injEq, Bk.c.injEq, encI_inj, true_and]); (try omega)))
    repeat' (first | apply W.seq | apply W.skip | apply W.region | apply W.block | apply N.code | apply N.blk | apply Sl.nil | apply W.exit | apply W.ret | apply E.hit | apply E.code | apply E.fin | refine zM ?_ | apply O.i | refine sP ?_ | refine sQ fun _ => ?_ | refine zI ?_ ?_ | (intro hb; (try simp [-List.getD_eq_getElem?_getD] at hb); (try (exfalso; omega))))
    · (refine N.fin ⟨by omega, ?h15, ?w15⟩; case' w15 => (refine Weak.to rfl ?s15 ?b15))
      (try case' s15 => first | exact to1 | (simp +decide only [go_sem]; (try simp (disch := first | exact ds | fail) only [go_sem, Nat.reduceAdd, Nat.reduceMul, Nat.reduceSub, Int.reduceToNat, Int.reduceNeg, Nat.reduceLeDiff, hD]); (try simp only [SV.pl.injEq, SV.sl.injEq, Value.int.injEq, Bk.c.injEq, encI_inj, true_and]); (try omega))); (try case' b15 => first | exact to1 | (simp +decide only [go_sem]; (try simp (disch := first | exact ds | fail) only [go_sem, Nat.reduceAdd, Nat.reduceMul, Nat.reduceSub, Int.reduceToNat, Int.reduceNeg, Nat.reduceLeDiff, hD]); (try simp only [SV.pl.injEq, SV.sl.injEq, Value.int.injEq, Bk.c.injEq, encI_inj, true_and]); (try omega))); (try case' h15 => first | exact to1 | (simp +decide only [go_sem]; (try simp (disch := first | exact ds | fail) only [go_sem, Nat.reduceAdd, Nat.reduceMul, Nat.reduceSub, Int.reduceToNat, Int.reduceNeg, Nat.reduceLeDiff, hD]); (try simp only [SV.pl.injEq, SV.sl.injEq, Value.int.injEq, Bk.c.injEq, encI_inj, true_and]); (try omega)))
    · obtain rfl : j = 32 := by omega
      repeat' (first | apply W.seq | apply W.skip | apply W.region | apply W.block | apply N.code | apply N.blk | apply Sl.nil | apply W.exit | apply W.ret | apply E.hit | apply E.code | apply E.fin | refine zM ?_ | apply O.i | refine sP ?_ | refine sQ fun _ => ?_ | refine zI ?_ ?_ | (intro hb; (try simp [-List.getD_eq_getElem?_getD] at hb); (try (exfalso; omega))))
      (refine N.fin ⟨by omega, ?h16, ?w16⟩; case' w16 => (refine Weak.to rfl ?s16 ?b16))
      (try case' s16 => first | exact to1 | (simp +decide only [go_sem]; (try simp (disch := first | exact ds | fail) only [go_sem, Nat.reduceAdd, Nat.reduceMul, Nat.reduceSub, Int.reduceToNat, Int.reduceNeg, Nat.reduceLeDiff, hD]); (try simp only [SV.pl.injEq, SV.sl.injEq, Value.int.injEq, Bk.c.injEq, encI_inj, true_and]); (try omega))); (try case' b16 => first | exact to1 | (simp +decide only [go_sem]; (try simp (disch := first | exact ds | fail) only [go_sem, Nat.reduceAdd, Nat.reduceMul, Nat.reduceSub, Int.reduceToNat, Int.reduceNeg, Nat.reduceLeDiff, hD]); (try simp only [SV.pl.injEq, SV.sl.injEq, Value.int.injEq, Bk.c.injEq, encI_inj, true_and]); (try omega))); (try case' h16 => first | exact to1 | (simp +decide only [go_sem]; (try simp (disch := first | exact ds | fail) only [go_sem, Nat.reduceAdd, Nat.reduceMul, Nat.reduceSub, Int.reduceToNat, Int.reduceNeg, Nat.reduceLeDiff, hD]); (try simp only [SV.pl.injEq, SV.sl.injEq, Value.int.injEq, Bk.c.injEq, encI_inj, true_and]); (try omega)))
  · obtain rfl : k = xs.length := by omega
    exact rT
end Go.Proofs.Ytcmnbefdbckhcaa

