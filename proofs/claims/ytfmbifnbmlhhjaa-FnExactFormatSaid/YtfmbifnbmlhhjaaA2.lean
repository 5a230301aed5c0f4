import Derived.Test.YtfmbifnbmlhhjaaA1
namespace Go.Proofs.Ytfmbifnbmlhhjaa
open Go Go.Vcg Go.IntWalk
set_option maxRecDepth 100000
set_option maxHeartbeats 20000000
set_option linter.unusedSimpArgs false
set_option linter.unusedVariables false

theorem c99 : CallOk Try.prog 99 := ⟨_, Try.func99, rfl, by kernel_rfl⟩
theorem c89 : CallOk Try.prog 89 := ⟨_, Try.func89, rfl, by kernel_rfl⟩
theorem c91 : CallOk Try.prog 91 := ⟨_, Try.func91, rfl, by kernel_rfl⟩
theorem c93 : CallOk Try.prog 93 := ⟨_, Try.func93, rfl, by kernel_rfl⟩
theorem c95 : CallOk Try.prog 95 := ⟨_, Try.func95, rfl, by kernel_rfl⟩
def oB (x : List Int) : List SV := [.ow 1 (encI .u8 x)]
def fB (x : List Int) : List SV := [.pd (encI .u8 x)]
theorem oB_clo (xs : List (List Int)) : cloRows (encL oB xs) = true := encL_clo _ (fun x => by simp [oB, cloRow, SV.clo, SV.clo0, encI_clo]) xs
theorem oB_shut (xs : List (List Int)) : shutRows (encL oB xs) = true := encL_shut _ (fun x => by simp [oB, shutL, SV.shut, encI_shut]) xs
theorem oB_frz (xs : List (List Int)) : frzRows (encL oB xs) = encL fB xs := encL_frz _ (fun x => by simp [oB, fB, frzL, SV.frz, encI_frz]) xs
theorem oB_len (xs : List (List Int)) : RowsLen (encL oB xs) 1 = True := encL_rowsLen oB (fun _ => rfl) xs
def totByteSS (xs : List (List Int)) : Nat := xs.length + sumN List.length xs
attribute [go_sem] oB fB oB_clo oB_shut oB_frz oB_len

theorem toByteSS_ok {xs : List (List Int)} (h : totByteSS xs < 2 ^ 40 := by exact pm) : TSpec Try.prog 99 [] [.pd (encL fB xs)] false [] (.ow 1 (encL oB xs)) := by
  have hall : ∀ k, k < xs.length → (xs.getD k default).length < 2 ^ 40 := fun k hk => by have := sumN_get List.length xs k hk; unfold totByteSS at h; omega
  have hlen : xs.length + sumN List.length xs < 2 ^ 40 := h
  have hD := dN0
  refine sT 23 [.tmp 2] Try.func99 fun w0 S0 ρ0 φ0 => ?_
  repeat' (first | apply W.seq | apply W.skip | apply W.region | apply W.block | apply N.code | apply N.blk | apply Sl.nil | apply W.exit | apply W.ret | apply E.hit | apply E.code | apply E.fin | refine zM ?_ | apply O.i | refine sP ?_ | refine sQ fun _ => ?_ | refine sX fun _ => ?_ | (refine k1 false [] c60 ?_; refine k2 toByteS_ok ?_) | refine zI ?_ ?_ | (intro hb; (try simp [-List.getD_eq_getElem?_getD] at hb); (try (exfalso; omega))))
  refine W.iter (fun k => ⟨23, [(0, .pd (encL fB xs)), (3, .sl 7 0 xs.length), (4, .pl (.int .i64 k))], [(7, .c 1 (encL oB (xs.take k) ++ List.replicate (xs.length - k) [.nl]))], []⟩) (fun k => True) (xs.length) (Weak.to (by first | rfl | (simp only [virtAt_n, virt_n]; rfl)) ?s1 ?b1 (by exact dfe)) ?h1 (fun k hk hH => ?body1)
  (try case' s1 => first | exact to1 | (simp +decide only [go_sem]; (try simp (disch := first | exact ds | fail) only [go_sem, Nat.reduceAdd, Nat.reduceMul, Nat.reduceSub, Int.reduceToNat, Int.reduceNeg, Nat.reduceLeDiff, hD]); (try simp only [SV.pl.injEq, SV.sl.injEq, Value.int.injEq, Bk.c.injEq, encI_inj, true_and]); (try omega))); (try case' b1 => first | exact to1 | (simp +decide only [go_sem]; (try simp (disch := first | exact ds | fail) only [go_sem, Nat.reduceAdd, Nat.reduceMul, Nat.reduceSub, Int.reduceToNat, Int.reduceNeg, Nat.reduceLeDiff, hD]); (try simp only [SV.pl.injEq, SV.sl.injEq, Value.int.injEq, Bk.c.injEq, encI_inj, true_and]); (try omega))); (try case' h1 => first | exact to1 | (simp +decide only [go_sem]; (try simp (disch := first | exact ds | fail) only [go_sem, Nat.reduceAdd, Nat.reduceMul, Nat.reduceSub, Int.reduceToNat, Int.reduceNeg, Nat.reduceLeDiff, hD]); (try simp only [SV.pl.injEq, SV.sl.injEq, Value.int.injEq, Bk.c.injEq, encI_inj, true_and]); (try omega)))
  repeat' (first | apply W.seq | apply W.skip | apply W.region | apply W.block | apply N.code | apply N.blk | apply Sl.nil | apply W.exit | apply W.ret | apply E.hit | apply E.code | apply E.fin | refine zM ?_ | apply O.i | refine sP ?_ | refine sQ fun _ => ?_ | refine sX fun _ => ?_ | (refine k1 false [] c60 ?_; refine k2 toByteS_ok ?_) | refine zI ?_ ?_ | (intro hb; (try simp [-List.getD_eq_getElem?_getD] at hb); (try (exfalso; omega))))
  · (refine N.fin ⟨by omega, ?h2, ?w2⟩; case' w2 => (refine eF 7 k 0 ?_; refine Weak.to (by first | rfl | (simp only [virtAt_n, virt_n]; rfl)) ?s2 ?b2 (by exact dfe)))
    (try case' s2 => first | exact to1 | (simp +decide only [go_sem]; (try simp (disch := first | exact ds | fail) only [go_sem, Nat.reduceAdd, Nat.reduceMul, Nat.reduceSub, Int.reduceToNat, Int.reduceNeg, Nat.reduceLeDiff, hD]); (try simp only [SV.pl.injEq, SV.sl.injEq, Value.int.injEq, Bk.c.injEq, encI_inj, true_and]); (try omega))); (try case' b2 => first | exact to1 | (simp +decide only [go_sem]; (try simp (disch := first | exact ds | fail) only [go_sem, Nat.reduceAdd, Nat.reduceMul, Nat.reduceSub, Int.reduceToNat, Int.reduceNeg, Nat.reduceLeDiff, hD]); (try simp only [SV.pl.injEq, SV.sl.injEq, Value.int.injEq, Bk.c.injEq, encI_inj, true_and]); (try omega))); (try case' h2 => first | exact to1 | (simp +decide only [go_sem]; (try simp (disch := first | exact ds | fail) only [go_sem, Nat.reduceAdd, Nat.reduceMul, Nat.reduceSub, Int.reduceToNat, Int.reduceNeg, Nat.reduceLeDiff, hD]); (try simp only [SV.pl.injEq, SV.sl.injEq, Value.int.injEq, Bk.c.injEq, encI_inj, true_and]); (try omega)))
    exact to_stepL oB [.nl] xs k (by omega)
  · obtain rfl : k = xs.length := by omega
    rw [to_allL]
    exact rT

theorem eqByteSS_ok {xs ys : List (List Int)} (h : totByteSS xs < 2 ^ 40 := by exact pm) : TSpec Try.prog 89 [] [.pd (encL fB xs), .pd (encL fB ys)] false [] (.pl (.bool (decide (xs = ys)))) := by
  have hall : ∀ k, k < xs.length → (xs.getD k default).length < 2 ^ 40 := fun k hk => by have := sumN_get List.length xs k hk; unfold totByteSS at h; omega
  have hlen : xs.length + sumN List.length xs < 2 ^ 40 := h
  have hD := dN0
  refine sT 27 [.tmp 4] Try.func89 fun w0 S0 ρ0 φ0 => ?_
  repeat' (first | apply W.seq | apply W.skip | apply W.region | apply W.block | apply N.code | apply N.blk | apply Sl.nil | apply W.exit | apply W.ret | apply E.hit | apply E.code | apply E.fin | refine zM ?_ | apply O.i | refine sP ?_ | refine sQ fun _ => ?_ | (refine rD (id := 6) anyW [] ?_; refine rP 0 false fun _ => ?_; refine rP 1 false fun _ => ?_; refine rP 2 false fun _ => ?_; refine rP 3 true fun _ => ?_; refine rP 4 false fun _ => ?_; refine rP 5 false fun _ => ?_; refine rP 6 false fun _ => ?_; refine rP 7 true fun _ => ?_; refine rO 8 fun _ _ _ _ _ => ?_; refine k1 false [] c28 ?_; refine k2 eqByteS_ok ?_; refine rP 9 false fun _ => ?_; refine rE ?_) | refine zI ?_ ?_ | (intro hb; (try simp [-List.getD_eq_getElem?_getD] at hb); (try (exfalso; omega))))
  · have hne : decide (xs = ys) = false := decide_eq_false fun e => hb (by rw [e])
    rw [hne]
    exact rT
  · refine W.iter (fun k => ⟨27, [(0, .pd (encL fB xs)), (1, .pd (encL fB ys)), (5, .pl (.int .i64 k))], [], []⟩) (fun k => xs.take k = ys.take k) (xs.length) (Weak.to (by first | rfl | (simp only [virtAt_n, virt_n]; rfl)) ?s3 ?b3 (by exact dfe)) ?h3 (fun k hk hH => ?body3)
    (try case' s3 => first | exact to1 | (simp +decide only [go_sem]; (try simp (disch := first | exact ds | fail) only [go_sem, Nat.reduceAdd, Nat.reduceMul, Nat.reduceSub, Int.reduceToNat, Int.reduceNeg, Nat.reduceLeDiff, hD]); (try simp only [SV.pl.injEq, SV.sl.injEq, Value.int.injEq, Bk.c.injEq, encI_inj, true_and]); (try omega))); (try case' b3 => first | exact to1 | (simp +decide only [go_sem]; (try simp (disch := first | exact ds | fail) only [go_sem, Nat.reduceAdd, Nat.reduceMul, Nat.reduceSub, Int.reduceToNat, Int.reduceNeg, Nat.reduceLeDiff, hD]); (try simp only [SV.pl.injEq, SV.sl.injEq, Value.int.injEq, Bk.c.injEq, encI_inj, true_and]); (try omega))); (try case' h3 => first | exact to1 | (simp +decide only [go_sem]; (try simp (disch := first | exact ds | fail) only [go_sem, Nat.reduceAdd, Nat.reduceMul, Nat.reduceSub, Int.reduceToNat, Int.reduceNeg, Nat.reduceLeDiff, hD]); (try simp only [SV.pl.injEq, SV.sl.injEq, Value.int.injEq, Bk.c.injEq, encI_inj, true_and]); (try omega)))
    repeat' (first | apply W.seq | apply W.skip | apply W.region | apply W.block | apply N.code | apply N.blk | apply Sl.nil | apply W.exit | apply W.ret | apply E.hit | apply E.code | apply E.fin | refine zM ?_ | apply O.i | refine sP ?_ | refine sQ fun _ => ?_ | (refine rD (id := 6) anyW [] ?_; refine rP 0 false fun _ => ?_; refine rP 1 false fun _ => ?_; refine rP 2 false fun _ => ?_; refine rP 3 true fun _ => ?_; refine rP 4 false fun _ => ?_; refine rP 5 false fun _ => ?_; refine rP 6 false fun _ => ?_; refine rP 7 true fun _ => ?_; refine rO 8 fun _ _ _ _ _ => ?_; refine k1 false [] c28 ?_; refine k2 eqByteS_ok ?_; refine rP 9 false fun _ => ?_; refine rE ?_) | refine zI ?_ ?_ | (intro hb; (try simp [-List.getD_eq_getElem?_getD] at hb); (try (exfalso; omega))))
    · rw [decide_ne_of_take default k hb]
      exact rT
    · (refine N.fin ⟨by omega, ?h4, ?w4⟩; case' w4 => (refine Weak.to (by first | rfl | (simp only [virtAt_n, virt_n]; rfl)) ?s4 ?b4 (by exact dfe)))
      (try case' s4 => first | exact to1 | (simp +decide only [go_sem]; (try simp (disch := first | exact ds | fail) only [go_sem, Nat.reduceAdd, Nat.reduceMul, Nat.reduceSub, Int.reduceToNat, Int.reduceNeg, Nat.reduceLeDiff, hD]); (try simp only [SV.pl.injEq, SV.sl.injEq, Value.int.injEq, Bk.c.injEq, encI_inj, true_and]); (try omega))); (try case' b4 => first | exact to1 | (simp +decide only [go_sem]; (try simp (disch := first | exact ds | fail) only [go_sem, Nat.reduceAdd, Nat.reduceMul, Nat.reduceSub, Int.reduceToNat, Int.reduceNeg, Nat.reduceLeDiff, hD]); (try simp only [SV.pl.injEq, SV.sl.injEq, Value.int.injEq, Bk.c.injEq, encI_inj, true_and]); (try omega))); (try case' h4 => first | exact to1 | (simp +decide only [go_sem]; (try simp (disch := first | exact ds | fail) only [go_sem, Nat.reduceAdd, Nat.reduceMul, Nat.reduceSub, Int.reduceToNat, Int.reduceNeg, Nat.reduceLeDiff, hD]); (try simp only [SV.pl.injEq, SV.sl.injEq, Value.int.injEq, Bk.c.injEq, encI_inj, true_and]); (try omega)))
      exact take_eq_step default xs ys k (by omega) (by omega) hH hb
    · rw [decide_eq_true (take_all_eq hH (by omega) (by omega))]
      exact rT

def mkB (b : Int) (x : List Int) : List Int := markL .u8 b x.length
theorem markByteSS_ok {xs : List (List Int)} {b : Int} (h : totByteSS xs < 2 ^ 40 := by exact pm) (hp : 0 ≤ b ∧ b + sumN List.length xs < 2 ^ 62 := by exact pm) : TSpec Try.prog 91 [(1000000, .c 1 (encL oB xs))] [.sl 1000000 0 xs.length, .pl (.int .i64 b)] false [(1000000, .c 1 (encL oB (mkS mkB List.length b xs)))] (.pl (.int .i64 (b + sumN List.length xs))) := by
  have hall : ∀ k, k < xs.length → (xs.getD k default).length < 2 ^ 40 := fun k hk => by have := sumN_get List.length xs k hk; unfold totByteSS at h; omega
  have hlen : xs.length + sumN List.length xs < 2 ^ 40 := h
  have hD := dN0
  refine sT 19 [.tmp 4] Try.func91 fun w0 S0 ρ0 φ0 => ?_
  repeat' (first | apply W.seq | apply W.skip | apply W.region | apply W.block | apply N.code | apply N.blk | apply Sl.nil | apply W.exit | apply W.ret | apply E.hit | apply E.code | apply E.fin | refine zM ?_ | apply O.i | refine sP ?_ | refine sQ fun _ => ?_ | (refine k1 false [(1000000, 0, none)] c29 ?_; refine k2 markByteS_ok ?_) | refine zI ?_ ?_ | (intro hb; (try simp [-List.getD_eq_getElem?_getD] at hb); (try (exfalso; omega))))
  refine W.iter (fun k => ⟨19, [(0, .sl 1000000 0 xs.length), (1, .pl (.int .i64 (b + sumN List.length (xs.take k)))), (5, .pl (.int .i64 k))], [(1000000, .c 1 (encL oB ((mkS mkB List.length b xs).take k ++ xs.drop k)))], []⟩) (fun k => True) (xs.length) (Weak.to (by first | rfl | (simp only [virtAt_n, virt_n]; rfl)) ?s5 ?b5 (by exact dfe)) ?h5 (fun k hk hH => ?body5)
  (try case' s5 => first | exact to1 | (simp +decide only [go_sem]; (try simp (disch := first | exact ds | fail) only [go_sem, Nat.reduceAdd, Nat.reduceMul, Nat.reduceSub, Int.reduceToNat, Int.reduceNeg, Nat.reduceLeDiff, hD]); (try simp only [SV.pl.injEq, SV.sl.injEq, Value.int.injEq, Bk.c.injEq, encI_inj, true_and]); (try omega))); (try case' b5 => first | exact to1 | (simp +decide only [go_sem]; (try simp (disch := first | exact ds | fail) only [go_sem, Nat.reduceAdd, Nat.reduceMul, Nat.reduceSub, Int.reduceToNat, Int.reduceNeg, Nat.reduceLeDiff, hD]); (try simp only [SV.pl.injEq, SV.sl.injEq, Value.int.injEq, Bk.c.injEq, encI_inj, true_and]); (try omega))); (try case' h5 => first | exact to1 | (simp +decide only [go_sem]; (try simp (disch := first | exact ds | fail) only [go_sem, Nat.reduceAdd, Nat.reduceMul, Nat.reduceSub, Int.reduceToNat, Int.reduceNeg, Nat.reduceLeDiff, hD]); (try simp only [SV.pl.injEq, SV.sl.injEq, Value.int.injEq, Bk.c.injEq, encI_inj, true_and]); (try omega)))
  have hsk := sumN_le List.length xs k
  repeat' (first | apply W.seq | apply W.skip | refine W.region (id := 0) ?_ | refine W.region (id := 1) ?_ | refine W.region (id := 2) ?_ | refine W.region (id := 3) ?_ | refine W.region (id := 5) ?_ | apply W.block | apply N.code | apply N.blk | apply Sl.nil | apply W.exit | apply W.ret | apply E.hit | apply E.code | apply E.fin | refine zM ?_ | apply O.i | refine sP ?_ | refine sQ fun _ => ?_ | (refine k1 false [(1000000, 0, none)] c29 ?_; refine k2 markByteS_ok ?_) | refine zI ?_ ?_ | (intro hb; (try simp [-List.getD_eq_getElem?_getD] at hb); (try (exfalso; omega))))
  · have hst := sumN_step List.length xs k hb
    have hsg := sumN_get List.length xs k hb
    (refine gU 1000000 k 0 2000000 ?_)
    repeat' (first | apply W.seq | apply W.skip | apply W.region | apply W.block | apply N.code | apply N.blk | apply Sl.nil | apply W.exit | apply W.ret | apply E.hit | apply E.code | apply E.fin | refine zM ?_ | apply O.i | refine sP ?_ | refine sQ fun _ => ?_ | (refine k1 false [(1000000, 0, none)] c29 ?_; refine k2 markByteS_ok ?_) | refine zI ?_ ?_ | (intro hb; (try simp [-List.getD_eq_getElem?_getD] at hb); (try (exfalso; omega))))
    (refine N.fin ⟨by omega, ?h6, ?w6⟩; case' w6 => (refine eF 1000000 k 0 ?_; refine Weak.to (by first | rfl | (simp only [virtAt_n, virt_n]; rfl)) ?s6 ?b6 (by exact dfe)))
    (try case' s6 => first | exact to1 | (simp +decide only [go_sem]; (try simp (disch := first | exact ds | fail) only [go_sem, Nat.reduceAdd, Nat.reduceMul, Nat.reduceSub, Int.reduceToNat, Int.reduceNeg, Nat.reduceLeDiff, hD]); (try simp only [SV.pl.injEq, SV.sl.injEq, Value.int.injEq, Bk.c.injEq, encI_inj, true_and]); (try omega))); (try case' b6 => first | exact to1 | (simp +decide only [go_sem]; (try simp (disch := first | exact ds | fail) only [go_sem, Nat.reduceAdd, Nat.reduceMul, Nat.reduceSub, Int.reduceToNat, Int.reduceNeg, Nat.reduceLeDiff, hD]); (try simp only [SV.pl.injEq, SV.sl.injEq, Value.int.injEq, Bk.c.injEq, encI_inj, true_and]); (try omega))); (try case' h6 => first | exact to1 | (simp +decide only [go_sem]; (try simp (disch := first | exact ds | fail) only [go_sem, Nat.reduceAdd, Nat.reduceMul, Nat.reduceSub, Int.reduceToNat, Int.reduceNeg, Nat.reduceLeDiff, hD]); (try simp only [SV.pl.injEq, SV.sl.injEq, Value.int.injEq, Bk.c.injEq, encI_inj, true_and]); (try omega)))
    exact mk_nextL oB mkB List.length b xs k (by omega)
  · obtain rfl : k = xs.length := by omega
    rw [take_drop_all _ _ (by simp)]
    exact rT

theorem heldByteSS_ok {xs : List (List Int)} {b : Int} (h : totByteSS xs < 2 ^ 40 := by exact pm) (hp : 0 ≤ b ∧ b + sumN List.length xs < 2 ^ 62 := by exact pm) : TSpec Try.prog 93 [] [.pd (encL fB (mkS mkB List.length b xs)), .pl (.int .i64 b)] false [] (.pl (.int .i64 (b + sumN List.length xs))) := by
  have hall : ∀ k, k < xs.length → (xs.getD k default).length < 2 ^ 40 := fun k hk => by have := sumN_get List.length xs k hk; unfold totByteSS at h; omega
  have hlen : xs.length + sumN List.length xs < 2 ^ 40 := h
  have hD := @mkB.eq_1
  refine sT 21 [.tmp 4] Try.func93 fun w0 S0 ρ0 φ0 => ?_
  repeat' (first | apply W.seq | apply W.skip | apply W.region | apply W.block | apply N.code | apply N.blk | apply Sl.nil | apply W.exit | apply W.ret | apply E.hit | apply E.code | apply E.fin | refine zM ?_ | apply O.i | refine sP ?_ | refine sQ fun _ => ?_ | (refine k1 false [] c30 ?_; refine k2 heldByteS_ok ?_) | refine zI ?_ ?_ | (intro hb; (try simp [-List.getD_eq_getElem?_getD] at hb); (try (exfalso; omega))))
  refine W.iter (fun k => ⟨21, [(0, .pd (encL fB (mkS mkB List.length b xs))), (1, .pl (.int .i64 (b + sumN List.length (xs.take k)))), (5, .pl (.int .i64 k))], [], []⟩) (fun k => True) (xs.length) (Weak.to (by first | rfl | (simp only [virtAt_n, virt_n]; rfl)) ?s7 ?b7 (by exact dfe)) ?h7 (fun k hk hH => ?body7)
  (try case' s7 => first | exact to1 | (simp +decide only [go_sem]; (try simp (disch := first | exact ds | fail) only [go_sem, Nat.reduceAdd, Nat.reduceMul, Nat.reduceSub, Int.reduceToNat, Int.reduceNeg, Nat.reduceLeDiff, hD]); (try simp only [SV.pl.injEq, SV.sl.injEq, Value.int.injEq, Bk.c.injEq, encI_inj, true_and]); (try omega))); (try case' b7 => first | exact to1 | (simp +decide only [go_sem]; (try simp (disch := first | exact ds | fail) only [go_sem, Nat.reduceAdd, Nat.reduceMul, Nat.reduceSub, Int.reduceToNat, Int.reduceNeg, Nat.reduceLeDiff, hD]); (try simp only [SV.pl.injEq, SV.sl.injEq, Value.int.injEq, Bk.c.injEq, encI_inj, true_and]); (try omega))); (try case' h7 => first | exact to1 | (simp +decide only [go_sem]; (try simp (disch := first | exact ds | fail) only [go_sem, Nat.reduceAdd, Nat.reduceMul, Nat.reduceSub, Int.reduceToNat, Int.reduceNeg, Nat.reduceLeDiff, hD]); (try simp only [SV.pl.injEq, SV.sl.injEq, Value.int.injEq, Bk.c.injEq, encI_inj, true_and]); (try omega)))
  have hsk := sumN_le List.length xs k
  repeat' (first | apply W.seq | apply W.skip | refine W.region (id := 0) ?_ | refine W.region (id := 1) ?_ | refine W.region (id := 2) ?_ | refine W.region (id := 5) ?_ | refine W.region (id := 6) ?_ | refine W.region (id := 3) ?_ | refine W.region (id := 7) ?_ | apply W.block | apply N.code | apply N.blk | apply Sl.nil | apply W.exit | apply W.ret | apply E.hit | apply E.code | apply E.fin | refine zM ?_ | apply O.i | refine sP ?_ | refine sQ fun _ => ?_ | (refine k1 false [] c30 ?_; refine k2 heldByteS_ok ?_) | refine zI ?_ ?_ | (intro hb; (try simp [-List.getD_eq_getElem?_getD] at hb); (try (exfalso; omega))))
  · have hst := sumN_step List.length xs k hb
    have hsg := sumN_get List.length xs k hb
    repeat' (first | apply W.seq | apply W.skip | apply W.region | apply W.block | apply N.code | apply N.blk | apply Sl.nil | apply W.exit | apply W.ret | apply E.hit | apply E.code | apply E.fin | refine zM ?_ | apply O.i | refine sP ?_ | refine sQ fun _ => ?_ | (refine k1 false [] c30 ?_; refine k2 heldByteS_ok ?_) | refine zI ?_ ?_ | (intro hb; (try simp [-List.getD_eq_getElem?_getD] at hb); (try (exfalso; omega))))
    (refine N.fin ⟨by omega, ?h8, ?w8⟩; case' w8 => (refine Weak.to (by first | rfl | (simp only [virtAt_n, virt_n]; rfl)) ?s8 ?b8 (by exact dfe)))
    (try case' s8 => first | exact to1 | (simp +decide only [go_sem]; (try simp (disch := first | exact ds | fail) only [go_sem, Nat.reduceAdd, Nat.reduceMul, Nat.reduceSub, Int.reduceToNat, Int.reduceNeg, Nat.reduceLeDiff, hD]); (try simp only [SV.pl.injEq, SV.sl.injEq, Value.int.injEq, Bk.c.injEq, encI_inj, true_and]); (try omega))); (try case' b8 => first | exact to1 | (simp +decide only [go_sem]; (try simp (disch := first | exact ds | fail) only [go_sem, Nat.reduceAdd, Nat.reduceMul, Nat.reduceSub, Int.reduceToNat, Int.reduceNeg, Nat.reduceLeDiff, hD]); (try simp only [SV.pl.injEq, SV.sl.injEq, Value.int.injEq, Bk.c.injEq, encI_inj, true_and]); (try omega))); (try case' h8 => first | exact to1 | (simp +decide only [go_sem]; (try simp (disch := first | exact ds | fail) only [go_sem, Nat.reduceAdd, Nat.reduceMul, Nat.reduceSub, Int.reduceToNat, Int.reduceNeg, Nat.reduceLeDiff, hD]); (try simp only [SV.pl.injEq, SV.sl.injEq, Value.int.injEq, Bk.c.injEq, encI_inj, true_and]); (try omega)))
  · obtain rfl : k = xs.length := by omega
    exact rT

def lnByteSS (xs : List (List Int)) : Prop := xs.length < 2 ^ 50 ∧ ∀ k, k < xs.length → lnB (xs.getD k default)
theorem szByteSS_ok {xs : List (List Int)} {left : Int} (h : lnByteSS xs := by exact pm) (hp : 0 ≤ left ∧ left < 2 ^ 62 := by exact pm) : TSpec Try.prog 95 [] [.pd (encL fB xs), .pl (.int .i64 left)] false [] (.pl (.int .i64 (if left < totByteSS xs then -1 else left - totByteSS xs))) := by
  have hall := h.2
  have hl := h.1
  have hlen : totByteSS xs = xs.length + sumN List.length xs := rfl
  have hD := @mkB.eq_1
  refine sT 27 [.tmp 4] Try.func95 fun w0 S0 ρ0 φ0 => ?_
  repeat' (first | apply W.seq | apply W.skip | apply W.region | apply W.block | apply N.code | apply N.blk | apply Sl.nil | apply W.exit | apply W.ret | apply E.hit | apply E.code | apply E.fin | refine zM ?_ | apply O.i | refine sP ?_ | refine sQ fun _ => ?_ | (refine k1 false [] c153 ?_; refine k2 szByteS_ok ?_) | refine zI ?_ ?_ | (intro hb; (try simp [-List.getD_eq_getElem?_getD] at hb); (try (exfalso; omega))))
  · rw [if_pos (by omega)]
    exact rT
  · refine W.iter (fun k => ⟨27, [(0, .pd (encL fB xs)), (1, .pl (.int .i64 (left - xs.length - sumN List.length (xs.take k)))), (5, .pl (.int .i64 k))], [], []⟩) (fun k => (sumN List.length (xs.take k) : Int) ≤ left - xs.length) (xs.length) (Weak.to (by first | rfl | (simp only [virtAt_n, virt_n]; rfl)) ?s9 ?b9 (by exact dfe)) ?h9 (fun k hk hH => ?body9)
    (try case' s9 => first | exact to1 | (simp +decide only [go_sem]; (try simp (disch := first | exact ds | fail) only [go_sem, Nat.reduceAdd, Nat.reduceMul, Nat.reduceSub, Int.reduceToNat, Int.reduceNeg, Nat.reduceLeDiff, hD]); (try simp only [SV.pl.injEq, SV.sl.injEq, Value.int.injEq, Bk.c.injEq, encI_inj, true_and]); (try omega))); (try case' b9 => first | exact to1 | (simp +decide only [go_sem]; (try simp (disch := first | exact ds | fail) only [go_sem, Nat.reduceAdd, Nat.reduceMul, Nat.reduceSub, Int.reduceToNat, Int.reduceNeg, Nat.reduceLeDiff, hD]); (try simp only [SV.pl.injEq, SV.sl.injEq, Value.int.injEq, Bk.c.injEq, encI_inj, true_and]); (try omega))); (try case' h9 => first | exact to1 | (simp +decide only [go_sem]; (try simp (disch := first | exact ds | fail) only [go_sem, Nat.reduceAdd, Nat.reduceMul, Nat.reduceSub, Int.reduceToNat, Int.reduceNeg, Nat.reduceLeDiff, hD]); (try simp only [SV.pl.injEq, SV.sl.injEq, Value.int.injEq, Bk.c.injEq, encI_inj, true_and]); (try omega)))
    have hsk := sumN_le List.length xs k
    repeat' (first | apply W.seq | apply W.skip | refine W.region (id := 0) ?_ | refine W.region (id := 1) ?_ | refine W.region (id := 2) ?_ | refine W.region (id := 3) ?_ | refine W.region (id := 4) ?_ | refine W.region (id := 5) ?_ | refine W.region (id := 8) ?_ | refine W.region (id := 9) ?_ | refine W.region (id := 6) ?_ | refine W.region (id := 10) ?_ | apply W.block | apply N.code | apply N.blk | apply Sl.nil | apply W.exit | apply W.ret | apply E.hit | apply E.code | apply E.fin | refine zM ?_ | apply O.i | refine sP ?_ | refine sQ fun _ => ?_ | (refine k1 false [] c153 ?_; refine k2 szByteS_ok ?_) | refine zI ?_ ?_ | (intro hb; (try simp [-List.getD_eq_getElem?_getD] at hb); (try (exfalso; omega))))
    · have hst := sumN_step List.length xs k hb
      have hsg := sumN_get List.length xs k hb
      repeat' (first | apply W.seq | apply W.skip | apply W.region | apply W.block | apply N.code | apply N.blk | apply Sl.nil | apply W.exit | apply W.ret | apply E.hit | apply E.code | apply E.fin | refine zM ?_ | apply O.i | refine sP ?_ | refine sQ fun _ => ?_ | (refine k1 false [] c153 ?_; refine k2 szByteS_ok ?_) | refine zI ?_ ?_ | (intro hb; (try simp [-List.getD_eq_getElem?_getD] at hb); (try (exfalso; omega))))
      · rw [if_pos (by omega)]
        exact rT
      · (refine N.fin ⟨by omega, ?h10, ?w10⟩; case' w10 => (refine Weak.to (by first | rfl | (simp only [virtAt_n, virt_n]; rfl)) ?s10 ?b10 (by exact dfe)))
        (try case' s10 => first | exact to1 | (simp +decide only [go_sem]; (try simp (disch := first | exact ds | fail) only [go_sem, Nat.reduceAdd, Nat.reduceMul, Nat.reduceSub, Int.reduceToNat, Int.reduceNeg, Nat.reduceLeDiff, hD]); (try simp only [SV.pl.injEq, SV.sl.injEq, Value.int.injEq, Bk.c.injEq, encI_inj, true_and]); (try omega))); (try case' b10 => first | exact to1 | (simp +decide only [go_sem]; (try simp (disch := first | exact ds | fail) only [go_sem, Nat.reduceAdd, Nat.reduceMul, Nat.reduceSub, Int.reduceToNat, Int.reduceNeg, Nat.reduceLeDiff, hD]); (try simp only [SV.pl.injEq, SV.sl.injEq, Value.int.injEq, Bk.c.injEq, encI_inj, true_and]); (try omega))); (try case' h10 => first | exact to1 | (simp +decide only [go_sem]; (try simp (disch := first | exact ds | fail) only [go_sem, Nat.reduceAdd, Nat.reduceMul, Nat.reduceSub, Int.reduceToNat, Int.reduceNeg, Nat.reduceLeDiff, hD]); (try simp only [SV.pl.injEq, SV.sl.injEq, Value.int.injEq, Bk.c.injEq, encI_inj, true_and]); (try omega)))
    · obtain rfl : k = xs.length := by omega
      rw [List.take_length] at hH
      rw [if_neg (by omega)]
      exact rT
end Go.Proofs.Ytfmbifnbmlhhjaa

