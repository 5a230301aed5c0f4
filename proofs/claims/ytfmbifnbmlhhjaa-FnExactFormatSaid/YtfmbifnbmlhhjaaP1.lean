import Derived.Test.YtfmbifnbmlhhjaaO1
import Derived.Test.YtfmbifnbmlhhjaaA11
import Derived.Test.YtfmbifnbmlhhjaaF1
import Derived.Test.YtfmbifnbmlhhjaaN1
import Derived.Test.YtfmbifnbmlhhjaaUc
import Derived.Test.YtfmbifnbmlhhjaaE1
namespace Go.Proofs.Ytfmbifnbmlhhjaa
open Go Go.Vcg Go.IntWalk
set_option maxRecDepth 100000
set_option maxHeartbeats 20000000
set_option linter.unusedSimpArgs false
set_option linter.unusedVariables false
theorem c124 : CallOk Try.prog 124 := ⟨_, Try.func124, rfl, by kernel_rfl⟩
theorem c127 : CallOk Try.prog 127 := ⟨_, Try.func127, rfl, by kernel_rfl⟩
def opsP (k : Int) (pg : List Int) : List OpA := (List.range 4).map fun (i : Nat) => ⟨1, 4 * k + i, (pg.drop (64 * i)).take 64⟩
theorem opsP_length (k : Int) (pg : List Int) : (opsP k pg).length = 4 := by simp [opsP]
theorem opsP_getD (k : Int) (pg : List Int) (i : Nat) (h : i < 4) : (opsP k pg).getD i default = ⟨1, 4 * k + i, (pg.drop (64 * i)).take 64⟩ := by
  simp [opsP, List.getD_eq_getElem?_getD, h]
theorem opsP_step (k : Int) (pg : List Int) (i : Nat) (h : i < 4) : encL oOp ((opsP k pg).take i) ++ [[.pl (.int .i64 1), .pl (.int .i64 (4 * k + i)), .ow 1 (encI .u8 ((pg.drop (64 * i)).take 64))]] = encL oOp ((opsP k pg).take (i + 1)) := by
  rw [← nSnoc default (opsP k pg) i (by rw [opsP_length]; exact h), ← encL_append, opsP_getD k pg i h]
  rfl
theorem encPage_length (k n : Int) (xs : List Int) (h : xs.length ≤ 240) : (encPage k n xs).length = 256 := by
  unfold encPage
  rw [List.length_append, lowB_length, pageRest_length k n xs h]
theorem spPageOps_ok {k n : Int} {xs : List Int} {b : Bool} (hx : xs.length < 2 ^ 40 := by exact pm) (ho : okBytes xs := by exact pm) (hP : b = true ↔ headOk k n xs.length := by exact pm) : TSpec Try.prog 124 [] [.pl (.int .i64 k), .pl (.int .i64 n), .pd (encI .u8 xs)] false [] (.tu [.ow 3 (encL oOp (if b then opsP k (encPage k n xs) else [])), .pl (.bool b)]) := by
  have hsp := spEncodePage_ok hx ho hP
  cases b with
  | false =>
    rw [if_neg (by simp)] at hsp ⊢
    have hD := @encI_nil
    refine sT 44 [.tmp 6, .tmp 7] Try.func124 fun w0 S0 ρ0 φ0 => ?_
    repeat' (first | apply W.seq | apply W.skip | apply W.region | apply W.block | apply N.code | apply N.blk | apply Sl.nil | apply W.exit | apply W.ret | apply E.hit | apply E.code | apply E.fin | refine zM ?_ | apply O.i | refine sP ?_ | refine sQ fun _ => ?_ | refine sX fun _ => ?_ | (refine k1 false [] c14 ?_; refine k2 hsp ?_) | (refine k1 false [] c84 ?_; refine k2 l1Bytes_ok ?_) | refine zI ?_ ?_ | (intro hb; (try simp [-List.getD_eq_getElem?_getD] at hb); (try (exfalso; omega))))
    exact rT
  | true =>
    rw [if_pos rfl] at hsp ⊢
    have hk := hP.mp rfl
    unfold headOk at hk
    have hpl := encPage_length k n xs (by omega)
    obtain ⟨pg, hpg⟩ : ∃ pg, pg = encPage k n xs := ⟨_, rfl⟩
    rw [← hpg] at hsp hpl ⊢
    have hol := opsP_length k pg
    have hD := And.intro @encI_nil ((hpl))
    have hD := And.intro @encI_nil ((hpl))
    refine sT 44 [.tmp 6, .tmp 7] Try.func124 fun w0 S0 ρ0 φ0 => ?_
    repeat' (first | apply W.seq | apply W.skip | apply W.region | apply W.block | apply N.code | apply N.blk | apply Sl.nil | apply W.exit | apply W.ret | apply E.hit | apply E.code | apply E.fin | refine zM ?_ | apply O.i | refine sP ?_ | refine sQ fun _ => ?_ | refine sX fun _ => ?_ | (refine k1 false [] c14 ?_; refine k2 hsp ?_) | (refine k1 false [] c84 ?_; refine k2 l1Bytes_ok ?_) | refine zI ?_ ?_ | (intro hb; (try simp [-List.getD_eq_getElem?_getD] at hb); (try (exfalso; omega))))
    (refine gR 12 2000000 ?_; refine gR (nmR 17) 2000001 ?_)
    refine W.iter (fun i => ⟨44, [(0, .pl (.int .i64 k)), (8, .sl 2000000 0 i), (9, .sl 2000001 0 256), (11, .pl (.int .i64 i))], [(2000000, .c 3 (encL oOp ((opsP k pg).take i))), (2000001, .c 1 (encI .u8 pg))], []⟩) (fun i => True) (4) (Weak.to (by first | rfl | (simp only [virtAt_n, virt_n]; rfl)) ?s1 ?b1 (by exact dfe)) ?h1 (fun i hi Hi => ?body1)
    (try case' s1 => first | exact to1 | (simp +decide only [go_sem]; (try simp (disch := first | exact ds | fail) only [go_sem, Nat.reduceAdd, Nat.reduceMul, Nat.reduceSub, Int.reduceToNat, Int.reduceNeg, Nat.reduceLeDiff, hD]); (try simp only [SV.pl.injEq, SV.sl.injEq, Value.int.injEq, Bk.c.injEq, encI_inj, true_and]); (try omega))); (try case' b1 => first | exact to1 | (simp +decide only [go_sem]; (try simp (disch := first | exact ds | fail) only [go_sem, Nat.reduceAdd, Nat.reduceMul, Nat.reduceSub, Int.reduceToNat, Int.reduceNeg, Nat.reduceLeDiff, hD]); (try simp only [SV.pl.injEq, SV.sl.injEq, Value.int.injEq, Bk.c.injEq, encI_inj, true_and]); (try omega))); (try case' h1 => first | exact to1 | (simp +decide only [go_sem]; (try simp (disch := first | exact ds | fail) only [go_sem, Nat.reduceAdd, Nat.reduceMul, Nat.reduceSub, Int.reduceToNat, Int.reduceNeg, Nat.reduceLeDiff, hD]); (try simp only [SV.pl.injEq, SV.sl.injEq, Value.int.injEq, Bk.c.injEq, encI_inj, true_and]); (try omega)))
    have e1 : (64 * (i : Int)).toNat = 64 * i := by omega
    have e2 : (64 * (i : Int) + 64).toNat = 64 * i + 64 := by omega
    have hli : ((opsP k pg).take i).length = i := by rw [List.length_take]; omega
    have hD := And.intro (hpl) (And.intro (e1) (And.intro (e2) (And.intro (hli) (And.intro @lDrop (@lTake)))))
    repeat' (first | apply W.seq | apply W.skip | refine W.region (id := 0) ?_ | refine W.region (id := 1) ?_ | refine W.region (id := 2) ?_ | refine W.region (id := 3) ?_ | refine W.region (id := 4) ?_ | refine W.region (id := 5) ?_ | refine W.region (id := 6) ?_ | refine W.region (id := 7) ?_ | refine W.region (id := 9) ?_ | apply W.block | apply N.code | apply N.blk | apply Sl.nil | apply W.exit | apply W.ret | apply E.hit | apply E.code | apply E.fin | refine zM ?_ | apply O.i | refine sP ?_ | refine sQ fun _ => ?_ | refine sX fun _ => ?_ | (refine k1 false [] c14 ?_; refine k2 hsp ?_) | (refine k1 false [] c84 ?_; refine k2 l1Bytes_ok ?_) | refine zI ?_ ?_ | (intro hb; (try simp [-List.getD_eq_getElem?_getD] at hb); (try (exfalso; omega))))
    · have e3 : 64 * i + 64 - 64 * i = 64 := by omega
      have e4 : min 64 (256 - 64 * i) = 64 := by omega
      have hst := opsP_step k pg i (by omega)
      have hD := And.intro (hpl) (And.intro (e1) (And.intro (e2) (And.intro (e3) (And.intro (e4) (And.intro (hli) (And.intro @lDrop (And.intro @lTake ((hst)))))))))
      repeat' (first | apply W.seq | apply W.skip | apply W.region | apply W.block | apply N.code | apply N.blk | apply Sl.nil | apply W.exit | apply W.ret | apply E.hit | apply E.code | apply E.fin | refine zM ?_ | apply O.i | refine sP ?_ | refine sQ fun _ => ?_ | refine sX fun _ => ?_ | (refine k1 false [] c14 ?_; refine k2 hsp ?_) | (refine k1 false [] c84 ?_; refine k2 l1Bytes_ok ?_) | refine zI ?_ ?_ | (intro hb; (try simp [-List.getD_eq_getElem?_getD] at hb); (try (exfalso; omega))))
      (refine N.fin ⟨by omega, ?h2, ?w2⟩; case' w2 => (refine eF 42 i 2 ?_; refine eR 42 2000000 ?_; refine Weak.to (by first | rfl | (simp only [virtAt_n, virt_n]; rfl)) ?s2 ?b2 (by exact dfe)))
      (try case' s2 => first | exact to1 | (simp +decide only [go_sem]; (try simp (disch := first | exact ds | fail) only [go_sem, Nat.reduceAdd, Nat.reduceMul, Nat.reduceSub, Int.reduceToNat, Int.reduceNeg, Nat.reduceLeDiff, hD]); (try simp only [SV.pl.injEq, SV.sl.injEq, Value.int.injEq, Bk.c.injEq, encI_inj, true_and]); (try omega))); (try case' b2 => first | exact to1 | (simp +decide only [go_sem]; (try simp (disch := first | exact ds | fail) only [go_sem, Nat.reduceAdd, Nat.reduceMul, Nat.reduceSub, Int.reduceToNat, Int.reduceNeg, Nat.reduceLeDiff, hD]); (try simp only [SV.pl.injEq, SV.sl.injEq, Value.int.injEq, Bk.c.injEq, encI_inj, true_and]); (try omega))); (try case' h2 => first | exact to1 | (simp +decide only [go_sem]; (try simp (disch := first | exact ds | fail) only [go_sem, Nat.reduceAdd, Nat.reduceMul, Nat.reduceSub, Int.reduceToNat, Int.reduceNeg, Nat.reduceLeDiff, hD]); (try simp only [SV.pl.injEq, SV.sl.injEq, Value.int.injEq, Bk.c.injEq, encI_inj, true_and]); (try omega)))
    obtain rfl : i = 4 := by omega
    rw [List.take_of_length_le (by omega)]
    exact rT
theorem imPageOps_ok {k n : Int} {xs : List Int} {b : Bool} (hx : xs.length < 2 ^ 40 := by exact pm) (ho : okBytes xs := by exact pm) (hP : b = true ↔ headOk k n xs.length := by exact pm) : TSpec Try.prog 127 [] [.pl (.int .i64 k), .pl (.int .i64 n), .pd (encI .u8 xs)] false [] (.tu [.ow 3 (encL oOp (if b then opsP k (encPage k n xs) else [])), .pl (.bool b)]) := by
  have him := imEncodePage_ok hx ho hP
  cases b with
  | false =>
    rw [if_neg (by simp)] at him ⊢
    have hD := @encI_nil
    refine sT 42 [.tmp 6, .tmp 7] Try.func127 fun w0 S0 ρ0 φ0 => ?_
    repeat' (first | apply W.seq | apply W.skip | apply W.region | apply W.block | apply N.code | apply N.blk | apply Sl.nil | apply W.exit | apply W.ret | apply E.hit | apply E.code | apply E.fin | refine zM ?_ | apply O.i | refine sP ?_ | refine sQ fun _ => ?_ | refine sX fun _ => ?_ | (refine k1 false [] c15 ?_; refine k2 him ?_) | (refine k1 false [] c81 ?_; refine k2 bytesClone_ok ?_) | refine zI ?_ ?_ | (intro hb; (try simp [-List.getD_eq_getElem?_getD] at hb); (try (exfalso; omega))))
    exact rT
  | true =>
    rw [if_pos rfl] at him ⊢
    have hk := hP.mp rfl
    unfold headOk at hk
    have hpl := encPage_length k n xs (by omega)
    obtain ⟨pg, hpg⟩ : ∃ pg, pg = encPage k n xs := ⟨_, rfl⟩
    rw [← hpg] at him hpl ⊢
    have hol := opsP_length k pg
    have hD := And.intro @encI_nil ((hpl))
    have hD := And.intro @encI_nil ((hpl))
    refine sT 42 [.tmp 6, .tmp 7] Try.func127 fun w0 S0 ρ0 φ0 => ?_
    repeat' (first | apply W.seq | apply W.skip | apply W.region | apply W.block | apply N.code | apply N.blk | apply Sl.nil | apply W.exit | apply W.ret | apply E.hit | apply E.code | apply E.fin | refine zM ?_ | apply O.i | refine sP ?_ | refine sQ fun _ => ?_ | refine sX fun _ => ?_ | (refine k1 false [] c15 ?_; refine k2 him ?_) | (refine k1 false [] c81 ?_; refine k2 bytesClone_ok ?_) | refine zI ?_ ?_ | (intro hb; (try simp [-List.getD_eq_getElem?_getD] at hb); (try (exfalso; omega))))
    (refine gV 10 2000000 3 ?_; refine gR (nmR 16) 2000001 ?_)
    refine W.iter (fun i => ⟨42, [(0, .pl (.int .i64 k)), (10, .sl 2000000 0 i), (8, .sl 2000001 0 256), (21, .pl (.int .i64 i))], [(2000000, .c 3 (encL oOp ((opsP k pg).take i))), (2000001, .c 1 (encI .u8 pg))], []⟩) (fun i => True) (4) (Weak.to (by first | rfl | (simp only [virtAt_n, virt_n]; rfl)) ?s3 ?b3 (by exact dfe)) ?h3 (fun i hi Hi => ?body3)
    (try case' s3 => first | exact to1 | (simp +decide only [go_sem]; (try simp (disch := first | exact ds | fail) only [go_sem, Nat.reduceAdd, Nat.reduceMul, Nat.reduceSub, Int.reduceToNat, Int.reduceNeg, Nat.reduceLeDiff, hD]); (try simp only [SV.pl.injEq, SV.sl.injEq, Value.int.injEq, Bk.c.injEq, encI_inj, true_and]); (try omega))); (try case' b3 => first | exact to1 | (simp +decide only [go_sem]; (try simp (disch := first | exact ds | fail) only [go_sem, Nat.reduceAdd, Nat.reduceMul, Nat.reduceSub, Int.reduceToNat, Int.reduceNeg, Nat.reduceLeDiff, hD]); (try simp only [SV.pl.injEq, SV.sl.injEq, Value.int.injEq, Bk.c.injEq, encI_inj, true_and]); (try omega))); (try case' h3 => first | exact to1 | (simp +decide only [go_sem]; (try simp (disch := first | exact ds | fail) only [go_sem, Nat.reduceAdd, Nat.reduceMul, Nat.reduceSub, Int.reduceToNat, Int.reduceNeg, Nat.reduceLeDiff, hD]); (try simp only [SV.pl.injEq, SV.sl.injEq, Value.int.injEq, Bk.c.injEq, encI_inj, true_and]); (try omega)))
    have e1 : ((i : Int) * 64).toNat = 64 * i := by omega
    have e2 : (((i : Int) + 1) * 64).toNat = 64 * i + 64 := by omega
    have hli : ((opsP k pg).take i).length = i := by rw [List.length_take]; omega
    have hD := And.intro (hpl) (And.intro (e1) (And.intro (e2) (And.intro (hli) (And.intro @lDrop (@lTake)))))
    repeat' (first | apply W.seq | apply W.skip | refine W.region (id := 0) ?_ | refine W.region (id := 1) ?_ | refine W.region (id := 2) ?_ | refine W.region (id := 3) ?_ | refine W.region (id := 4) ?_ | refine W.region (id := 5) ?_ | refine W.region (id := 6) ?_ | refine W.region (id := 8) ?_ | refine W.region (id := 9) ?_ | refine W.region (id := 10) ?_ | apply W.block | apply N.code | apply N.blk | apply Sl.nil | apply W.exit | apply W.ret | apply E.hit | apply E.code | apply E.fin | refine zM ?_ | apply O.i | refine sP ?_ | refine sQ fun _ => ?_ | refine sX fun _ => ?_ | (refine k1 false [] c15 ?_; refine k2 him ?_) | (refine k1 false [] c81 ?_; refine k2 bytesClone_ok ?_) | refine zI ?_ ?_ | (intro hb; (try simp [-List.getD_eq_getElem?_getD] at hb); (try (exfalso; omega))))
    · have e3 : 64 * i + 64 - 64 * i = 64 := by omega
      have e4 : min 64 (256 - 64 * i) = 64 := by omega
      have hst := opsP_step k pg i (by omega)
      have hD := And.intro (hpl) (And.intro (e1) (And.intro (e2) (And.intro (e3) (And.intro (e4) (And.intro (hli) (And.intro @lDrop (And.intro @lTake ((hst)))))))))
      repeat' (first | apply W.seq | apply W.skip | apply W.region | apply W.block | apply N.code | apply N.blk | apply Sl.nil | apply W.exit | apply W.ret | apply E.hit | apply E.code | apply E.fin | refine zM ?_ | apply O.i | refine sP ?_ | refine sQ fun _ => ?_ | refine sX fun _ => ?_ | (refine k1 false [] c15 ?_; refine k2 him ?_) | (refine k1 false [] c81 ?_; refine k2 bytesClone_ok ?_) | refine zI ?_ ?_ | (intro hb; (try simp [-List.getD_eq_getElem?_getD] at hb); (try (exfalso; omega))))
      (refine N.fin ⟨by omega, ?h4, ?w4⟩; case' w4 => (refine eF 39 i 2 ?_; refine eR 39 2000000 ?_; refine Weak.to (by first | rfl | (simp only [virtAt_n, virt_n]; rfl)) ?s4 ?b4 (by exact dfe)))
      (try case' s4 => first | exact to1 | (simp +decide only [go_sem]; (try simp (disch := first | exact ds | fail) only [go_sem, Nat.reduceAdd, Nat.reduceMul, Nat.reduceSub, Int.reduceToNat, Int.reduceNeg, Nat.reduceLeDiff, hD]); (try simp only [SV.pl.injEq, SV.sl.injEq, Value.int.injEq, Bk.c.injEq, encI_inj, true_and]); (try omega))); (try case' b4 => first | exact to1 | (simp +decide only [go_sem]; (try simp (disch := first | exact ds | fail) only [go_sem, Nat.reduceAdd, Nat.reduceMul, Nat.reduceSub, Int.reduceToNat, Int.reduceNeg, Nat.reduceLeDiff, hD]); (try simp only [SV.pl.injEq, SV.sl.injEq, Value.int.injEq, Bk.c.injEq, encI_inj, true_and]); (try omega))); (try case' h4 => first | exact to1 | (simp +decide only [go_sem]; (try simp (disch := first | exact ds | fail) only [go_sem, Nat.reduceAdd, Nat.reduceMul, Nat.reduceSub, Int.reduceToNat, Int.reduceNeg, Nat.reduceLeDiff, hD]); (try simp only [SV.pl.injEq, SV.sl.injEq, Value.int.injEq, Bk.c.injEq, encI_inj, true_and]); (try omega)))
    obtain rfl : i = 4 := by omega
    rw [List.take_of_length_le (by omega)]
    exact rT
end Go.Proofs.Ytfmbifnbmlhhjaa

