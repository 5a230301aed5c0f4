import Derived.Test.YtnancifnodbkdaaB21
import Derived.Test.YtnancifnodbkdaaB18
import Derived.Test.YtnancifnodbkdaaUc
namespace Go.Proofs.Ytnancifnodbkdaa
open Go Go.Vcg Go.IntWalk
set_option maxRecDepth 100000
set_option maxHeartbeats 20000000
set_option linter.unusedSimpArgs false
set_option linter.unusedVariables false
theorem c122 : CallOk Try.prog 122 := ⟨_, Try.func122, rfl, by kernel_rfl⟩
theorem c55 : CallOk Try.prog 55 := ⟨_, Try.func55, rfl, by kernel_rfl⟩
theorem c176 : CallOk Try.prog 176 := ⟨_, Try.func176, rfl, by kernel_rfl⟩
theorem c153 : CallOk Try.prog 153 := ⟨_, Try.func153, rfl, by kernel_rfl⟩
theorem c154 : CallOk Try.prog 154 := ⟨_, Try.func154, rfl, by kernel_rfl⟩
theorem c105 : CallOk Try.prog 105 := ⟨_, Try.func105, rfl, by kernel_rfl⟩
theorem c200 : CallOk Try.prog 200 := ⟨_, Try.func200, rfl, by kernel_rfl⟩
theorem c181 : CallOk Try.prog 181 := ⟨_, Try.func181, rfl, by kernel_rfl⟩
theorem c166 : CallOk Try.prog 166 := ⟨_, Try.func166, rfl, by kernel_rfl⟩
theorem c124 : CallOk Try.prog 124 := ⟨_, Try.func124, rfl, by kernel_rfl⟩
theorem c56 : CallOk Try.prog 56 := ⟨_, Try.func56, rfl, by kernel_rfl⟩
theorem c57 : CallOk Try.prog 57 := ⟨_, Try.func57, rfl, by kernel_rfl⟩
theorem c126 : CallOk Try.prog 126 := ⟨_, Try.func126, rfl, by kernel_rfl⟩
theorem c58 : CallOk Try.prog 58 := ⟨_, Try.func58, rfl, by kernel_rfl⟩
instance (a : TxA) : Decidable (txOk a) := by unfold txOk; infer_instance
def hdOk (a : BlockA) : Prop := 0 ≤ a.Height ∧ a.Height ≤ 1000000
def blkOk (a : BlockA) : Prop := (a.Txs.length ≤ 12 ∧ hdOk a) ∧ ∀ i, i < a.Txs.length → txOk (a.Txs.getD i default)
def encHead (a : BlockA) : List Int := a.Prev.l ++ a.Root.l ++ lowB a.Height 4
theorem encHead_length (a : BlockA) : (encHead a).length = 68 := by simp [encHead, lowB_length]
theorem okBytes_head (a : BlockA) : okBytes (encHead a) := okBytes_append (okBytes_append a.Prev.ok a.Root.ok) (okBytes_low _ _)
theorem l5Head_ok {a : BlockA} (h : 0 ≤ a.Height ∧ a.Height < 2 ^ 62 := by exact pm) : TSpec Try.prog 122 [] [.ag (fBlock a)] false [] (.ow 1 (encI .u8 (encHead a))) := by
  simp only [fBlock, encHead]
  have hD := And.intro @encI_append (@lowB_length)
  refine sT 14 [.tmp 2] Try.func122 fun w0 S0 ρ0 φ0 => ?_
  repeat' (first | apply W.seq | apply W.skip | apply W.region | apply W.block | apply N.code | apply N.blk | apply Sl.nil | apply W.exit | apply W.ret | apply E.hit | apply E.code | apply E.fin | refine zM ?_ | apply O.i | refine sP ?_ | refine sQ fun _ => ?_ | refine sX fun _ => ?_ | (refine rD (id := 1) (fun b => b != 1) [6, 10] ?_; refine rP 0 false fun _ => ?_; refine rP 1 true fun _ => ?_; refine rP 3 false fun _ => ?_; refine rP 4 true fun _ => ?_; refine rP 7 false fun _ => ?_; refine rP 8 false fun _ => ?_; refine rO 2 fun _ _ _ _ _ => ?_; refine k1 false [] c164 ?_; refine k2 l5Of_ok ?_; refine rO 5 fun _ _ _ _ _ => ?_; refine k1 false [] c164 ?_; refine k2 l5Of_ok ?_; refine rO 6 fun _ _ _ _ _ => ?_; refine sX fun _ => ?_; refine rO 9 fun _ _ _ _ _ => ?_; refine k1 false [] c83 ?_; refine k2 l2Num_ok ?_; refine rO 10 fun _ _ _ _ _ => ?_; refine sX fun _ => ?_; refine rP 11 false fun _ => ?_; refine rE ?_) | refine zI ?_ ?_ | (intro hb; (try simp [-List.getD_eq_getElem?_getD] at hb); (try (exfalso; omega))))
  all_goals exact rT
theorem grow_ok {n : Nat} (h : n < 2 ^ 40 := by exact pm) : TSpec Try.prog 200 [] [.nl, .pl (.int .i64 n)] false [] (.ow 1 []) := by
  have hD := dN0
  refine sT 27 [.tmp 4] Try.func200 fun w0 S0 ρ0 φ0 => ?_
  repeat' (first | apply W.seq | apply W.skip | apply W.region | apply W.block | apply N.code | apply N.blk | apply Sl.nil | apply W.exit | apply W.ret | apply E.hit | apply E.code | apply E.fin | refine zM ?_ | apply O.i | refine sP ?_ | refine sQ fun _ => ?_ | refine sX fun _ => ?_ | refine sC0 ?_ | refine sZ fun _ => ?_ | refine zI ?_ ?_ | (intro hb; (try simp [-List.getD_eq_getElem?_getD] at hb); (try (exfalso; omega))))
  all_goals exact rT
theorem concat_ok {xs : List (List Int)} (hb : xs.flatten.length < 2 ^ 40 := by exact pm) (hx : xs.length < 2 ^ 40 := by exact pm) : TSpec Try.prog 181 [] [.pd (encL fB xs)] false [] (.ow 1 (encI .u8 xs.flatten)) := by
  have hstep : ∀ k, k < xs.length → (xs.take k).flatten ++ xs.getD k default = (xs.take (k + 1)).flatten := fun k hk => by
    rw [← take_snoc default xs k hk, List.flatten_append]
    simp
  have hlen : ∀ k, (xs.take k).flatten.length ≤ xs.flatten.length := fun k => by
    have := congrArg (fun l => l.flatten.length) (List.take_append_drop k xs)
    simp only [List.flatten_append, List.length_append] at this
    omega
  have hD := dN0
  refine sT 36 [.tmp 2] Try.func181 fun w0 S0 ρ0 φ0 => ?_
  repeat' (first | apply W.seq | apply W.skip | apply W.region | apply W.block | apply N.code | apply N.blk | apply Sl.nil | apply W.exit | apply W.ret | apply E.hit | apply E.code | apply E.fin | refine zM ?_ | apply O.i | refine sP ?_ | refine sQ fun _ => ?_ | refine sX fun _ => ?_ | (refine kN false [] c200 ?_; refine k2 (grow_ok (by omega)) ?_) | refine zI ?_ ?_ | (intro hb; (try simp [-List.getD_eq_getElem?_getD] at hb); (try (exfalso; omega))))
  refine W.iter (fun k => ⟨36, [(0, .pd (encL fB xs)), (3, .pl (.int .i64 (xs.take k).flatten.length)), (9, .pd (encL fB xs)), (10, .pl (.int .i64 xs.length)), (11, .pl (.int .i64 k))], [], []⟩) (fun k => True) (xs.length) (Weak.to (by first | rfl | (simp only [virtAt_n]; rfl)) ?s1 ?b1 (by exact dfe)) ?h1 (fun k hk hH => ?body1)
  (try case' s1 => first | exact to1 | (simp +decide only [go_sem]; (try simp (disch := first | exact ds | fail) only [go_sem, Nat.reduceAdd, Nat.reduceMul, Nat.reduceSub, Int.reduceToNat, Int.reduceNeg, Nat.reduceLeDiff, hD]); (try simp only [SV.pl.injEq, SV.sl.injEq, Value.int.injEq, Bk.c.injEq, encI_inj, true_and]); (try omega))); (try case' b1 => first | exact to1 | (simp +decide only [go_sem]; (try simp (disch := first | exact ds | fail) only [go_sem, Nat.reduceAdd, Nat.reduceMul, Nat.reduceSub, Int.reduceToNat, Int.reduceNeg, Nat.reduceLeDiff, hD]); (try simp only [SV.pl.injEq, SV.sl.injEq, Value.int.injEq, Bk.c.injEq, encI_inj, true_and]); (try omega))); (try case' h1 => first | exact to1 | (simp +decide only [go_sem]; (try simp (disch := first | exact ds | fail) only [go_sem, Nat.reduceAdd, Nat.reduceMul, Nat.reduceSub, Int.reduceToNat, Int.reduceNeg, Nat.reduceLeDiff, hD]); (try simp only [SV.pl.injEq, SV.sl.injEq, Value.int.injEq, Bk.c.injEq, encI_inj, true_and]); (try omega)))
  · rfl
  have hlk := hlen k
  repeat' (first | apply W.seq | apply W.skip | refine W.region (id := 0) ?_ | refine W.region (id := 1) ?_ | refine W.region (id := 2) ?_ | refine W.region (id := 3) ?_ | refine W.region (id := 5) ?_ | refine W.region (id := 6) ?_ | refine W.region (id := 7) ?_ | refine W.region (id := 8) ?_ | refine W.region (id := 9) ?_ | refine W.region (id := 10) ?_ | refine W.region (id := 11) ?_ | refine W.region (id := 12) ?_ | refine W.region (id := 13) ?_ | refine W.region (id := 14) ?_ | refine W.region (id := 15) ?_ | apply W.block | apply N.code | apply N.blk | apply Sl.nil | apply W.exit | apply W.ret | apply E.hit | apply E.code | apply E.fin | refine zM ?_ | apply O.i | refine sP ?_ | refine sQ fun _ => ?_ | refine sX fun _ => ?_ | (refine kN false [] c200 ?_; refine k2 (grow_ok (by omega)) ?_) | refine zI ?_ ?_ | (intro hb; (try simp [-List.getD_eq_getElem?_getD] at hb); (try (exfalso; omega))))
  · have hl1 := hlen (k + 1)
    have hst := congrArg List.length (hstep k hb)
    rw [List.length_append] at hst
    repeat' (first | apply W.seq | apply W.skip | apply W.region | apply W.block | apply N.code | apply N.blk | apply Sl.nil | apply W.exit | apply W.ret | apply E.hit | apply E.code | apply E.fin | refine zM ?_ | apply O.i | refine sP ?_ | refine sQ fun _ => ?_ | refine sX fun _ => ?_ | (refine kN false [] c200 ?_; refine k2 (grow_ok (by omega)) ?_) | refine zI ?_ ?_ | (intro hb; (try simp [-List.getD_eq_getElem?_getD] at hb); (try (exfalso; omega))))
    (refine N.fin ⟨by omega, ?h2, ?w2⟩; case' w2 => (refine Weak.to (by first | rfl | (simp only [virtAt_n]; rfl)) ?s2 ?b2 (by exact dfe)))
    (try case' s2 => first | exact to1 | (simp +decide only [go_sem]; (try simp (disch := first | exact ds | fail) only [go_sem, Nat.reduceAdd, Nat.reduceMul, Nat.reduceSub, Int.reduceToNat, Int.reduceNeg, Nat.reduceLeDiff, hD]); (try simp only [SV.pl.injEq, SV.sl.injEq, Value.int.injEq, Bk.c.injEq, encI_inj, true_and]); (try omega))); (try case' b2 => first | exact to1 | (simp +decide only [go_sem]; (try simp (disch := first | exact ds | fail) only [go_sem, Nat.reduceAdd, Nat.reduceMul, Nat.reduceSub, Int.reduceToNat, Int.reduceNeg, Nat.reduceLeDiff, hD]); (try simp only [SV.pl.injEq, SV.sl.injEq, Value.int.injEq, Bk.c.injEq, encI_inj, true_and]); (try omega))); (try case' h2 => first | exact to1 | (simp +decide only [go_sem]; (try simp (disch := first | exact ds | fail) only [go_sem, Nat.reduceAdd, Nat.reduceMul, Nat.reduceSub, Int.reduceToNat, Int.reduceNeg, Nat.reduceLeDiff, hD]); (try simp only [SV.pl.injEq, SV.sl.injEq, Value.int.injEq, Bk.c.injEq, encI_inj, true_and]); (try omega)))
  obtain rfl : k = xs.length := by omega
  (refine gR (nmR 24) 2000000 ?_)
  have hD := @encI_append
  refine W.iter (fun j => ⟨36, [(6, .sl 2000000 0 (xs.take j).flatten.length), (25, .pd (encL fB xs)), (26, .pl (.int .i64 xs.length)), (27, .pl (.int .i64 j))], [(2000000, .c 1 (encI .u8 (xs.take j).flatten))], []⟩) (fun j => True) (xs.length) (Weak.to (by first | rfl | (simp only [virtAt_n]; rfl)) ?s3 ?b3 (by exact dfe)) ?h3 (fun j hj Hj => ?body3)
  (try case' s3 => first | exact to1 | (simp +decide only [go_sem]; (try simp (disch := first | exact ds | fail) only [go_sem, Nat.reduceAdd, Nat.reduceMul, Nat.reduceSub, Int.reduceToNat, Int.reduceNeg, Nat.reduceLeDiff, hD]); (try simp only [SV.pl.injEq, SV.sl.injEq, Value.int.injEq, Bk.c.injEq, encI_inj, true_and]); (try omega))); (try case' b3 => first | exact to1 | (simp +decide only [go_sem]; (try simp (disch := first | exact ds | fail) only [go_sem, Nat.reduceAdd, Nat.reduceMul, Nat.reduceSub, Int.reduceToNat, Int.reduceNeg, Nat.reduceLeDiff, hD]); (try simp only [SV.pl.injEq, SV.sl.injEq, Value.int.injEq, Bk.c.injEq, encI_inj, true_and]); (try omega))); (try case' h3 => first | exact to1 | (simp +decide only [go_sem]; (try simp (disch := first | exact ds | fail) only [go_sem, Nat.reduceAdd, Nat.reduceMul, Nat.reduceSub, Int.reduceToNat, Int.reduceNeg, Nat.reduceLeDiff, hD]); (try simp only [SV.pl.injEq, SV.sl.injEq, Value.int.injEq, Bk.c.injEq, encI_inj, true_and]); (try omega)))
  · rfl
  · rfl
  have hl1 := hlen j
  have hD := @encI_append
  repeat' (first | apply W.seq | apply W.skip | refine W.region (id := 0) ?_ | refine W.region (id := 1) ?_ | refine W.region (id := 2) ?_ | refine W.region (id := 3) ?_ | refine W.region (id := 4) ?_ | refine W.region (id := 5) ?_ | refine W.region (id := 6) ?_ | refine W.region (id := 7) ?_ | refine W.region (id := 8) ?_ | refine W.region (id := 9) ?_ | refine W.region (id := 10) ?_ | refine W.region (id := 11) ?_ | refine W.region (id := 13) ?_ | refine W.region (id := 14) ?_ | refine W.region (id := 15) ?_ | apply W.block | apply N.code | apply N.blk | apply Sl.nil | apply W.exit | apply W.ret | apply E.hit | apply E.code | apply E.fin | refine zM ?_ | apply O.i | refine sP ?_ | refine sQ fun _ => ?_ | refine sX fun _ => ?_ | (refine kN false [] c200 ?_; refine k2 (grow_ok (by omega)) ?_) | refine zI ?_ ?_ | (intro hb; (try simp [-List.getD_eq_getElem?_getD] at hb); (try (exfalso; omega))))
  · have hst := hstep j hb
    have hsl := congrArg List.length hst
    rw [List.length_append] at hsl
    have hl2 := hlen (j + 1)
    have hD := And.intro @encI_append ((hst))
    repeat' (first | apply W.seq | apply W.skip | apply W.region | apply W.block | apply N.code | apply N.blk | apply Sl.nil | apply W.exit | apply W.ret | apply E.hit | apply E.code | apply E.fin | refine zM ?_ | apply O.i | refine sP ?_ | refine sQ fun _ => ?_ | refine sX fun _ => ?_ | (refine kN false [] c200 ?_; refine k2 (grow_ok (by omega)) ?_) | refine zI ?_ ?_ | (intro hb; (try simp [-List.getD_eq_getElem?_getD] at hb); (try (exfalso; omega))))
    (refine N.fin ⟨by omega, ?h4, ?w4⟩; case' w4 => (refine eR 33 2000000 ?_; refine Weak.to (by first | rfl | (simp only [virtAt_n]; rfl)) ?s4 ?b4 (by exact dfe)))
    (try case' s4 => first | exact to1 | (simp +decide only [go_sem]; (try simp (disch := first | exact ds | fail) only [go_sem, Nat.reduceAdd, Nat.reduceMul, Nat.reduceSub, Int.reduceToNat, Int.reduceNeg, Nat.reduceLeDiff, hD]); (try simp only [SV.pl.injEq, SV.sl.injEq, Value.int.injEq, Bk.c.injEq, encI_inj, true_and]); (try omega))); (try case' b4 => first | exact to1 | (simp +decide only [go_sem]; (try simp (disch := first | exact ds | fail) only [go_sem, Nat.reduceAdd, Nat.reduceMul, Nat.reduceSub, Int.reduceToNat, Int.reduceNeg, Nat.reduceLeDiff, hD]); (try simp only [SV.pl.injEq, SV.sl.injEq, Value.int.injEq, Bk.c.injEq, encI_inj, true_and]); (try omega))); (try case' h4 => first | exact to1 | (simp +decide only [go_sem]; (try simp (disch := first | exact ds | fail) only [go_sem, Nat.reduceAdd, Nat.reduceMul, Nat.reduceSub, Int.reduceToNat, Int.reduceNeg, Nat.reduceLeDiff, hD]); (try simp only [SV.pl.injEq, SV.sl.injEq, Value.int.injEq, Bk.c.injEq, encI_inj, true_and]); (try omega)))
  obtain rfl : j = xs.length := by omega
  have hta : xs.take xs.length = xs := List.take_length
  have hD := (hta)
  exact rT
theorem head_ok {a : BlockA} (h : 0 ≤ a.Height ∧ a.Height < 2 ^ 62 := by exact pm) : TSpec Try.prog 166 [] [.ag (fBlock a)] false [] (.ow 1 (encI .u8 (encHead a))) := by
  have hcc := concat_ok (xs := [a.Prev.l, a.Root.l, lowB a.Height 4]) (by simp [lowB_length]) (by simp)
  rw [show [a.Prev.l, a.Root.l, lowB a.Height 4].flatten = encHead a by simp [encHead]] at hcc
  simp only [encL_cons, encL_nil, fB] at hcc
  simp only [fBlock]
  have hD := @lowB_length
  refine sT 12 [.tmp 2] Try.func166 fun w0 S0 ρ0 φ0 => ?_
  repeat' (first | apply W.seq | apply W.skip | apply W.region | apply W.block | apply N.code | apply N.blk | apply Sl.nil | apply W.exit | apply W.ret | apply E.hit | apply E.code | apply E.fin | refine zM ?_ | apply O.i | refine sP ?_ | refine sQ fun _ => ?_ | refine sX fun _ => ?_ | (refine rD (id := 1) (fun b => b != 1) [] ?_; refine rP 0 false fun _ => ?_; refine rP 1 false fun _ => ?_; refine rP 2 false fun _ => ?_; refine rP 3 false fun _ => ?_; refine rP 4 false fun _ => ?_; refine rP 5 true fun _ => ?_; refine rO 6 fun _ _ _ _ _ => ?_; refine k1 false [] c137 ?_; refine k2 low_ok ?_; refine rO 7 fun _ _ _ _ _ => ?_; refine sX fun _ => ?_; refine rO 8 fun _ _ _ _ _ => ?_; refine k1 false [] c181 ?_; refine k2 hcc ?_; refine rP 9 false fun _ => ?_; refine rE ?_) | refine zI ?_ ?_ | (intro hb; (try simp [-List.getD_eq_getElem?_getD] at hb); (try (exfalso; omega))))
  all_goals exact rT
end Go.Proofs.Ytnancifnodbkdaa

