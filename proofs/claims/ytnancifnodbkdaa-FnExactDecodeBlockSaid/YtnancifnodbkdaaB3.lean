import Derived.Test.YtnancifnodbkdaaB2
namespace Go.Proofs.Ytnancifnodbkdaa
open Go Go.Vcg Go.IntWalk
set_option maxRecDepth 100000
set_option maxHeartbeats 20000000
set_option linter.unusedSimpArgs false
set_option linter.unusedVariables false

def bigB (v : Int) (n : Nat) : List Int := (lowB v n).reverse
theorem bigB_length (v : Int) (n : Nat) : (bigB v n).length = n := by simp [bigB]
theorem okBytes_big (v : Int) (n : Nat) : okBytes (bigB v n) := fun x hx => okBytes_low v n x (List.mem_reverse.mp hx)
theorem lowB_take_len (n : Int) (m k : Nat) (h : k ≤ m) : ((lowB n m).take k).length = k := by simp; omega
theorem big_step (v : Int) (m k : Nat) (h : k < m) : (List.replicate (m - k) (0 : Int) ++ ((lowB v m).take k).reverse).set (m - 1 - k) (v / 256 ^ k % 256) = List.replicate (m - (k + 1)) 0 ++ ((lowB v m).take (k + 1)).reverse := by
  rw [← lowB_take v m k h, List.reverse_append, show m - k = (m - (k + 1)) + 1 by omega, List.replicate_succ', List.append_assoc, List.set_append_right _ _ (by simp; omega)]
  simp only [List.length_replicate, List.reverse_cons, List.reverse_nil, List.nil_append, List.cons_append]
  rw [show m - 1 - k - (m - (k + 1)) = 0 by omega]
  rfl
theorem l5Big_ok {v : Int} {m : Nat} (h : 0 ≤ v ∧ v < 2 ^ 62 := by exact pm) (hm : m ≤ 8 := by exact pm) : TSpec Try.prog 182 [] [.pl (.int .i64 v), .pl (.int .i64 m)] false [] (.ow 1 (encI .u8 (bigB v m))) := by
  have hD := @encI_nil
  refine sT 24 [.tmp 4] Try.func182 fun w0 S0 ρ0 φ0 => ?_
  repeat' (first | apply W.seq | apply W.skip | apply W.region | apply W.block | apply N.code | apply N.blk | apply Sl.nil | apply W.exit | apply W.ret | apply E.hit | apply E.code | apply E.fin | refine zM ?_ | apply O.i | refine sP ?_ | refine sQ fun _ => ?_ | refine sX fun _ => ?_ | refine zI ?_ ?_ | (intro hb; (try simp [-List.getD_eq_getElem?_getD] at hb); (try (exfalso; omega))))
  refine W.iter (fun k => ⟨24, [(0, .pl (.int .i64 (v / 256 ^ k))), (1, .pl (.int .i64 m)), (5, .sl 8 0 m), (6, .pl (.int .i64 ((m : Int) - 1 - k)))], [(8, .c 1 (encI .u8 (List.replicate (m - k) 0 ++ ((lowB v m).take k).reverse)))], []⟩) (fun k => True) (m) (Weak.to (by first | rfl | (simp only [virtAt_n]; rfl)) ?s1 ?b1 (by exact dfe)) ?h1 (fun k hk hH => ?body1)
  (try case' s1 => first | exact to1 | (simp +decide only [go_sem]; (try simp (disch := first | exact ds | fail) only [go_sem, Nat.reduceAdd, Nat.reduceMul, Nat.reduceSub, Int.reduceToNat, Int.reduceNeg, Nat.reduceLeDiff, hD]); (try simp only [SV.pl.injEq, SV.sl.injEq, Value.int.injEq, Bk.c.injEq, encI_inj, true_and]); (try omega))); (try case' b1 => first | exact to1 | (simp +decide only [go_sem]; (try simp (disch := first | exact ds | fail) only [go_sem, Nat.reduceAdd, Nat.reduceMul, Nat.reduceSub, Int.reduceToNat, Int.reduceNeg, Nat.reduceLeDiff, hD]); (try simp only [SV.pl.injEq, SV.sl.injEq, Value.int.injEq, Bk.c.injEq, encI_inj, true_and]); (try omega))); (try case' h1 => first | exact to1 | (simp +decide only [go_sem]; (try simp (disch := first | exact ds | fail) only [go_sem, Nat.reduceAdd, Nat.reduceMul, Nat.reduceSub, Int.reduceToNat, Int.reduceNeg, Nat.reduceLeDiff, hD]); (try simp only [SV.pl.injEq, SV.sl.injEq, Value.int.injEq, Bk.c.injEq, encI_inj, true_and]); (try omega)))
  · simp
  have hd := div_range v k h.1
  have hl1 : (List.replicate (m - k) (0 : Int) ++ ((lowB v m).take k).reverse).length = m := by simp; omega
  have hix : ((m : Int) - 1 - k).toNat = m - 1 - k := by omega
  have hst := big_step v m k
  have e1 : (v / 256 ^ k).tmod 256 = v / 256 ^ k % 256 := Int.tmod_eq_emod_of_nonneg hd.1
  have e2 : IntKind.u8.wrap (v / 256 ^ k % 256) = v / 256 ^ k % 256 := by rw [IntKind.wrap_u8]; omega
  have e3 : (v / 256 ^ k).tdiv 256 = v / 256 ^ (k + 1) := by rw [Int.tdiv_eq_ediv_of_nonneg hd.1, div_step]
  have hd2 := div_range v (k + 1) h.1
  have hD := And.intro (hl1) (And.intro (hix) (And.intro (e1) (And.intro (e2) ((e3)))))
  repeat' (first | apply W.seq | apply W.skip | apply W.region | apply W.block | apply N.code | apply N.blk | apply Sl.nil | apply W.exit | apply W.ret | apply E.hit | apply E.code | apply E.fin | refine zM ?_ | apply O.i | refine sP ?_ | refine sQ fun _ => ?_ | refine sX fun _ => ?_ | refine zI ?_ ?_ | (intro hb; (try simp [-List.getD_eq_getElem?_getD] at hb); (try (exfalso; omega))))
  · (refine N.fin ⟨by omega, ?h2, ?w2⟩; case' w2 => (refine Weak.to (by first | rfl | (simp only [virtAt_n]; rfl)) ?s2 ?b2 (by exact dfe)))
    (try case' s2 => first | exact to1 | (simp +decide only [go_sem]; (try simp (disch := first | exact ds | fail) only [go_sem, Nat.reduceAdd, Nat.reduceMul, Nat.reduceSub, Int.reduceToNat, Int.reduceNeg, Nat.reduceLeDiff, hD]); (try simp only [SV.pl.injEq, SV.sl.injEq, Value.int.injEq, Bk.c.injEq, encI_inj, true_and]); (try omega))); (try case' b2 => first | exact to1 | (simp +decide only [go_sem]; (try simp (disch := first | exact ds | fail) only [go_sem, Nat.reduceAdd, Nat.reduceMul, Nat.reduceSub, Int.reduceToNat, Int.reduceNeg, Nat.reduceLeDiff, hD]); (try simp only [SV.pl.injEq, SV.sl.injEq, Value.int.injEq, Bk.c.injEq, encI_inj, true_and]); (try omega))); (try case' h2 => first | exact to1 | (simp +decide only [go_sem]; (try simp (disch := first | exact ds | fail) only [go_sem, Nat.reduceAdd, Nat.reduceMul, Nat.reduceSub, Int.reduceToNat, Int.reduceNeg, Nat.reduceLeDiff, hD]); (try simp only [SV.pl.injEq, SV.sl.injEq, Value.int.injEq, Bk.c.injEq, encI_inj, true_and]); (try omega)))
    exact hst (by omega)
  · obtain rfl : k = m := by omega
    have e4 : List.replicate (k - k) (0 : Int) ++ ((lowB v k).take k).reverse = bigB v k := by
      rw [Nat.sub_self, List.take_of_length_le (by simp)]
      rfl
    rw [e4]
    have hD := @bigB_length
    exact rT
theorem l1Bytes_ok {b : List Int} (h : b.length < 2 ^ 40 := by exact pm) : TSpec Try.prog 75 [] [.pd (encI .u8 b)] false [] (.ow 1 (encI .u8 b)) := by
  have hD := @encI_nil
  refine sT 8 [.tmp 2] Try.func75 fun w0 S0 ρ0 φ0 => ?_
  repeat' (first | apply W.seq | apply W.skip | apply W.region | apply W.block | apply N.code | apply N.blk | apply Sl.nil | apply W.exit | apply W.ret | apply E.hit | apply E.code | apply E.fin | refine zM ?_ | apply O.i | refine sP ?_ | refine sQ fun _ => ?_ | refine sX fun _ => ?_ | refine zI ?_ ?_ | (intro hb; (try simp [-List.getD_eq_getElem?_getD] at hb); (try (exfalso; omega))))
  exact rT

/-! The hash. -/
def h0 : List Int := [1779033703, 3144134277, 1013904242, 2773480762, 1359893119, 2600822924, 528734635, 1541459225]
def padN (n : Nat) : Nat := (119 - n % 64) % 64
def pad (b : List Int) : List Int := b ++ [128] ++ List.replicate (padN b.length) 0 ++ bigB (8 * b.length) 8
def shaSt (d : List Int) : Nat → List Int
  | 0 => h0
  | k + 1 => mix (shaSt d k) ((d.drop (64 * k)).take 64)
def shaF (hs : List Int) (i : Nat) : Int := (bigB (hs.getD (i / 4) 0) 4).getD (i % 4) 0
def sha (b : List Int) : List Int := (List.range 32).map (shaF (shaSt (pad b) ((pad b).length / 64)))
theorem h0_length : h0.length = 8 := rfl
theorem h0_WL : WL h0 := WL_of fun i hi => by
  have h : ∀ x ∈ h0, 0 ≤ x ∧ x < 4294967296 := by decide
  rw [List.getD_eq_getElem?_getD, List.getElem?_eq_getElem hi]
  unfold W32
  exact h _ (List.getElem_mem hi)
theorem shaSt_length (d : List Int) (k : Nat) : (shaSt d k).length = 8 := by
  cases k with
  | zero => rfl
  | succ k => exact mix_length _ _
theorem shaSt_WL (d : List Int) (k : Nat) : WL (shaSt d k) := by
  cases k with
  | zero => exact h0_WL
  | succ k => exact mix_WL _ _
theorem pad_eq (b : List Int) : b ++ [128] ++ List.replicate (padN b.length) 0 ++ bigB (8 * b.length) 8 = pad b := rfl
theorem pad_length (b : List Int) : (pad b).length = b.length + 1 + padN b.length + 8 := by simp [pad, bigB_length]; omega
theorem padN_spec (n : Nat) : (n + 1 + padN n) % 64 = 56 := by unfold padN; omega
theorem padN_lt (n : Nat) : padN n < 64 := by unfold padN; omega
theorem padN_first {n k : Nat} (hk : k ≤ padN n) (h : (n + 1 + k) % 64 = 56) : k = padN n := by unfold padN at *; omega
theorem okBytes_pad {b : List Int} (ho : okBytes b) : okBytes (pad b) := okBytes_append (okBytes_append (okBytes_append ho (fun x hx => by simp at hx; subst hx; omega)) (okBytes_rep _)) (okBytes_big _ _)
theorem sha_length (b : List Int) : (sha b).length = 32 := by simp [sha]
theorem shaSt_zero (d : List Int) : shaSt d 0 = h0 := rfl
theorem shaSt_succ (d : List Int) (k : Nat) : shaSt d (k + 1) = mix (shaSt d k) ((d.drop (64 * k)).take 64) := rfl
theorem sha_eq (b : List Int) : sha b = (List.range 32).map (shaF (shaSt (pad b) ((pad b).length / 64))) := rfl
theorem shaF_eq (hs : List Int) (i : Nat) : (bigB (hs.getD (i / 4) 0) 4).getD (i % 4) 0 = shaF hs i := rfl
theorem okBytes_sha (b : List Int) : okBytes (sha b) := fun x hx => by
  unfold sha at hx
  obtain ⟨i, _, rfl⟩ := List.mem_map.mp hx
  unfold shaF
  exact okBytes_getD (okBytes_big _ _) _ (by rw [bigB_length]; omega)
attribute [irreducible] pad sha shaF shaSt h0 padN bigB
theorem l5Big8_ok {v : Int} (h : 0 ≤ v ∧ v < 2 ^ 62 := by exact pm) : TSpec Try.prog 182 [] [.pl (.int .i64 v), .pl (.int .i64 8)] false [] (.ow 1 (encI .u8 (bigB v 8))) := l5Big_ok (m := 8) h (by omega)
theorem l5Big4_ok {v : Int} (h : 0 ≤ v ∧ v < 2 ^ 62 := by exact pm) : TSpec Try.prog 182 [] [.pl (.int .i64 v), .pl (.int .i64 4)] false [] (.ow 1 (encI .u8 (bigB v 4))) := l5Big_ok (m := 4) h (by omega)
theorem spSha_ok {b : List Int} (h : b.length < 2 ^ 38 := by exact pm) (ho : okBytes b := by exact pm) : TSpec Try.prog 168 [] [.pd (encI .u8 b)] false [] (.ag (encA .u8 (sha b))) := by
  have hD := dN0
  refine sT 57 [.cell 2 50] Try.func168 fun w0 S0 ρ0 φ0 => ?_
  repeat' (first | apply W.seq | apply W.skip | apply W.region | apply W.block | apply N.code | apply N.blk | apply Sl.nil | apply W.exit | apply W.ret | apply E.hit | apply E.code | apply E.fin | refine zM ?_ | apply O.i | refine sP ?_ | refine sQ fun _ => ?_ | refine sX fun _ => ?_ | (refine k1 false [] c75 ?_; refine k2 l1Bytes_ok ?_) | (refine k1 false [] c182 ?_; (first | refine k2 l5Big8_ok ?_ | refine k2 l5Big4_ok ?_)) | (refine k1 false [] c183 ?_; refine k2 l5Mix_ok ?_) | refine zI ?_ ?_ | (intro hb; (try simp [-List.getD_eq_getElem?_getD] at hb); (try (exfalso; omega))))
  (refine gR 11 2000000 ?_)
  have hpl := pad_length b
  have hp1 := padN_lt b.length
  have hp2 := padN_spec b.length
  have hD := And.intro @encI_one (@encI_append)
  refine W.iter (fun k => ⟨57, [(0, .pd (encI .u8 b)), (2, .pt 2 0 0), (3, .sl 2000000 0 (b.length + 1 + k))], [(2, .c 32 [encA .u8 (List.replicate 32 0)]), (2000000, .c 1 (encI .u8 (b ++ [128] ++ List.replicate k 0)))], []⟩) (fun k => True) (padN b.length) (Weak.to (by first | rfl | (simp only [virtAt_n]; rfl)) ?s3 ?b3 (by exact dfe)) ?h3 (fun k hk hH => ?body3)
  (try case' s3 => first | exact to1 | (simp +decide only [go_sem]; (try simp (disch := first | exact ds | fail) only [go_sem, Nat.reduceAdd, Nat.reduceMul, Nat.reduceSub, Int.reduceToNat, Int.reduceNeg, Nat.reduceLeDiff, hD]); (try simp only [SV.pl.injEq, SV.sl.injEq, Value.int.injEq, Bk.c.injEq, encI_inj, true_and]); (try omega))); (try case' b3 => first | exact to1 | (simp +decide only [go_sem]; (try simp (disch := first | exact ds | fail) only [go_sem, Nat.reduceAdd, Nat.reduceMul, Nat.reduceSub, Int.reduceToNat, Int.reduceNeg, Nat.reduceLeDiff, hD]); (try simp only [SV.pl.injEq, SV.sl.injEq, Value.int.injEq, Bk.c.injEq, encI_inj, true_and]); (try omega))); (try case' h3 => first | exact to1 | (simp +decide only [go_sem]; (try simp (disch := first | exact ds | fail) only [go_sem, Nat.reduceAdd, Nat.reduceMul, Nat.reduceSub, Int.reduceToNat, Int.reduceNeg, Nat.reduceLeDiff, hD]); (try simp only [SV.pl.injEq, SV.sl.injEq, Value.int.injEq, Bk.c.injEq, encI_inj, true_and]); (try omega)))
  · simp
  have hl1 : (b ++ [128] ++ List.replicate k 0).length = b.length + 1 + k := by simp; omega
  have hpf := padN_first hk
  have e1 : (((b.length + 1 + k : Nat) : Int)).tmod 64 = ((b.length + 1 + k) % 64 : Nat) := by rw [Int.tmod_eq_emod_of_nonneg (by omega)]; omega
  have hD := And.intro @encI_one (And.intro @encI_append (And.intro (hl1) ((e1))))
  repeat' (first | apply W.seq | apply W.skip | apply W.region | apply W.block | apply N.code | apply N.blk | apply Sl.nil | apply W.exit | apply W.ret | apply E.hit | apply E.code | apply E.fin | refine zM ?_ | apply O.i | refine sP ?_ | refine sQ fun _ => ?_ | refine sX fun _ => ?_ | (refine k1 false [] c75 ?_; refine k2 l1Bytes_ok ?_) | (refine k1 false [] c182 ?_; (first | refine k2 l5Big8_ok ?_ | refine k2 l5Big4_ok ?_)) | (refine k1 false [] c183 ?_; refine k2 l5Mix_ok ?_) | refine zI ?_ ?_ | (intro hb; (try simp [-List.getD_eq_getElem?_getD] at hb); (try (exfalso; omega))))
  · (refine N.fin ⟨by omega, ?h4, ?w4⟩; case' w4 => (refine eR 18 2000000 ?_; refine Weak.to (by first | rfl | (simp only [virtAt_n]; rfl)) ?s4 ?b4 (by exact dfe)))
    (try case' s4 => first | exact to1 | (simp +decide only [go_sem]; (try simp (disch := first | exact ds | fail) only [go_sem, Nat.reduceAdd, Nat.reduceMul, Nat.reduceSub, Int.reduceToNat, Int.reduceNeg, Nat.reduceLeDiff, hD]); (try simp only [SV.pl.injEq, SV.sl.injEq, Value.int.injEq, Bk.c.injEq, encI_inj, true_and]); (try omega))); (try case' b4 => first | exact to1 | (simp +decide only [go_sem]; (try simp (disch := first | exact ds | fail) only [go_sem, Nat.reduceAdd, Nat.reduceMul, Nat.reduceSub, Int.reduceToNat, Int.reduceNeg, Nat.reduceLeDiff, hD]); (try simp only [SV.pl.injEq, SV.sl.injEq, Value.int.injEq, Bk.c.injEq, encI_inj, true_and]); (try omega))); (try case' h4 => first | exact to1 | (simp +decide only [go_sem]; (try simp (disch := first | exact ds | fail) only [go_sem, Nat.reduceAdd, Nat.reduceMul, Nat.reduceSub, Int.reduceToNat, Int.reduceNeg, Nat.reduceLeDiff, hD]); (try simp only [SV.pl.injEq, SV.sl.injEq, Value.int.injEq, Bk.c.injEq, encI_inj, true_and]); (try omega)))
    rw [List.replicate_succ', ← List.append_assoc]
  · obtain rfl : k = padN b.length := hpf (by omega)
    obtain ⟨nb, hN⟩ : ∃ n, n = (pad b).length / 64 := ⟨_, rfl⟩
    have hpN : (pad b).length = 64 * nb := by omega
    have hop := okBytes_pad ho
    have hD := And.intro @encI_one (And.intro @encI_append (And.intro (hl1) (And.intro (e1) (And.intro @bigB_length (And.intro @pad_eq ((hpl)))))))
    repeat' (first | apply W.seq | apply W.skip | apply W.region | apply W.block | apply N.code | apply N.blk | apply Sl.nil | apply W.exit | apply W.ret | apply E.hit | apply E.code | apply E.fin | refine zM ?_ | apply O.i | refine sP ?_ | refine sQ fun _ => ?_ | refine sX fun _ => ?_ | (refine k1 false [] c75 ?_; refine k2 l1Bytes_ok ?_) | (refine k1 false [] c182 ?_; (first | refine k2 l5Big8_ok ?_ | refine k2 l5Big4_ok ?_)) | (refine k1 false [] c183 ?_; refine k2 l5Mix_ok ?_) | refine zI ?_ ?_ | (intro hb; (try simp [-List.getD_eq_getElem?_getD] at hb); (try (exfalso; omega))))
    (refine gR 24 2000000 ?_; refine gR 25 2000001 ?_)
    have hD := And.intro @chunks_1 ((hpN))
    refine W.iter (fun j => ⟨57, [(2, .pt 2 0 0), (3, .sl 2000000 0 (64 * nb)), (4, .sl 2000001 0 8), (5, .pl (.int .i64 (64 * j : Nat)))], [(2, .c 32 [encA .u8 (List.replicate 32 0)]), (2000000, .c 1 (encI .u8 (pad b))), (2000001, .c 1 (encI .i64 (shaSt (pad b) j)))], []⟩) (fun j => True) (nb) (Weak.to (by first | rfl | (simp only [virtAt_n]; rfl)) ?s5 ?b5 (by exact dfe)) ?h5 (fun j hj Hj => ?body5)
    (try case' s5 => first | exact to1 | (simp +decide only [go_sem]; (try simp (disch := first | exact ds | fail) only [go_sem, Nat.reduceAdd, Nat.reduceMul, Nat.reduceSub, Int.reduceToNat, Int.reduceNeg, Nat.reduceLeDiff, hD]); (try simp only [SV.pl.injEq, SV.sl.injEq, Value.int.injEq, Bk.c.injEq, encI_inj, true_and]); (try omega))); (try case' b5 => first | exact to1 | (simp +decide only [go_sem]; (try simp (disch := first | exact ds | fail) only [go_sem, Nat.reduceAdd, Nat.reduceMul, Nat.reduceSub, Int.reduceToNat, Int.reduceNeg, Nat.reduceLeDiff, hD]); (try simp only [SV.pl.injEq, SV.sl.injEq, Value.int.injEq, Bk.c.injEq, encI_inj, true_and]); (try omega))); (try case' h5 => first | exact to1 | (simp +decide only [go_sem]; (try simp (disch := first | exact ds | fail) only [go_sem, Nat.reduceAdd, Nat.reduceMul, Nat.reduceSub, Int.reduceToNat, Int.reduceNeg, Nat.reduceLeDiff, hD]); (try simp only [SV.pl.injEq, SV.sl.injEq, Value.int.injEq, Bk.c.injEq, encI_inj, true_and]); (try omega)))
    · rw [shaSt_zero]
      unfold h0
      rfl
    have f1 : (((64 * j : Nat) : Int)).toNat = 64 * j := by omega
    have f2 : (((64 * j : Nat) : Int) + 64).toNat = 64 * j + 64 := by omega
    have f3 : 64 * j + 64 - 64 * j = 64 := by omega
    have hsl := shaSt_length (pad b) j
    have hsw := shaSt_WL (pad b) j
    have hos := okBytes_sub hop (64 * j) 64
    have hD := And.intro (hpN) (And.intro (f1) (And.intro (f2) (And.intro (f3) (And.intro (hsl) (And.intro @lDrop (@lTake))))))
    repeat' (first | apply W.seq | apply W.skip | apply W.region | apply W.block | apply N.code | apply N.blk | apply Sl.nil | apply W.exit | apply W.ret | apply E.hit | apply E.code | apply E.fin | refine zM ?_ | apply O.i | refine sP ?_ | refine sQ fun _ => ?_ | refine sX fun _ => ?_ | (refine k1 false [] c75 ?_; refine k2 l1Bytes_ok ?_) | (refine k1 false [] c182 ?_; (first | refine k2 l5Big8_ok ?_ | refine k2 l5Big4_ok ?_)) | (refine k1 false [] c183 ?_; refine k2 l5Mix_ok ?_) | refine zI ?_ ?_ | (intro hb; (try simp [-List.getD_eq_getElem?_getD] at hb); (try (exfalso; omega))))
    · have hcl : ((List.drop (64 * j) (pad b)).take 64).length = 64 := by simp; omega
      repeat' (first | apply W.seq | apply W.skip | apply W.region | apply W.block | apply N.code | apply N.blk | apply Sl.nil | apply W.exit | apply W.ret | apply E.hit | apply E.code | apply E.fin | refine zM ?_ | apply O.i | refine sP ?_ | refine sQ fun _ => ?_ | refine sX fun _ => ?_ | (refine k1 false [] c75 ?_; refine k2 l1Bytes_ok ?_) | (refine k1 false [] c182 ?_; (first | refine k2 l5Big8_ok ?_ | refine k2 l5Big4_ok ?_)) | (refine k1 false [] c183 ?_; refine k2 l5Mix_ok ?_) | refine zI ?_ ?_ | (intro hb; (try simp [-List.getD_eq_getElem?_getD] at hb); (try (exfalso; omega))))
      (refine N.fin ⟨by omega, ?h6, ?w6⟩; case' w6 => (refine eR (nmR 38) 2000001 ?_; refine Weak.to (by first | rfl | (simp only [virtAt_n]; rfl)) ?s6 ?b6 (by exact dfe)))
      (try case' s6 => first | exact to1 | (simp +decide only [go_sem]; (try simp (disch := first | exact ds | fail) only [go_sem, Nat.reduceAdd, Nat.reduceMul, Nat.reduceSub, Int.reduceToNat, Int.reduceNeg, Nat.reduceLeDiff, hD]); (try simp only [SV.pl.injEq, SV.sl.injEq, Value.int.injEq, Bk.c.injEq, encI_inj, true_and]); (try omega))); (try case' b6 => first | exact to1 | (simp +decide only [go_sem]; (try simp (disch := first | exact ds | fail) only [go_sem, Nat.reduceAdd, Nat.reduceMul, Nat.reduceSub, Int.reduceToNat, Int.reduceNeg, Nat.reduceLeDiff, hD]); (try simp only [SV.pl.injEq, SV.sl.injEq, Value.int.injEq, Bk.c.injEq, encI_inj, true_and]); (try omega))); (try case' h6 => first | exact to1 | (simp +decide only [go_sem]; (try simp (disch := first | exact ds | fail) only [go_sem, Nat.reduceAdd, Nat.reduceMul, Nat.reduceSub, Int.reduceToNat, Int.reduceNeg, Nat.reduceLeDiff, hD]); (try simp only [SV.pl.injEq, SV.sl.injEq, Value.int.injEq, Bk.c.injEq, encI_inj, true_and]); (try omega)))
      · exact (shaSt_succ _ _).symm
      · rw [mix_length]
        exact ⟨rfl, by omega⟩
    · obtain rfl : j = nb := by omega
      obtain ⟨hs, hhs⟩ : ∃ hs, hs = shaSt (pad b) j := ⟨_, rfl⟩
      have hse : sha b = (List.range 32).map (shaF hs) := by rw [sha_eq, ← hN, hhs]
      have hsl32 := sha_length b
      have hst := take_step 0 0 (sha b)
      rw [hsl32] at hst
      rw [← hhs] at hsl hsw ⊢
      refine W.iter (fun i => ⟨57, [(2, .pt 2 0 0), (4, .sl 2000001 0 8), (6, .pt 6 0 0), (7, .pl (.int .i64 i))], [(2, .c 32 [encA .u8 (List.replicate 32 0)]), (6, .c 32 [encA .u8 ((sha b).take i ++ List.replicate (32 - i) 0)]), (2000001, .c 1 (encI .i64 hs))], []⟩) (fun i => True) (32) (Weak.to (by first | rfl | (simp only [virtAt_n]; rfl)) ?s7 ?b7 (by exact dfe)) ?h7 (fun i hi Hi => ?body7)
      (try case' s7 => first | exact to1 | (simp +decide only [go_sem]; (try simp (disch := first | exact ds | fail) only [go_sem, Nat.reduceAdd, Nat.reduceMul, Nat.reduceSub, Int.reduceToNat, Int.reduceNeg, Nat.reduceLeDiff, hD]); (try simp only [SV.pl.injEq, SV.sl.injEq, Value.int.injEq, Bk.c.injEq, encI_inj, true_and]); (try omega))); (try case' b7 => first | exact to1 | (simp +decide only [go_sem]; (try simp (disch := first | exact ds | fail) only [go_sem, Nat.reduceAdd, Nat.reduceMul, Nat.reduceSub, Int.reduceToNat, Int.reduceNeg, Nat.reduceLeDiff, hD]); (try simp only [SV.pl.injEq, SV.sl.injEq, Value.int.injEq, Bk.c.injEq, encI_inj, true_and]); (try omega))); (try case' h7 => first | exact to1 | (simp +decide only [go_sem]; (try simp (disch := first | exact ds | fail) only [go_sem, Nat.reduceAdd, Nat.reduceMul, Nat.reduceSub, Int.reduceToNat, Int.reduceNeg, Nat.reduceLeDiff, hD]); (try simp only [SV.pl.injEq, SV.sl.injEq, Value.int.injEq, Bk.c.injEq, encI_inj, true_and]); (try omega)))
      · rw [putAt_all _ _ rfl]
      have q1 : ((i : Nat) : Int).tdiv 4 = ((i / 4 : Nat) : Int) := by rw [Int.tdiv_eq_ediv_of_nonneg (by omega)]; omega
      have q2 : ((i : Nat) : Int).tmod 4 = ((i % 4 : Nat) : Int) := by rw [Int.tmod_eq_emod_of_nonneg (by omega)]; omega
      have bv := Wf (hsw (i / 4))
      have hq : i % 4 < (bigB (hs.getD (i / 4) 0) 4).length := by rw [bigB_length]; omega
      have hl2 : ((sha b).take i ++ List.replicate (32 - i) 0).length = 32 := by simp [hsl32]; omega
      have hD := And.intro (hsl) (And.intro (q1) (And.intro (q2) (And.intro @bigB_length (And.intro (hl2) (And.intro @shaF_eq (@encA_set))))))
      repeat' (first | apply W.seq | apply W.skip | apply W.region | apply W.block | apply N.code | apply N.blk | apply Sl.nil | apply W.exit | apply W.ret | apply E.hit | apply E.code | apply E.fin | refine zM ?_ | apply O.i | refine sP ?_ | refine sQ fun _ => ?_ | refine sX fun _ => ?_ | (refine k1 false [] c75 ?_; refine k2 l1Bytes_ok ?_) | (refine k1 false [] c182 ?_; (first | refine k2 l5Big8_ok ?_ | refine k2 l5Big4_ok ?_)) | (refine k1 false [] c183 ?_; refine k2 l5Mix_ok ?_) | refine zI ?_ ?_ | (intro hb; (try simp [-List.getD_eq_getElem?_getD] at hb); (try (exfalso; omega))))
      · (refine N.fin ⟨by omega, ?h8, ?w8⟩; case' w8 => (refine Weak.to (by first | rfl | (simp only [virtAt_n]; rfl)) ?s8 ?b8 (by exact dfe)))
        (try case' s8 => first | exact to1 | (simp +decide only [go_sem]; (try simp (disch := first | exact ds | fail) only [go_sem, Nat.reduceAdd, Nat.reduceMul, Nat.reduceSub, Int.reduceToNat, Int.reduceNeg, Nat.reduceLeDiff, hD]); (try simp only [SV.pl.injEq, SV.sl.injEq, Value.int.injEq, Bk.c.injEq, encI_inj, true_and]); (try omega))); (try case' b8 => first | exact to1 | (simp +decide only [go_sem]; (try simp (disch := first | exact ds | fail) only [go_sem, Nat.reduceAdd, Nat.reduceMul, Nat.reduceSub, Int.reduceToNat, Int.reduceNeg, Nat.reduceLeDiff, hD]); (try simp only [SV.pl.injEq, SV.sl.injEq, Value.int.injEq, Bk.c.injEq, encI_inj, true_and]); (try omega))); (try case' h8 => first | exact to1 | (simp +decide only [go_sem]; (try simp (disch := first | exact ds | fail) only [go_sem, Nat.reduceAdd, Nat.reduceMul, Nat.reduceSub, Int.reduceToNat, Int.reduceNeg, Nat.reduceLeDiff, hD]); (try simp only [SV.pl.injEq, SV.sl.injEq, Value.int.injEq, Bk.c.injEq, encI_inj, true_and]); (try omega)))
        rw [show shaF hs i = (sha b).getD i 0 by rw [hse, range_map_getD _ _ _ _ (by omega)], hst i (by omega)]
      · obtain rfl : i = 32 := by omega
        rw [Nat.sub_self, List.replicate_zero, List.append_nil]
        have hD := And.intro @putAt_all (And.intro @encA_length (And.intro @lRep (And.intro (hsl32) (@encA_isPl))))
        exact rT
end Go.Proofs.Ytnancifnodbkdaa

