import Derived.Test.YtnancifnodbkdaaB1
namespace Go.Proofs.Ytnancifnodbkdaa
open Go Go.Vcg Go.IntWalk
set_option maxRecDepth 100000
set_option maxHeartbeats 20000000
set_option linter.unusedSimpArgs false
set_option linter.unusedVariables false

theorem l5K_ok : TSpec Try.prog 202 [] [] false [] (.ow 1 (encI .i64 kTab)) := by
  simp only [kTab, encI, List.map_cons, List.map_nil]
  have hD := @chunks_1
  refine sT 2 [.tmp 0] Try.func202 fun w0 S0 ρ0 φ0 => ?_
  repeat' (first | apply W.seq | apply W.skip | apply W.region | apply W.block | apply N.code | apply N.blk | apply Sl.nil | apply W.exit | apply W.ret | apply E.hit | apply E.code | apply E.fin | refine zM ?_ | apply O.i | refine sP ?_ | refine sQ fun _ => ?_ | refine sX fun _ => ?_ | refine zI ?_ ?_ | (intro hb; (try simp [-List.getD_eq_getElem?_getD] at hb); (try (exfalso; omega))))
  exact rT
theorem mixV_length {h : List Int} (b : List Int) (hl : h.length = 8) : (mixV h b).length = 8 := by rw [mixV_eq]; exact rnds_length _ _ _ _ hl
theorem mixV_WL {h : List Int} (b : List Int) (hw : WL h) : WL (mixV h b) := by rw [mixV_eq]; exact rnds_WL _ hw
theorem ng64 {e : Int} (h : W32 e) : 4294967295 - e = ng e := by unfold ng; rfl
theorem enc8 (k : IntKind) (a b c d e f g h : Int) : [[SV.pl (.int k a)], [SV.pl (.int k b)], [SV.pl (.int k c)], [SV.pl (.int k d)], [SV.pl (.int k e)], [SV.pl (.int k f)], [SV.pl (.int k g)], [SV.pl (.int k h)]] = encI k [a, b, c, d, e, f, g, h] := rfl
theorem l5Mix_ok {h b : List Int} (ho : okBytes b := by exact pm) (hl : b.length = 64 := by exact pm) (hh : h.length = 8 := by exact pm) (hw : WL h := by exact pm) : TSpec Try.prog 183 [] [.pd (encI .i64 h), .pd (encI .u8 b)] false [] (.ow 1 (encI .i64 (mix h b))) := by
  have hwl := words_length b 48
  have hww := words_WL ho 48
  obtain ⟨ws, hws⟩ : ∃ ws, ws = words b 48 := ⟨_, rfl⟩
  have hkl := kTab_length
  have hkw := kTab_W
  have hmv : mixV h b = rnds kTab ws 64 h := by rw [mixV_eq, hws]
  rw [← hws] at hwl hww
  have hD := And.intro (hws.symm) (And.intro (hwl) (And.intro (hkl) (And.intro (hh) (And.intro @encI_nil (@rnds_zero)))))
  have hD := And.intro (hws.symm) (And.intro (hwl) (And.intro (hkl) (And.intro (hh) (And.intro @encI_nil (@rnds_zero)))))
  refine sT 148 [.tmp 4] Try.func183 fun w0 S0 ρ0 φ0 => ?_
  repeat' (first | apply W.seq | apply W.skip | apply W.region | apply W.block | apply N.code | apply N.blk | apply Sl.nil | apply W.exit | apply W.ret | apply E.hit | apply E.code | apply E.fin | refine zM ?_ | apply O.i | refine sP ?_ | refine sQ fun _ => ?_ | refine sX fun _ => ?_ | (refine k1 false [] c201 ?_; refine k2 l5Words_ok ?_) | (refine k1 false [] c202 ?_; refine k2 l5K_ok ?_) | (refine k1 false [] c203 ?_; refine k2 l5Turn_ok ?_) | (refine rD (id := 11) anyW [] ?_; refine rP 0 false fun _ => ?_; refine rP 1 false fun _ => ?_; refine rP 2 false fun _ => ?_; refine rP 3 true fun _ => ?_; refine rP 4 false fun _ => ?_; refine rP 5 false fun _ => ?_; refine rP 6 false fun _ => ?_; refine rP 7 false fun _ => ?_; refine rP 8 false fun _ => ?_; refine rP 9 true fun _ => ?_; refine rP 10 false fun _ => ?_; refine rP 11 false fun _ => ?_; refine rP 12 false fun _ => ?_; refine rE ?_) | (refine rD (id := 12) anyW [] ?_; refine rP 0 false fun _ => ?_; refine rP 1 false fun _ => ?_; refine rP 2 true fun _ => ?_; refine rP 3 false fun _ => ?_; refine rP 4 false fun _ => ?_; refine rP 5 false fun _ => ?_; refine rP 6 false fun _ => ?_; refine rP 7 false fun _ => ?_; refine rP 8 false fun _ => ?_; refine rP 9 false fun _ => ?_; refine rP 10 true fun _ => ?_; refine rP 11 false fun _ => ?_; refine rP 12 false fun _ => ?_; refine rP 13 false fun _ => ?_; refine rP 14 false fun _ => ?_; refine rP 15 true fun _ => ?_; refine rP 16 false fun _ => ?_; refine rP 17 false fun _ => ?_; refine rP 18 false fun _ => ?_; refine rE ?_) | (refine rD (id := 14) anyW [] ?_; refine rP 0 false fun _ => ?_; refine rP 1 false fun _ => ?_; refine rP 2 false fun _ => ?_; refine rP 3 true fun _ => ?_; refine rP 4 false fun _ => ?_; refine rP 5 false fun _ => ?_; refine rP 6 false fun _ => ?_; refine rP 7 false fun _ => ?_; refine rP 8 true fun _ => ?_; refine rP 9 false fun _ => ?_; refine rP 10 false fun _ => ?_; refine rP 11 false fun _ => ?_; refine rP 12 false fun _ => ?_; refine rP 13 true fun _ => ?_; refine rP 14 false fun _ => ?_; refine rP 15 false fun _ => ?_; refine rP 16 true fun _ => ?_; refine rP 17 false fun _ => ?_; refine rP 18 false fun _ => ?_; refine rP 19 false fun _ => ?_; refine rE ?_) | (refine rD (id := 15) anyW [] ?_; refine rP 0 false fun _ => ?_; refine rP 1 false fun _ => ?_; refine rP 2 false fun _ => ?_; refine rP 3 false fun _ => ?_; refine rP 4 false fun _ => ?_; refine rP 5 false fun _ => ?_; refine rP 6 false fun _ => ?_; refine rP 7 false fun _ => ?_; refine rP 8 true fun _ => ?_; refine rP 9 false fun _ => ?_; refine rP 10 false fun _ => ?_; refine rP 11 true fun _ => ?_; refine rP 12 false fun _ => ?_; refine rP 13 false fun _ => ?_; refine rP 14 true fun _ => ?_; refine rP 15 false fun _ => ?_; refine rP 16 false fun _ => ?_; refine rP 17 true fun _ => ?_; refine rP 18 false fun _ => ?_; refine rP 19 false fun _ => ?_; refine rP 20 false fun _ => ?_; refine rP 21 false fun _ => ?_; refine rP 22 false fun _ => ?_; refine rP 23 true fun _ => ?_; refine rP 24 false fun _ => ?_; refine rP 25 false fun _ => ?_; refine rP 26 true fun _ => ?_; refine rP 27 false fun _ => ?_; refine rP 28 false fun _ => ?_; refine rP 29 true fun _ => ?_; refine rO 30 fun _ _ _ _ _ => ?_; refine sX fun _ => ?_; refine rP 31 false fun _ => ?_; refine rE ?_) | (refine rD (id := 19) anyW [13] ?_; refine rP 0 false fun _ => ?_; refine rP 1 false fun _ => ?_; refine rP 2 false fun _ => ?_; refine rP 3 false fun _ => ?_; refine rP 4 false fun _ => ?_; refine rP 5 true fun _ => ?_; refine rP 6 false fun _ => ?_; refine rP 7 false fun _ => ?_; refine rP 8 false fun _ => ?_; refine rP 9 true fun _ => ?_; refine rP 10 false fun _ => ?_; refine rP 11 false fun _ => ?_; refine rP 12 false fun _ => ?_; refine rO 13 fun _ _ _ _ _ => ?_; refine sX fun _ => ?_; refine rE ?_) | refine zI ?_ ?_ | (intro hb; (try simp [-List.getD_eq_getElem?_getD] at hb); (try (exfalso; omega))))
  (refine gR 23 2000000 ?_)
  refine W.iter (fun k => ⟨148, [(0, .pd (encI .i64 h)), (5, .sl (nmR 18) 0 64), (6, .sl (nmR 19) 0 64), (7, .sl 2000000 0 8), (8, .pl (.int .i64 k))], [(nmR 18, .c 1 (encI .i64 ws)), (nmR 19, .c 1 (encI .i64 kTab)), (2000000, .c 1 (encI .i64 (rnds kTab ws k h)))], []⟩) (fun k => True) (64) (Weak.to (by first | rfl | (simp only [virtAt_n]; rfl)) ?s1 ?b1 (by exact dfe)) ?h1 (fun k hk hH => ?body1)
  (try case' s1 => first | exact to1 | (simp +decide only [go_sem]; (try simp (disch := first | exact ds | fail) only [go_sem, Nat.reduceAdd, Nat.reduceMul, Nat.reduceSub, Int.reduceToNat, Int.reduceNeg, Nat.reduceLeDiff, hD]); (try simp only [SV.pl.injEq, SV.sl.injEq, Value.int.injEq, Bk.c.injEq, encI_inj, true_and]); (try omega))); (try case' b1 => first | exact to1 | (simp +decide only [go_sem]; (try simp (disch := first | exact ds | fail) only [go_sem, Nat.reduceAdd, Nat.reduceMul, Nat.reduceSub, Int.reduceToNat, Int.reduceNeg, Nat.reduceLeDiff, hD]); (try simp only [SV.pl.injEq, SV.sl.injEq, Value.int.injEq, Bk.c.injEq, encI_inj, true_and]); (try omega))); (try case' h1 => first | exact to1 | (simp +decide only [go_sem]; (try simp (disch := first | exact ds | fail) only [go_sem, Nat.reduceAdd, Nat.reduceMul, Nat.reduceSub, Int.reduceToNat, Int.reduceNeg, Nat.reduceLeDiff, hD]); (try simp only [SV.pl.injEq, SV.sl.injEq, Value.int.injEq, Bk.c.injEq, encI_inj, true_and]); (try omega)))
  obtain ⟨v, hv⟩ : ∃ v, v = rnds kTab ws k h := ⟨_, rfl⟩
  have hvl : v.length = 8 := hv ▸ rnds_length kTab ws k h hh
  have hvw : WL v := hv ▸ rnds_WL k hw
  rw [← hv]
  obtain ⟨v0, e0⟩ : ∃ x, x = v.getD 0 0 := ⟨_, rfl⟩
  obtain ⟨v1, e1⟩ : ∃ x, x = v.getD 1 0 := ⟨_, rfl⟩
  obtain ⟨v2, e2⟩ : ∃ x, x = v.getD 2 0 := ⟨_, rfl⟩
  obtain ⟨v3, e3⟩ : ∃ x, x = v.getD 3 0 := ⟨_, rfl⟩
  obtain ⟨v4, e4⟩ : ∃ x, x = v.getD 4 0 := ⟨_, rfl⟩
  obtain ⟨v5, e5⟩ : ∃ x, x = v.getD 5 0 := ⟨_, rfl⟩
  obtain ⟨v6, e6⟩ : ∃ x, x = v.getD 6 0 := ⟨_, rfl⟩
  obtain ⟨v7, e7⟩ : ∃ x, x = v.getD 7 0 := ⟨_, rfl⟩
  obtain ⟨kk, ek⟩ : ∃ x, x = kTab.getD k 0 := ⟨_, rfl⟩
  obtain ⟨w, ew⟩ : ∃ x, x = ws.getD k 0 := ⟨_, rfl⟩
  have W0 : W32 v0 := e0 ▸ hvw 0
  have W1 : W32 v1 := e1 ▸ hvw 1
  have W2 : W32 v2 := e2 ▸ hvw 2
  have W4 : W32 v4 := e4 ▸ hvw 4
  have W5 : W32 v5 := e5 ▸ hvw 5
  have W6 : W32 v6 := e6 ▸ hvw 6
  have b3 := Wf (e3 ▸ hvw 3)
  have b7 := Wf (e7 ▸ hvw 7)
  have bk := Wf (ek ▸ hkw k)
  have bw := Wf (ew ▸ hww k)
  have b4 := Wf W4
  have r1 : W32 (rr v4 6) := W_rr W4 (by omega) (by omega)
  have r2 : W32 (rr v4 11) := W_rr W4 (by omega) (by omega)
  have r3 : W32 (rr v4 25) := W_rr W4 (by omega) (by omega)
  have r4 : W32 (rr v0 2) := W_rr W0 (by omega) (by omega)
  have r5 : W32 (rr v0 13) := W_rr W0 (by omega) (by omega)
  have r6 : W32 (rr v0 22) := W_rr W0 (by omega) (by omega)
  have x1 := W_xr r1 r2
  have x2 := W_xr r4 r5
  have n1 := W_ng W4
  have a1 := W_an W4 W5
  have a2 := W_an n1 W6
  have a3 := W_an W0 W1
  have a4 := W_an W0 W2
  have a5 := W_an W1 W2
  have x3 := W_xr a3 a4
  obtain ⟨s1, hs1⟩ : ∃ s, s = xr (xr (rr v4 6) (rr v4 11)) (rr v4 25) := ⟨_, rfl⟩
  obtain ⟨ch, hch⟩ : ∃ s, s = xr (an v4 v5) (an (ng v4) v6) := ⟨_, rfl⟩
  obtain ⟨s0, hs0⟩ : ∃ s, s = xr (xr (rr v0 2) (rr v0 13)) (rr v0 22) := ⟨_, rfl⟩
  obtain ⟨mj, hmj⟩ : ∃ s, s = xr (xr (an v0 v1) (an v0 v2)) (an v1 v2) := ⟨_, rfl⟩
  have bs1 := Wf (hs1 ▸ W_xr x1 r3)
  have bch := Wf (hch ▸ W_xr a1 a2)
  have bs0 := Wf (hs0 ▸ W_xr x2 r6)
  have bmj := Wf (hmj ▸ W_xr x3 a5)
  obtain ⟨one, hone⟩ : ∃ s, s = (v7 + s1 + ch + kk + w) % 4294967296 := ⟨_, rfl⟩
  have bone := Wf (hone ▸ W_mod (v7 + s1 + ch + kk + w))
  have hn : rnds kTab ws (k + 1) h = [(one + s0 + mj) % 4294967296, v0, v1, v2, (v3 + one) % 4294967296, v4, v5, v6] := by
    rw [rnds_succ, ← hv, ← ek, ← ew, hone, hs1, hch, hs0, hmj, e0, e1, e2, e3, e4, e5, e6, e7]
    unfold rnd
    rfl
  have ng4 : 4294967295 - v4 = ng v4 := ng64 W4
  have hD := And.intro (hvl) (And.intro (hwl) (And.intro (hkl) (And.intro (e0.symm) (And.intro (e1.symm) (And.intro (e2.symm) (And.intro (e3.symm) (And.intro (e4.symm) (And.intro (e5.symm) (And.intro (e6.symm) (And.intro (e7.symm) (And.intro (ek.symm) (And.intro (ew.symm) (And.intro (hs1.symm) (And.intro (hch.symm) (And.intro (hs0.symm) (And.intro (hmj.symm) (And.intro (hone.symm) (And.intro (ng4) (And.intro @x64 (And.intro @a64 (And.intro @td_nat (And.intro @tm32 (And.intro @encI_one (And.intro @encI_append (@chunks_1)))))))))))))))))))))))))
  repeat' (first | apply W.seq | apply W.skip | apply W.region | apply W.block | apply N.code | apply N.blk | apply Sl.nil | apply W.exit | apply W.ret | apply E.hit | apply E.code | apply E.fin | refine zM ?_ | apply O.i | refine sP ?_ | refine sQ fun _ => ?_ | refine sX fun _ => ?_ | (refine k1 false [] c201 ?_; refine k2 l5Words_ok ?_) | (refine k1 false [] c202 ?_; refine k2 l5K_ok ?_) | (refine k1 false [] c203 ?_; refine k2 l5Turn_ok ?_) | (refine rD (id := 11) anyW [] ?_; refine rP 0 false fun _ => ?_; refine rP 1 false fun _ => ?_; refine rP 2 false fun _ => ?_; refine rP 3 true fun _ => ?_; refine rP 4 false fun _ => ?_; refine rP 5 false fun _ => ?_; refine rP 6 false fun _ => ?_; refine rP 7 false fun _ => ?_; refine rP 8 false fun _ => ?_; refine rP 9 true fun _ => ?_; refine rP 10 false fun _ => ?_; refine rP 11 false fun _ => ?_; refine rP 12 false fun _ => ?_; refine rE ?_) | (refine rD (id := 12) anyW [] ?_; refine rP 0 false fun _ => ?_; refine rP 1 false fun _ => ?_; refine rP 2 true fun _ => ?_; refine rP 3 false fun _ => ?_; refine rP 4 false fun _ => ?_; refine rP 5 false fun _ => ?_; refine rP 6 false fun _ => ?_; refine rP 7 false fun _ => ?_; refine rP 8 false fun _ => ?_; refine rP 9 false fun _ => ?_; refine rP 10 true fun _ => ?_; refine rP 11 false fun _ => ?_; refine rP 12 false fun _ => ?_; refine rP 13 false fun _ => ?_; refine rP 14 false fun _ => ?_; refine rP 15 true fun _ => ?_; refine rP 16 false fun _ => ?_; refine rP 17 false fun _ => ?_; refine rP 18 false fun _ => ?_; refine rE ?_) | (refine rD (id := 14) anyW [] ?_; refine rP 0 false fun _ => ?_; refine rP 1 false fun _ => ?_; refine rP 2 false fun _ => ?_; refine rP 3 true fun _ => ?_; refine rP 4 false fun _ => ?_; refine rP 5 false fun _ => ?_; refine rP 6 false fun _ => ?_; refine rP 7 false fun _ => ?_; refine rP 8 true fun _ => ?_; refine rP 9 false fun _ => ?_; refine rP 10 false fun _ => ?_; refine rP 11 false fun _ => ?_; refine rP 12 false fun _ => ?_; refine rP 13 true fun _ => ?_; refine rP 14 false fun _ => ?_; refine rP 15 false fun _ => ?_; refine rP 16 true fun _ => ?_; refine rP 17 false fun _ => ?_; refine rP 18 false fun _ => ?_; refine rP 19 false fun _ => ?_; refine rE ?_) | (refine rD (id := 15) anyW [] ?_; refine rP 0 false fun _ => ?_; refine rP 1 false fun _ => ?_; refine rP 2 false fun _ => ?_; refine rP 3 false fun _ => ?_; refine rP 4 false fun _ => ?_; refine rP 5 false fun _ => ?_; refine rP 6 false fun _ => ?_; refine rP 7 false fun _ => ?_; refine rP 8 true fun _ => ?_; refine rP 9 false fun _ => ?_; refine rP 10 false fun _ => ?_; refine rP 11 true fun _ => ?_; refine rP 12 false fun _ => ?_; refine rP 13 false fun _ => ?_; refine rP 14 true fun _ => ?_; refine rP 15 false fun _ => ?_; refine rP 16 false fun _ => ?_; refine rP 17 true fun _ => ?_; refine rP 18 false fun _ => ?_; refine rP 19 false fun _ => ?_; refine rP 20 false fun _ => ?_; refine rP 21 false fun _ => ?_; refine rP 22 false fun _ => ?_; refine rP 23 true fun _ => ?_; refine rP 24 false fun _ => ?_; refine rP 25 false fun _ => ?_; refine rP 26 true fun _ => ?_; refine rP 27 false fun _ => ?_; refine rP 28 false fun _ => ?_; refine rP 29 true fun _ => ?_; refine rO 30 fun _ _ _ _ _ => ?_; refine sX fun _ => ?_; refine rP 31 false fun _ => ?_; refine rE ?_) | (refine rD (id := 19) anyW [13] ?_; refine rP 0 false fun _ => ?_; refine rP 1 false fun _ => ?_; refine rP 2 false fun _ => ?_; refine rP 3 false fun _ => ?_; refine rP 4 false fun _ => ?_; refine rP 5 true fun _ => ?_; refine rP 6 false fun _ => ?_; refine rP 7 false fun _ => ?_; refine rP 8 false fun _ => ?_; refine rP 9 true fun _ => ?_; refine rP 10 false fun _ => ?_; refine rP 11 false fun _ => ?_; refine rP 12 false fun _ => ?_; refine rO 13 fun _ _ _ _ _ => ?_; refine sX fun _ => ?_; refine rE ?_) | refine zI ?_ ?_ | (intro hb; (try simp [-List.getD_eq_getElem?_getD] at hb); (try (exfalso; omega))))
  · (refine N.fin ⟨by omega, ?h2, ?w2⟩; case' w2 => (refine eR 129 2000000 ?_; refine Weak.to (by first | rfl | (simp only [virtAt_n]; rfl)) ?s2 ?b2 (by exact dfe)))
    (try case' s2 => first | exact to1 | (simp +decide only [go_sem]; (try simp (disch := first | exact ds | fail) only [go_sem, Nat.reduceAdd, Nat.reduceMul, Nat.reduceSub, Int.reduceToNat, Int.reduceNeg, Nat.reduceLeDiff, hD]); (try simp only [SV.pl.injEq, SV.sl.injEq, Value.int.injEq, Bk.c.injEq, encI_inj, true_and]); (try omega))); (try case' b2 => first | exact to1 | (simp +decide only [go_sem]; (try simp (disch := first | exact ds | fail) only [go_sem, Nat.reduceAdd, Nat.reduceMul, Nat.reduceSub, Int.reduceToNat, Int.reduceNeg, Nat.reduceLeDiff, hD]); (try simp only [SV.pl.injEq, SV.sl.injEq, Value.int.injEq, Bk.c.injEq, encI_inj, true_and]); (try omega))); (try case' h2 => first | exact to1 | (simp +decide only [go_sem]; (try simp (disch := first | exact ds | fail) only [go_sem, Nat.reduceAdd, Nat.reduceMul, Nat.reduceSub, Int.reduceToNat, Int.reduceNeg, Nat.reduceLeDiff, hD]); (try simp only [SV.pl.injEq, SV.sl.injEq, Value.int.injEq, Bk.c.injEq, encI_inj, true_and]); (try omega)))
    rw [hn]
    rfl
  · obtain rfl : k = 64 := by omega
    rw [← hmv] at hv
    have hml := mix_length h b
    have hmw := mix_WL h b
    rw [hv]
    rw [hv] at hvl hvw
    have hD := And.intro (hvl) (And.intro (hh) (And.intro (hml) (And.intro @lDrop (@lTake))))
    refine W.iter (fun j => ⟨148, [(0, .pd (encI .i64 h)), (7, .sl 2000000 0 8), (16, .pl (.int .i64 j))], [(2000000, .c 1 (encI .i64 ((mix h b).take j ++ (mixV h b).drop j)))], []⟩) (fun j => True) (8) (Weak.to (by first | rfl | (simp only [virtAt_n]; rfl)) ?s3 ?b3 (by exact dfe)) ?h3 (fun j hj Hj => ?body3)
    (try case' s3 => first | exact to1 | (simp +decide only [go_sem]; (try simp (disch := first | exact ds | fail) only [go_sem, Nat.reduceAdd, Nat.reduceMul, Nat.reduceSub, Int.reduceToNat, Int.reduceNeg, Nat.reduceLeDiff, hD]); (try simp only [SV.pl.injEq, SV.sl.injEq, Value.int.injEq, Bk.c.injEq, encI_inj, true_and]); (try omega))); (try case' b3 => first | exact to1 | (simp +decide only [go_sem]; (try simp (disch := first | exact ds | fail) only [go_sem, Nat.reduceAdd, Nat.reduceMul, Nat.reduceSub, Int.reduceToNat, Int.reduceNeg, Nat.reduceLeDiff, hD]); (try simp only [SV.pl.injEq, SV.sl.injEq, Value.int.injEq, Bk.c.injEq, encI_inj, true_and]); (try omega))); (try case' h3 => first | exact to1 | (simp +decide only [go_sem]; (try simp (disch := first | exact ds | fail) only [go_sem, Nat.reduceAdd, Nat.reduceMul, Nat.reduceSub, Int.reduceToNat, Int.reduceNeg, Nat.reduceLeDiff, hD]); (try simp only [SV.pl.injEq, SV.sl.injEq, Value.int.injEq, Bk.c.injEq, encI_inj, true_and]); (try omega)))
    have bv := Wf (hvw j)
    have bh := Wf (hw j)
    have hst := set_step 0 (mixV h b) (mix h b) j
    have hD := And.intro (hvl) (And.intro (hh) (And.intro (hml) (And.intro @lDrop (And.intro @lTake (@tm32)))))
    repeat' (first | apply W.seq | apply W.skip | apply W.region | apply W.block | apply N.code | apply N.blk | apply Sl.nil | apply W.exit | apply W.ret | apply E.hit | apply E.code | apply E.fin | refine zM ?_ | apply O.i | refine sP ?_ | refine sQ fun _ => ?_ | refine sX fun _ => ?_ | (refine k1 false [] c201 ?_; refine k2 l5Words_ok ?_) | (refine k1 false [] c202 ?_; refine k2 l5K_ok ?_) | (refine k1 false [] c203 ?_; refine k2 l5Turn_ok ?_) | (refine rD (id := 11) anyW [] ?_; refine rP 0 false fun _ => ?_; refine rP 1 false fun _ => ?_; refine rP 2 false fun _ => ?_; refine rP 3 true fun _ => ?_; refine rP 4 false fun _ => ?_; refine rP 5 false fun _ => ?_; refine rP 6 false fun _ => ?_; refine rP 7 false fun _ => ?_; refine rP 8 false fun _ => ?_; refine rP 9 true fun _ => ?_; refine rP 10 false fun _ => ?_; refine rP 11 false fun _ => ?_; refine rP 12 false fun _ => ?_; refine rE ?_) | (refine rD (id := 12) anyW [] ?_; refine rP 0 false fun _ => ?_; refine rP 1 false fun _ => ?_; refine rP 2 true fun _ => ?_; refine rP 3 false fun _ => ?_; refine rP 4 false fun _ => ?_; refine rP 5 false fun _ => ?_; refine rP 6 false fun _ => ?_; refine rP 7 false fun _ => ?_; refine rP 8 false fun _ => ?_; refine rP 9 false fun _ => ?_; refine rP 10 true fun _ => ?_; refine rP 11 false fun _ => ?_; refine rP 12 false fun _ => ?_; refine rP 13 false fun _ => ?_; refine rP 14 false fun _ => ?_; refine rP 15 true fun _ => ?_; refine rP 16 false fun _ => ?_; refine rP 17 false fun _ => ?_; refine rP 18 false fun _ => ?_; refine rE ?_) | (refine rD (id := 14) anyW [] ?_; refine rP 0 false fun _ => ?_; refine rP 1 false fun _ => ?_; refine rP 2 false fun _ => ?_; refine rP 3 true fun _ => ?_; refine rP 4 false fun _ => ?_; refine rP 5 false fun _ => ?_; refine rP 6 false fun _ => ?_; refine rP 7 false fun _ => ?_; refine rP 8 true fun _ => ?_; refine rP 9 false fun _ => ?_; refine rP 10 false fun _ => ?_; refine rP 11 false fun _ => ?_; refine rP 12 false fun _ => ?_; refine rP 13 true fun _ => ?_; refine rP 14 false fun _ => ?_; refine rP 15 false fun _ => ?_; refine rP 16 true fun _ => ?_; refine rP 17 false fun _ => ?_; refine rP 18 false fun _ => ?_; refine rP 19 false fun _ => ?_; refine rE ?_) | (refine rD (id := 15) anyW [] ?_; refine rP 0 false fun _ => ?_; refine rP 1 false fun _ => ?_; refine rP 2 false fun _ => ?_; refine rP 3 false fun _ => ?_; refine rP 4 false fun _ => ?_; refine rP 5 false fun _ => ?_; refine rP 6 false fun _ => ?_; refine rP 7 false fun _ => ?_; refine rP 8 true fun _ => ?_; refine rP 9 false fun _ => ?_; refine rP 10 false fun _ => ?_; refine rP 11 true fun _ => ?_; refine rP 12 false fun _ => ?_; refine rP 13 false fun _ => ?_; refine rP 14 true fun _ => ?_; refine rP 15 false fun _ => ?_; refine rP 16 false fun _ => ?_; refine rP 17 true fun _ => ?_; refine rP 18 false fun _ => ?_; refine rP 19 false fun _ => ?_; refine rP 20 false fun _ => ?_; refine rP 21 false fun _ => ?_; refine rP 22 false fun _ => ?_; refine rP 23 true fun _ => ?_; refine rP 24 false fun _ => ?_; refine rP 25 false fun _ => ?_; refine rP 26 true fun _ => ?_; refine rP 27 false fun _ => ?_; refine rP 28 false fun _ => ?_; refine rP 29 true fun _ => ?_; refine rO 30 fun _ _ _ _ _ => ?_; refine sX fun _ => ?_; refine rP 31 false fun _ => ?_; refine rE ?_) | (refine rD (id := 19) anyW [13] ?_; refine rP 0 false fun _ => ?_; refine rP 1 false fun _ => ?_; refine rP 2 false fun _ => ?_; refine rP 3 false fun _ => ?_; refine rP 4 false fun _ => ?_; refine rP 5 true fun _ => ?_; refine rP 6 false fun _ => ?_; refine rP 7 false fun _ => ?_; refine rP 8 false fun _ => ?_; refine rP 9 true fun _ => ?_; refine rP 10 false fun _ => ?_; refine rP 11 false fun _ => ?_; refine rP 12 false fun _ => ?_; refine rO 13 fun _ _ _ _ _ => ?_; refine sX fun _ => ?_; refine rE ?_) | refine zI ?_ ?_ | (intro hb; (try simp [-List.getD_eq_getElem?_getD] at hb); (try (exfalso; omega))))
    · (refine N.fin ⟨by omega, ?h4, ?w4⟩; case' w4 => (refine Weak.to (by first | rfl | (simp only [virtAt_n]; rfl)) ?s4 ?b4 (by exact dfe)))
      (try case' s4 => first | exact to1 | (simp +decide only [go_sem]; (try simp (disch := first | exact ds | fail) only [go_sem, Nat.reduceAdd, Nat.reduceMul, Nat.reduceSub, Int.reduceToNat, Int.reduceNeg, Nat.reduceLeDiff, hD]); (try simp only [SV.pl.injEq, SV.sl.injEq, Value.int.injEq, Bk.c.injEq, encI_inj, true_and]); (try omega))); (try case' b4 => first | exact to1 | (simp +decide only [go_sem]; (try simp (disch := first | exact ds | fail) only [go_sem, Nat.reduceAdd, Nat.reduceMul, Nat.reduceSub, Int.reduceToNat, Int.reduceNeg, Nat.reduceLeDiff, hD]); (try simp only [SV.pl.injEq, SV.sl.injEq, Value.int.injEq, Bk.c.injEq, encI_inj, true_and]); (try omega))); (try case' h4 => first | exact to1 | (simp +decide only [go_sem]; (try simp (disch := first | exact ds | fail) only [go_sem, Nat.reduceAdd, Nat.reduceMul, Nat.reduceSub, Int.reduceToNat, Int.reduceNeg, Nat.reduceLeDiff, hD]); (try simp only [SV.pl.injEq, SV.sl.injEq, Value.int.injEq, Bk.c.injEq, encI_inj, true_and]); (try omega)))
      rw [← mixF_eq, ← mix_getD h b j (by omega)]
      exact hst (by omega) (by omega)
    · obtain rfl : j = 8 := by omega
      rw [List.take_of_length_le (by omega), List.drop_of_length_le (by omega), List.append_nil]
      exact rT
end Go.Proofs.Ytnancifnodbkdaa

