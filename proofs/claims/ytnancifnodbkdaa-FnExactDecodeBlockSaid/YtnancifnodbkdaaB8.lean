import Derived.Test.YtnancifnodbkdaaB7
namespace Go.Proofs.Ytnancifnodbkdaa
open Go Go.Vcg Go.IntWalk
set_option maxRecDepth 100000
set_option maxHeartbeats 20000000
set_option linter.unusedSimpArgs false
set_option linter.unusedVariables false

theorem lentB_cons (st : St) (q : Nat × Nat) (l : Bs) (b : Nat) : lentB st (q :: l) false b = if (toPin (q :: l) b).isSome then none else st.blk b := by simp [lentB]
attribute [go_sem] lentB_cons
theorem eA_putN (k : IntKind) (xs ys : List Int) (off : Nat) (h : off + ys.length ≤ xs.length) : putAt (encA k xs) off (encA k ys) = encA k (ovL xs off ys) := by
  have := eA_put k xs ys [] off h
  rwa [List.append_nil, List.append_nil] at this
theorem lNilApp (l : List Int) : [] ++ l = l := rfl
theorem hrowM_kill (m : List Int) (d : Nat) : (hrowM m).map (SV.kill1 d) = hrowM m := by
  unfold hrowM hrow
  simp only [go_sem]
theorem hrowM_clo (m : List Int) : cloRow (hrowM m) = true := by
  unfold hrowM hrow
  rw [cloRow_append, encA_clo, cloRow_append, encA_clo]
  rfl
theorem hrowM_rn (m : List Int) (r : Nat → Option Nat) : (hrowM m).map (SV.rn1 r) = hrowM m := rnRow_clo (hrowM_clo m) r
theorem hrowM_len (m : List Int) : (hrowM m).length = 74 := by
  unfold hrowM hrow
  simp [kTab_length, msgH_length, encA_length]
theorem okBytes_one {x : Int} (h : 0 ≤ x ∧ x < 256) : okBytes [x] := fun y hy => by simp at hy; subst hy; exact h
theorem msgH_pad (m : List Int) : msgH (pad m) = shaSt (pad m) ((pad m).length / 64) := by rw [shaSt_abs]; unfold msgH msgQ; rfl
/-- How sum takes in the padding, byte by byte. -/
def padK (m : List Int) (k : Nat) : List Int := m ++ [128] ++ List.replicate k 0
theorem padK_length (m : List Int) (k : Nat) : (padK m k).length = m.length + 1 + k := by simp [padK]; omega
theorem padK_zero (m : List Int) : m ++ [128] = padK m 0 := by simp [padK]
theorem padK_succ (m : List Int) (k : Nat) : padK m k ++ [0] = padK m (k + 1) := by simp [padK, List.replicate_succ']
theorem padK_pad (m : List Int) : padK m (padN m.length) ++ bigB (8 * m.length) 8 = pad m := pad_eq m
theorem okBytes_padK {m : List Int} (h : okBytes m) (k : Nat) : okBytes (padK m k) := okBytes_append (okBytes_append h (okBytes_one (by omega))) (okBytes_rep k)
attribute [irreducible] padK
theorem sha_ov (hs : List Int) (l : List Int) (hl : l = (List.range 32).map (shaF hs)) (i : Nat) (hi : i < 8) : ovL (l.take (4 * i) ++ List.replicate (32 - 4 * i) 0) (4 * i) (bigB (hs.getD i 0) 4) = l.take (4 * (i + 1)) ++ List.replicate (32 - 4 * (i + 1)) 0 := by
  have hll : l.length = 32 := by rw [hl]; simp
  have hb := bigB_length (hs.getD i 0) 4
  unfold ovL
  rw [List.take_left' (by rw [List.length_take]; omega), List.drop_append, List.drop_of_length_le (by rw [List.length_take]; omega), List.nil_append, hb, List.length_take, List.drop_replicate, show 4 * (i + 1) = 4 * i + 4 by omega, List.take_add]
  congr 1
  · congr 1
    refine list_ext_getD (by rw [hb, List.length_take, List.length_drop]; omega) fun j hj => ?_
    rw [hb] at hj
    rw [List.getD_eq_getElem?_getD (l := List.take 4 _), List.getElem?_take, if_pos hj, List.getElem?_drop, ← List.getD_eq_getElem?_getD, hl, range_map_getD _ _ _ _ (by omega), ← shaF_eq, show (4 * i + j) / 4 = i by omega, show (4 * i + j) % 4 = j by omega]
  · congr 1
    omega
theorem sum_ok {m : List Int} (hl : m.length < 2 ^ 38 := by exact pm) (hm : okBytes m := by exact pm) : TSpec Try.prog 186 [(1000000, .c 74 [hrowM m])] [.pt 1000000 0 0] false [(1000000, .c 74 [hrowM (pad m)])] (.ag (encA .u8 (sha m))) := by
  have hkl := kTab_length
  have hhl := msgH_length m
  have hpl := pad_length m
  have hp1 := padN_lt m.length
  have hp2 := padN_spec m.length
  have ho1 := okBytes_one (x := 128) (by omega)
  have ho0 := okBytes_one (x := 0) (by omega)
  have hD := And.intro @hrowM.eq_1 (And.intro (hhl) (And.intro (hkl) (And.intro @encI_one (@padK_zero))))
  have hD := And.intro @hrowM.eq_1 (And.intro (hhl) (And.intro (hkl) (And.intro @encI_one (@padK_zero))))
  refine sT 45 [.cell 2 50] Try.func186 fun w0 S0 ρ0 φ0 => ?_
  repeat' (first | apply W.seq | apply W.skip | refine W.region (id := 0) ?_ | refine W.region (id := 1) ?_ | refine W.region (id := 2) ?_ | refine W.region (id := 4) ?_ | refine W.region (id := 5) ?_ | refine W.region (id := 6) ?_ | refine W.region (id := 7) ?_ | refine W.region (id := 8) ?_ | refine W.region (id := 9) ?_ | refine W.region (id := 11) ?_ | refine W.region (id := 12) ?_ | apply W.block | apply N.code | apply N.blk | apply Sl.nil | apply W.exit | apply W.ret | apply E.hit | apply E.code | apply E.fin | refine zM ?_ | apply O.i | refine sP ?_ | refine sQ fun _ => ?_ | refine sX fun _ => ?_ | (refine k1 false [(1000000, 0, none)] c185 ?_; refine k2 write_ok ?_) | (refine k1 false [] c206 ?_; (first | refine k2 high8_ok ?_ | refine k2 high4_ok ?_)) | (refine rD (id := 10) anyW [6] ?_; refine rP 0 false fun _ => ?_; refine rP 1 false fun _ => ?_; refine rP 2 false fun _ => ?_; refine rP 3 false fun _ => ?_; refine rP 4 false fun _ => ?_; refine rO 5 fun _ _ _ _ _ => ?_; refine k1 false [] c206 ?_; (first | refine k2 high8_ok ?_ | refine k2 high4_ok ?_); refine rO 6 fun _ _ _ _ _ => ?_; (first | refine sY fun _ => ?_ | refine sYA fun _ => ?_); refine rE ?_) | refine zI ?_ ?_ | (intro hb; (try simp [-List.getD_eq_getElem?_getD] at hb); (try (exfalso; omega))))
  refine W.iter (fun k => ⟨45, [(0, .pt 1000000 0 0), (2, .pt 2 0 0), (3, .pl (.int .i64 (8 * m.length)))], [(1000000, .c 74 [hrowM (padK m k)]), (2, .c 32 [encA .u8 (List.replicate 32 0)])], []⟩) (fun k => True) (padN m.length) (Weak.to (by first | rfl | (simp only [virtAt_n]; rfl)) ?s1 ?b1 (by exact dfe)) ?h1 (fun k hk hH => ?body1)
  (try case' s1 => first | exact to1 | (simp +decide only [go_sem]; (try simp (disch := first | exact ds | fail) only [go_sem, Nat.reduceAdd, Nat.reduceMul, Nat.reduceSub, Int.reduceToNat, Int.reduceNeg, Nat.reduceLeDiff, hD]); (try simp only [SV.pl.injEq, SV.sl.injEq, Value.int.injEq, Bk.c.injEq, encI_inj, true_and]); (try omega))); (try case' b1 => first | exact to1 | (simp +decide only [go_sem]; (try simp (disch := first | exact ds | fail) only [go_sem, Nat.reduceAdd, Nat.reduceMul, Nat.reduceSub, Int.reduceToNat, Int.reduceNeg, Nat.reduceLeDiff, hD]); (try simp only [SV.pl.injEq, SV.sl.injEq, Value.int.injEq, Bk.c.injEq, encI_inj, true_and]); (try omega))); (try case' h1 => first | exact to1 | (simp +decide only [go_sem]; (try simp (disch := first | exact ds | fail) only [go_sem, Nat.reduceAdd, Nat.reduceMul, Nat.reduceSub, Int.reduceToNat, Int.reduceNeg, Nat.reduceLeDiff, hD]); (try simp only [SV.pl.injEq, SV.sl.injEq, Value.int.injEq, Bk.c.injEq, encI_inj, true_and]); (try omega)))
  have hhl := msgH_length (padK m k)
  have hrl := msgR_length (padK m k)
  have hkl2 := padK_length m k
  have hpf := padN_first hk
  have hok := okBytes_padK hm k
  have hD := And.intro @hrowM.eq_1 (And.intro (hhl) (And.intro (hkl) ((hrl))))
  (refine gU 1000000 0 72 2000000 ?_)
  repeat' (first | apply W.seq | apply W.skip | refine W.region (id := 0) ?_ | refine W.region (id := 1) ?_ | refine W.region (id := 2) ?_ | refine W.region (id := 3) ?_ | refine W.region (id := 6) ?_ | refine W.region (id := 7) ?_ | refine W.region (id := 8) ?_ | refine W.region (id := 9) ?_ | refine W.region (id := 11) ?_ | refine W.region (id := 12) ?_ | apply W.block | apply N.code | apply N.blk | apply Sl.nil | apply W.exit | apply W.ret | apply E.hit | apply E.code | apply E.fin | refine zM ?_ | apply O.i | refine sP ?_ | refine sQ fun _ => ?_ | refine sX fun _ => ?_ | (refine k1 false [(1000000, 0, none)] c185 ?_; refine k2 write_ok ?_) | (refine k1 false [] c206 ?_; (first | refine k2 high8_ok ?_ | refine k2 high4_ok ?_)) | (refine rD (id := 10) anyW [6] ?_; refine rP 0 false fun _ => ?_; refine rP 1 false fun _ => ?_; refine rP 2 false fun _ => ?_; refine rP 3 false fun _ => ?_; refine rP 4 false fun _ => ?_; refine rO 5 fun _ _ _ _ _ => ?_; refine k1 false [] c206 ?_; (first | refine k2 high8_ok ?_ | refine k2 high4_ok ?_); refine rO 6 fun _ _ _ _ _ => ?_; (first | refine sY fun _ => ?_ | refine sYA fun _ => ?_); refine rE ?_) | refine zI ?_ ?_ | (intro hb; (try simp [-List.getD_eq_getElem?_getD] at hb); (try (exfalso; omega))))
  · (refine gF 1000000 0 72 ?_)
    have hrt : List.take ((padK m k).length % 64) (msgR (padK m k)) = msgR (padK m k) := List.take_of_length_le (by omega)
    have hD := And.intro (hrt) (And.intro @encI_one (And.intro @padK_succ (@hrowM.eq_1)))
    repeat' (first | apply W.seq | apply W.skip | apply W.region | apply W.block | apply N.code | apply N.blk | apply Sl.nil | apply W.exit | apply W.ret | apply E.hit | apply E.code | apply E.fin | refine zM ?_ | apply O.i | refine sP ?_ | refine sQ fun _ => ?_ | refine sX fun _ => ?_ | (refine k1 false [(1000000, 0, none)] c185 ?_; refine k2 write_ok ?_) | (refine k1 false [] c206 ?_; (first | refine k2 high8_ok ?_ | refine k2 high4_ok ?_)) | (refine rD (id := 10) anyW [6] ?_; refine rP 0 false fun _ => ?_; refine rP 1 false fun _ => ?_; refine rP 2 false fun _ => ?_; refine rP 3 false fun _ => ?_; refine rP 4 false fun _ => ?_; refine rO 5 fun _ _ _ _ _ => ?_; refine k1 false [] c206 ?_; (first | refine k2 high8_ok ?_ | refine k2 high4_ok ?_); refine rO 6 fun _ _ _ _ _ => ?_; (first | refine sY fun _ => ?_ | refine sYA fun _ => ?_); refine rE ?_) | refine zI ?_ ?_ | (intro hb; (try simp [-List.getD_eq_getElem?_getD] at hb); (try (exfalso; omega))))
    (refine N.fin ⟨by omega, ?h2, ?w2⟩; case' w2 => (refine Weak.to (by first | rfl | (simp only [virtAt_n]; rfl)) ?s2 ?b2 (by exact dfe)))
    (try case' s2 => first | exact to1 | (simp +decide only [go_sem]; (try simp (disch := first | exact ds | fail) only [go_sem, Nat.reduceAdd, Nat.reduceMul, Nat.reduceSub, Int.reduceToNat, Int.reduceNeg, Nat.reduceLeDiff, hD]); (try simp only [SV.pl.injEq, SV.sl.injEq, Value.int.injEq, Bk.c.injEq, encI_inj, true_and]); (try omega))); (try case' b2 => first | exact to1 | (simp +decide only [go_sem]; (try simp (disch := first | exact ds | fail) only [go_sem, Nat.reduceAdd, Nat.reduceMul, Nat.reduceSub, Int.reduceToNat, Int.reduceNeg, Nat.reduceLeDiff, hD]); (try simp only [SV.pl.injEq, SV.sl.injEq, Value.int.injEq, Bk.c.injEq, encI_inj, true_and]); (try omega))); (try case' h2 => first | exact to1 | (simp +decide only [go_sem]; (try simp (disch := first | exact ds | fail) only [go_sem, Nat.reduceAdd, Nat.reduceMul, Nat.reduceSub, Int.reduceToNat, Int.reduceNeg, Nat.reduceLeDiff, hD]); (try simp only [SV.pl.injEq, SV.sl.injEq, Value.int.injEq, Bk.c.injEq, encI_inj, true_and]); (try omega)))
  · obtain rfl : k = padN m.length := hpf (by omega)
    (refine gF 1000000 0 72 ?_)
    have hpp := padK_pad m
    have hbl := bigB_length (8 * m.length) 8
    have hob := okBytes_big (8 * m.length) 8
    have hhp := msgH_length (pad m)
    have hD := And.intro @bigB_length (And.intro (hpp) (And.intro @hrowM.eq_1 ((hhp))))
    repeat' (first | apply W.seq | apply W.skip | apply W.region | apply W.block | apply N.code | apply N.blk | apply Sl.nil | apply W.exit | apply W.ret | apply E.hit | apply E.code | apply E.fin | refine zM ?_ | apply O.i | refine sP ?_ | refine sQ fun _ => ?_ | refine sX fun _ => ?_ | (refine k1 false [(1000000, 0, none)] c185 ?_; refine k2 write_ok ?_) | (refine k1 false [] c206 ?_; (first | refine k2 high8_ok ?_ | refine k2 high4_ok ?_)) | (refine rD (id := 10) anyW [6] ?_; refine rP 0 false fun _ => ?_; refine rP 1 false fun _ => ?_; refine rP 2 false fun _ => ?_; refine rP 3 false fun _ => ?_; refine rP 4 false fun _ => ?_; refine rO 5 fun _ _ _ _ _ => ?_; refine k1 false [] c206 ?_; (first | refine k2 high8_ok ?_ | refine k2 high4_ok ?_); refine rO 6 fun _ _ _ _ _ => ?_; (first | refine sY fun _ => ?_ | refine sYA fun _ => ?_); refine rE ?_) | refine zI ?_ ?_ | (intro hb; (try simp [-List.getD_eq_getElem?_getD] at hb); (try (exfalso; omega))))
    obtain ⟨hs, hhs⟩ : ∃ hs, hs = msgH (pad m) := ⟨_, rfl⟩
    have hse : sha m = (List.range 32).map (shaF hs) := by rw [sha_eq, hhs, msgH_pad]
    have hsw : WL hs := hhs ▸ msgH_WL (pad m)
    have hsl : hs.length = 8 := hhs ▸ hhp
    have hl32 := sha_length m
    have hD := @hrowM.eq_1
    refine W.iter (fun i => ⟨45, [(2, .pt 2 0 0), (4, .pt 4 0 0), (31, .ag (encA .u32 hs)), (32, .pl (.int .i64 i))], [(1000000, .c 74 [hrowM (pad m)]), (2, .c 32 [encA .u8 (List.replicate 32 0)]), (4, .c 32 [encA .u8 ((sha m).take (4 * i) ++ List.replicate (32 - 4 * i) 0)])], []⟩) (fun i => True) (8) (Weak.to (by first | rfl | (simp only [virtAt_n]; rfl)) ?s3 ?b3 (by exact dfe)) ?h3 (fun i hi Hi => ?body3)
    (try case' s3 => first | exact to1 | (simp +decide only [go_sem]; (try simp (disch := first | exact ds | fail) only [go_sem, Nat.reduceAdd, Nat.reduceMul, Nat.reduceSub, Int.reduceToNat, Int.reduceNeg, Nat.reduceLeDiff, hD]); (try simp only [SV.pl.injEq, SV.sl.injEq, Value.int.injEq, Bk.c.injEq, encI_inj, true_and]); (try omega))); (try case' b3 => first | exact to1 | (simp +decide only [go_sem]; (try simp (disch := first | exact ds | fail) only [go_sem, Nat.reduceAdd, Nat.reduceMul, Nat.reduceSub, Int.reduceToNat, Int.reduceNeg, Nat.reduceLeDiff, hD]); (try simp only [SV.pl.injEq, SV.sl.injEq, Value.int.injEq, Bk.c.injEq, encI_inj, true_and]); (try omega))); (try case' h3 => first | exact to1 | (simp +decide only [go_sem]; (try simp (disch := first | exact ds | fail) only [go_sem, Nat.reduceAdd, Nat.reduceMul, Nat.reduceSub, Int.reduceToNat, Int.reduceNeg, Nat.reduceLeDiff, hD]); (try simp only [SV.pl.injEq, SV.sl.injEq, Value.int.injEq, Bk.c.injEq, encI_inj, true_and]); (try omega)))
    · rw [hhs]
    have q0 : (4 * (i : Int)).toNat = 4 * i := by omega
    have bv := Wf (hsw i)
    have hq : (bigB (hs.getD i 0) 4).length = 4 := bigB_length _ _
    have hl2 : ((sha m).take (4 * i) ++ List.replicate (32 - 4 * i) 0).length = 32 := by simp [hl32]; omega
    have hov := sha_ov hs (sha m) hse i
    have hD := And.intro (hsl) (And.intro (q0) (And.intro (hq) (And.intro (hl2) (And.intro @Nat.min_eq_left (And.intro @hrowM_kill (@eA_putN))))))
    repeat' (first | apply W.seq | apply W.skip | apply W.region | apply W.block | apply N.code | apply N.blk | apply Sl.nil | apply W.exit | apply W.ret | apply E.hit | apply E.code | apply E.fin | refine zM ?_ | apply O.i | refine sP ?_ | refine sQ fun _ => ?_ | refine sX fun _ => ?_ | (refine k1 false [(1000000, 0, none)] c185 ?_; refine k2 write_ok ?_) | (refine k1 false [] c206 ?_; (first | refine k2 high8_ok ?_ | refine k2 high4_ok ?_)) | (refine rD (id := 10) anyW [6] ?_; refine rP 0 false fun _ => ?_; refine rP 1 false fun _ => ?_; refine rP 2 false fun _ => ?_; refine rP 3 false fun _ => ?_; refine rP 4 false fun _ => ?_; refine rO 5 fun _ _ _ _ _ => ?_; refine k1 false [] c206 ?_; (first | refine k2 high8_ok ?_ | refine k2 high4_ok ?_); refine rO 6 fun _ _ _ _ _ => ?_; (first | refine sY fun _ => ?_ | refine sYA fun _ => ?_); refine rE ?_) | refine zI ?_ ?_ | (intro hb; (try simp [-List.getD_eq_getElem?_getD] at hb); (try (exfalso; omega))))
    · (refine N.fin ⟨by omega, ?h4, ?w4⟩; case' w4 => (refine Weak.to (by first | rfl | (simp only [virtAt_n]; rfl)) ?s4 ?b4 (by exact dfe)))
      (try case' s4 => first | exact to1 | (simp +decide only [go_sem]; (try simp (disch := first | exact ds | fail) only [go_sem, Nat.reduceAdd, Nat.reduceMul, Nat.reduceSub, Int.reduceToNat, Int.reduceNeg, Nat.reduceLeDiff, hD]); (try simp only [SV.pl.injEq, SV.sl.injEq, Value.int.injEq, Bk.c.injEq, encI_inj, true_and]); (try omega))); (try case' b4 => first | exact to1 | (simp +decide only [go_sem]; (try simp (disch := first | exact ds | fail) only [go_sem, Nat.reduceAdd, Nat.reduceMul, Nat.reduceSub, Int.reduceToNat, Int.reduceNeg, Nat.reduceLeDiff, hD]); (try simp only [SV.pl.injEq, SV.sl.injEq, Value.int.injEq, Bk.c.injEq, encI_inj, true_and]); (try omega))); (try case' h4 => first | exact to1 | (simp +decide only [go_sem]; (try simp (disch := first | exact ds | fail) only [go_sem, Nat.reduceAdd, Nat.reduceMul, Nat.reduceSub, Int.reduceToNat, Int.reduceNeg, Nat.reduceLeDiff, hD]); (try simp only [SV.pl.injEq, SV.sl.injEq, Value.int.injEq, Bk.c.injEq, encI_inj, true_and]); (try omega)))
      rw [hov (by omega)]
    · obtain rfl : i = 8 := by omega
      rw [show 32 - 4 * 8 = 0 from rfl, List.replicate_zero, List.append_nil, show ovL (List.replicate 32 0) 0 (sha m) = sha m by unfold ovL; rw [List.take_zero, List.nil_append, Nat.zero_add, List.drop_of_length_le (by rw [List.length_replicate]; omega), List.append_nil]]
      have hD := And.intro @encA_length (And.intro (hl32) (And.intro @encA_isPl (And.intro @hrowM.eq_1 (@encA_shut))))
      exact rT
end Go.Proofs.Ytnancifnodbkdaa

