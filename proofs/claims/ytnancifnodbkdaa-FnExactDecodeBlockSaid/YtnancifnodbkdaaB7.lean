import Derived.Test.YtnancifnodbkdaaB6
import Derived.Test.YtnancifnodbkdaaUc
namespace Go.Proofs.Ytnancifnodbkdaa
open Go Go.Vcg Go.IntWalk
set_option maxRecDepth 100000
set_option maxHeartbeats 20000000
set_option linter.unusedSimpArgs false
set_option linter.unusedVariables false

/-! Turning round. -/
def rv (xs : List Int) (k : Nat) : List Int := (List.range xs.length).map fun i => if i < k ∨ xs.length ≤ i + k then xs.getD (xs.length - 1 - i) 0 else xs.getD i 0
theorem rv_length (xs : List Int) (k : Nat) : (rv xs k).length = xs.length := by simp [rv]
theorem rv_getD (xs : List Int) (k i : Nat) (h : i < xs.length) : (rv xs k).getD i 0 = if i < k ∨ xs.length ≤ i + k then xs.getD (xs.length - 1 - i) 0 else xs.getD i 0 := by
  rw [rv, range_map_getD _ _ _ _ h]
theorem list_ext_getD {a b : List Int} (hl : a.length = b.length) (h : ∀ i, i < a.length → a.getD i 0 = b.getD i 0) : a = b := by
  refine List.ext_getElem hl fun i h1 h2 => ?_
  have := h i h1
  rw [List.getD_eq_getElem?_getD, List.getD_eq_getElem?_getD, List.getElem?_eq_getElem h1, List.getElem?_eq_getElem h2] at this
  exact this
theorem getD_set (l : List Int) (i j : Nat) (x : Int) : (l.set i x).getD j 0 = if i = j ∧ j < l.length then x else l.getD j 0 := by
  rw [List.getD_eq_getElem?_getD, List.getElem?_set]
  split
  · rename_i e
    subst e
    split
    · rename_i h; rw [if_pos ⟨rfl, h⟩]; rfl
    · rename_i h; rw [if_neg (fun g => h g.2), List.getD_eq_getElem?_getD, List.getElem?_eq_none (by omega)]
  · rename_i e
    rw [if_neg (fun g => e g.1), List.getD_eq_getElem?_getD]
theorem rv_zero (xs : List Int) : rv xs 0 = xs := list_ext_getD (rv_length _ _) fun i hi => by
  rw [rv_length] at hi
  rw [rv_getD _ _ _ hi, if_neg (by omega)]
theorem rv_step (xs : List Int) (k : Nat) (h : k < xs.length - 1 - k) : ((rv xs k).set k (xs.getD (xs.length - 1 - k) 0)).set (xs.length - 1 - k) (xs.getD k 0) = rv xs (k + 1) := by
  refine list_ext_getD (by simp [rv_length]) fun i hi => ?_
  rw [List.length_set, List.length_set, rv_length] at hi
  rw [getD_set, getD_set, rv_getD _ _ _ hi, rv_getD _ _ _ hi, List.length_set, rv_length]
  by_cases e1 : xs.length - 1 - k = i
  · rw [if_pos ⟨e1, by omega⟩, if_pos (by omega)]
    congr 1
    omega
  · rw [if_neg (by omega)]
    by_cases e2 : k = i
    · rw [if_pos ⟨e2, by omega⟩, if_pos (by omega), e2]
    · rw [if_neg (by omega)]
      by_cases e3 : i < k ∨ xs.length ≤ i + k
      · rw [if_pos e3, if_pos (by omega)]
      · rw [if_neg e3, if_neg (by omega)]
theorem rv_done (xs : List Int) (k : Nat) (h : xs.length ≤ 2 * k + 1) (h2 : 2 * k ≤ xs.length) : rv xs k = xs.reverse := by
  refine list_ext_getD (by simp [rv_length]) fun i hi => ?_
  rw [rv_length] at hi
  rw [rv_getD _ _ _ hi, List.getD_eq_getElem?_getD (l := xs.reverse), List.getElem?_reverse hi, ← List.getD_eq_getElem?_getD]
  split
  · rfl
  · congr 1
    omega
attribute [irreducible] rv
theorem reverse_ok {xs : List Int} (h : xs.length < 2 ^ 40 := by exact pm) : TSpec Try.prog 228 [(1000000, .c 1 (encI .u8 xs))] [.sl 1000000 0 xs.length] false [(1000000, .c 1 (encI .u8 xs.reverse))] (.tu []) := by
  have hD := @rv_zero
  have hD := @rv_zero
  refine sT 28 [] Try.func228 fun w0 S0 ρ0 φ0 => ?_
  repeat' (first | apply W.seq | apply W.skip | apply W.region | apply W.block | apply N.code | apply N.blk | apply Sl.nil | apply W.exit | apply W.ret | apply E.hit | apply E.code | apply E.fin | refine zM ?_ | apply O.i | refine sP ?_ | refine sQ fun _ => ?_ | (refine rD (id := 3) anyW [13, 15] ?_; refine rP 0 false fun _ => ?_; refine rP 1 false fun _ => ?_; refine rP 2 false fun _ => ?_; refine rP 3 false fun _ => ?_; refine rP 4 false fun _ => ?_; refine rP 5 false fun _ => ?_; refine rP 6 false fun _ => ?_; refine rP 7 true fun _ => ?_; refine rP 8 false fun _ => ?_; refine rP 9 false fun _ => ?_; refine rP 10 false fun _ => ?_; refine rP 11 true fun _ => ?_; refine rP 12 false fun _ => ?_; refine rO 13 fun _ _ _ _ _ => ?_; refine sX fun _ => ?_; refine rP 14 false fun _ => ?_; refine rO 15 fun _ _ _ _ _ => ?_; refine sX fun _ => ?_; refine rE ?_) | refine zI ?_ ?_ | (intro hb; (try simp [-List.getD_eq_getElem?_getD] at hb); (try (exfalso; omega))))
  refine W.iter (fun k => ⟨28, [(0, .sl 1000000 0 xs.length), (2, .pl (.int .i64 k)), (3, .pl (.int .i64 ((xs.length : Int) - 1 - k)))], [(1000000, .c 1 (encI .u8 (rv xs k)))], []⟩) (fun k => True) (xs.length / 2) (Weak.to (by first | rfl | (simp only [virtAt_n]; rfl)) ?s1 ?b1 (by exact dfe)) ?h1 (fun k hk hH => ?body1)
  (try case' s1 => first | exact to1 | (simp +decide only [go_sem]; (try simp (disch := first | exact ds | fail) only [go_sem, Nat.reduceAdd, Nat.reduceMul, Nat.reduceSub, Int.reduceToNat, Int.reduceNeg, Nat.reduceLeDiff, hD]); (try simp only [SV.pl.injEq, SV.sl.injEq, Value.int.injEq, Bk.c.injEq, encI_inj, true_and]); (try omega))); (try case' b1 => first | exact to1 | (simp +decide only [go_sem]; (try simp (disch := first | exact ds | fail) only [go_sem, Nat.reduceAdd, Nat.reduceMul, Nat.reduceSub, Int.reduceToNat, Int.reduceNeg, Nat.reduceLeDiff, hD]); (try simp only [SV.pl.injEq, SV.sl.injEq, Value.int.injEq, Bk.c.injEq, encI_inj, true_and]); (try omega))); (try case' h1 => first | exact to1 | (simp +decide only [go_sem]; (try simp (disch := first | exact ds | fail) only [go_sem, Nat.reduceAdd, Nat.reduceMul, Nat.reduceSub, Int.reduceToNat, Int.reduceNeg, Nat.reduceLeDiff, hD]); (try simp only [SV.pl.injEq, SV.sl.injEq, Value.int.injEq, Bk.c.injEq, encI_inj, true_and]); (try omega)))
  have hl := rv_length xs k
  have q1 : ((xs.length : Int) - 1 - k).toNat = xs.length - 1 - k := by omega
  have hD := And.intro (hl) ((q1))
  repeat' (first | apply W.seq | apply W.skip | refine W.region (id := 0) ?_ | refine W.region (id := 1) ?_ | refine W.region (id := 2) ?_ | apply W.block | apply N.code | apply N.blk | apply Sl.nil | apply W.exit | apply W.ret | apply E.hit | apply E.code | apply E.fin | refine zM ?_ | apply O.i | refine sP ?_ | refine sQ fun _ => ?_ | refine zI ?_ ?_ | (intro hb; (try simp [-List.getD_eq_getElem?_getD] at hb); (try (exfalso; omega))))
  · have g1 : (rv xs k).getD k 0 = xs.getD k 0 := by rw [rv_getD _ _ _ (by omega), if_neg (by omega)]
    have g2 : (rv xs k).getD (xs.length - 1 - k) 0 = xs.getD (xs.length - 1 - k) 0 := by rw [rv_getD _ _ _ (by omega), if_neg (by omega)]
    have hD := And.intro (hl) (And.intro (q1) (And.intro (g1) ((g2))))
    repeat' (first | apply W.seq | apply W.skip | apply W.region | apply W.block | apply N.code | apply N.blk | apply Sl.nil | apply W.exit | apply W.ret | apply E.hit | apply E.code | apply E.fin | refine zM ?_ | apply O.i | refine sP ?_ | refine sQ fun _ => ?_ | (refine rD (id := 3) anyW [13, 15] ?_; refine rP 0 false fun _ => ?_; refine rP 1 false fun _ => ?_; refine rP 2 false fun _ => ?_; refine rP 3 false fun _ => ?_; refine rP 4 false fun _ => ?_; refine rP 5 false fun _ => ?_; refine rP 6 false fun _ => ?_; refine rP 7 true fun _ => ?_; refine rP 8 false fun _ => ?_; refine rP 9 false fun _ => ?_; refine rP 10 false fun _ => ?_; refine rP 11 true fun _ => ?_; refine rP 12 false fun _ => ?_; refine rO 13 fun _ _ _ _ _ => ?_; refine sX fun _ => ?_; refine rP 14 false fun _ => ?_; refine rO 15 fun _ _ _ _ _ => ?_; refine sX fun _ => ?_; refine rE ?_) | refine zI ?_ ?_ | (intro hb; (try simp [-List.getD_eq_getElem?_getD] at hb); (try (exfalso; omega))))
    (refine N.fin ⟨by omega, ?h2, ?w2⟩; case' w2 => (refine Weak.to (by first | rfl | (simp only [virtAt_n]; rfl)) ?s2 ?b2 (by exact dfe)))
    (try case' s2 => first | exact to1 | (simp +decide only [go_sem]; (try simp (disch := first | exact ds | fail) only [go_sem, Nat.reduceAdd, Nat.reduceMul, Nat.reduceSub, Int.reduceToNat, Int.reduceNeg, Nat.reduceLeDiff, hD]); (try simp only [SV.pl.injEq, SV.sl.injEq, Value.int.injEq, Bk.c.injEq, encI_inj, true_and]); (try omega))); (try case' b2 => first | exact to1 | (simp +decide only [go_sem]; (try simp (disch := first | exact ds | fail) only [go_sem, Nat.reduceAdd, Nat.reduceMul, Nat.reduceSub, Int.reduceToNat, Int.reduceNeg, Nat.reduceLeDiff, hD]); (try simp only [SV.pl.injEq, SV.sl.injEq, Value.int.injEq, Bk.c.injEq, encI_inj, true_and]); (try omega))); (try case' h2 => first | exact to1 | (simp +decide only [go_sem]; (try simp (disch := first | exact ds | fail) only [go_sem, Nat.reduceAdd, Nat.reduceMul, Nat.reduceSub, Int.reduceToNat, Int.reduceNeg, Nat.reduceLeDiff, hD]); (try simp only [SV.pl.injEq, SV.sl.injEq, Value.int.injEq, Bk.c.injEq, encI_inj, true_and]); (try omega)))
    exact rv_step xs k (by omega)
  · rw [rv_done xs k (by omega) (by omega)]
    exact rN rT
theorem reverseL_ok {xs : List Int} {n : Nat} (h : xs.length < 2 ^ 40 := by exact pm) (hn : n = xs.length := by exact pm) : TSpec Try.prog 228 [(1000000, .c 1 (encI .u8 xs))] [.sl 1000000 0 n] false [(1000000, .c 1 (encI .u8 xs.reverse))] (.tu []) := by
  subst hn
  exact reverse_ok h
theorem bigB_def (v : Int) (n : Nat) : (lowB v n).reverse = bigB v n := by unfold bigB; rfl
theorem high_ok {n : Int} {m : Nat} (h : 0 ≤ n ∧ n < 2 ^ 62 := by exact pm) (hm : m ≤ 8 := by exact pm) : TSpec Try.prog 206 [] [.pl (.int .i64 n), .pl (.int .i64 m)] false [] (.ow 1 (encI .u8 (bigB n m))) := by
  have hD := And.intro @lowB_length (And.intro @bigB_def (@bigB_length))
  refine sT 12 [.tmp 4] Try.func206 fun w0 S0 ρ0 φ0 => ?_
  repeat' (first | apply W.seq | apply W.skip | apply W.region | apply W.block | apply N.code | apply N.blk | apply Sl.nil | apply W.exit | apply W.ret | apply E.hit | apply E.code | apply E.fin | refine zM ?_ | apply O.i | refine sP ?_ | refine sQ fun _ => ?_ | (refine k1 false [] c137 ?_; refine k2 low_ok ?_) | (refine k1 false [(1000000, 0, none)] c228 ?_; refine k2 reverseL_ok ?_) | refine zI ?_ ?_ | (intro hb; (try simp [-List.getD_eq_getElem?_getD] at hb); (try (exfalso; omega))))
  exact rT
theorem high8_ok {n : Int} (h : 0 ≤ n ∧ n < 2 ^ 62 := by exact pm) : TSpec Try.prog 206 [] [.pl (.int .i64 n), .pl (.int .i64 8)] false [] (.ow 1 (encI .u8 (bigB n 8))) := high_ok (m := 8) h (by omega)
theorem high4_ok {n : Int} (h : 0 ≤ n ∧ n < 2 ^ 62 := by exact pm) : TSpec Try.prog 206 [] [.pl (.int .i64 n), .pl (.int .i64 4)] false [] (.ow 1 (encI .u8 (bigB n 4))) := high_ok (m := 4) h (by omega)
theorem kset : (((((((((((((((((((((((((((((((((((((((((((((((((((((((((((((((((List.replicate 64 (0 : Int)).set 0 1116352408).set 1 1899447441).set 2 3049323471).set 3 3921009573).set 4 961987163).set 5 1508970993).set 6 2453635748).set 7 2870763221).set 8 3624381080).set 9 310598401).set 10 607225278).set 11 1426881987).set 12 1925078388).set 13 2162078206).set 14 2614888103).set 15 3248222580).set 16 3835390401).set 17 4022224774).set 18 264347078).set 19 604807628).set 20 770255983).set 21 1249150122).set 22 1555081692).set 23 1996064986).set 24 2554220882).set 25 2821834349).set 26 2952996808).set 27 3210313671).set 28 3336571891).set 29 3584528711).set 30 113926993).set 31 338241895).set 32 666307205).set 33 773529912).set 34 1294757372).set 35 1396182291).set 36 1695183700).set 37 1986661051).set 38 2177026350).set 39 2456956037).set 40 2730485921).set 41 2820302411).set 42 3259730800).set 43 3345764771).set 44 3516065817).set 45 3600352804).set 46 4094571909).set 47 275423344).set 48 430227734).set 49 506948616).set 50 659060556).set 51 883997877).set 52 958139571).set 53 1322822218).set 54 1537002063).set 55 1747873779).set 56 1955562222).set 57 2024104815).set 58 2227730452).set 59 2361852424).set 60 2428436474).set 61 2756734187).set 62 3204031479).set 63 3329325298) = kTab := by unfold kTab; rfl
theorem roundConstants_ok : TSpec Try.prog 204 [] [] false [] (.ag (encA .u32 kTab)) := by
  have hD := And.intro @kset (And.intro @putAt_all (And.intro @kTab_length (@lRep)))
  refine sT 2 [.cell 0 246] Try.func204 fun w0 S0 ρ0 φ0 => ?_
  repeat' (first | apply W.seq | apply W.skip | apply W.region | apply W.block | apply N.code | apply N.blk | apply Sl.nil | apply W.exit | apply W.ret | apply E.hit | apply E.code | apply E.fin | refine zM ?_ | apply O.i | refine sP ?_ | refine sQ fun _ => ?_ | refine sX fun _ => ?_ | refine zI ?_ ?_ | (intro hb; (try simp [-List.getD_eq_getElem?_getD] at hb); (try (exfalso; omega))))
  exact rT
theorem ov2 : ovL (ovL (List.replicate 72 0) 0 h0) 8 kTab = h0 ++ kTab := by
  have hk := kTab_length
  have hh := h0_length
  unfold ovL
  simp [hk, hh, List.take_append, List.drop_append, List.take_of_length_le]
theorem msgH_nil : msgH [] = h0 := by unfold msgH msgQ; exact absSt_zero _ _
theorem msgR_nil : msgR [] = [] := by unfold msgR; exact List.drop_nil
theorem ovl72 : (ovL (List.replicate 72 0) 0 h0).length = 72 := by rw [ovL_length _ _ _ (by rw [h0_length, List.length_replicate]; omega), List.length_replicate]
theorem hk72 : (h0 ++ kTab).length = 72 := by rw [List.length_append, h0_length, kTab_length]
theorem eA_split (r : List SV) : encA .u32 (h0 ++ kTab) ++ r = encA .u32 h0 ++ (encA .u32 kTab ++ r) := by rw [← encA_append, List.append_assoc]
theorem l874 : (8 ≤ 74) = True := by decide
theorem l7274 : (72 ≤ 74) = True := by decide
theorem l872 : (8 ≤ 72) = True := by decide
theorem h0_def : [1779033703, 3144134277, 1013904242, 2773480762, 1359893119, 2600822924, 528734635, 1541459225] = h0 := by unfold h0; rfl
theorem newHasher_ok : TSpec Try.prog 184 [] [] false [] (.bo (hrowM [])) := by
  unfold hrowM
  rw [msgH_nil, msgR_nil]
  have hD := And.intro @encA8 (And.intro @h0_def (And.intro @kTab_length (And.intro @h0_length (And.intro @ovl72 (And.intro @ov2 (And.intro @lRep (And.intro @l874 (@l7274))))))))
  refine sT 5 [.tmp 0] Try.func184 fun w0 S0 ρ0 φ0 => ?_
  repeat' (first | apply W.seq | apply W.skip | apply W.region | apply W.block | apply N.code | apply N.blk | apply Sl.nil | apply W.exit | apply W.ret | apply E.hit | apply E.code | apply E.fin | refine zM ?_ | apply O.i | refine sP ?_ | refine sQ fun _ => ?_ | refine sX fun _ => ?_ | (refine k1 false [] c204 ?_; refine k2 roundConstants_ok ?_) | refine zI ?_ ?_ | (intro hb; (try simp [-List.getD_eq_getElem?_getD] at hb); (try (exfalso; omega))))
  have hk := hk72
  have hD := And.intro @hk72 (And.intro @not_true_eq_false (@false_or))
  (refine hA 4 0 72 2000000 1 ?_; refine hF 4 0 72 ?_)
  have hD := @eA_split
  exact rT
end Go.Proofs.Ytnancifnodbkdaa

