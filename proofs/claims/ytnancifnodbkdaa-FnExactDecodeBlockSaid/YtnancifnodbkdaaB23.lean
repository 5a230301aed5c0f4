import Derived.Test.YtnancifnodbkdaaB22
import Derived.Test.YtnancifnodbkdaaUc
namespace Go.Proofs.Ytnancifnodbkdaa
open Go Go.Vcg Go.IntWalk
set_option maxRecDepth 100000
set_option maxHeartbeats 20000000
set_option linter.unusedSimpArgs false
set_option linter.unusedVariables false
theorem ex_b1 (p : Prop) [Decidable p] : decide p = true ↔ p := by simp
theorem validB1_ok {a : TxA} (hl : totTx a < 2 ^ 40 := by exact pm) : TSpec Try.prog 154 [] [.ag (fTx a)] false [] (.pl (.bool (decide (¬ txOk a)))) := by
  rw [show decide (¬ txOk a) = !decide (txOk a) by simp]
  simp only [fTx]
  have hD := dN0
  refine sT 6 [.tmp 2] Try.func154 fun w0 S0 ρ0 φ0 => ?_
  repeat' (first | apply W.seq | apply W.skip | apply W.region | apply W.block | apply N.code | apply N.blk | apply Sl.nil | apply W.exit | apply W.ret | apply E.hit | apply E.code | apply E.fin | refine zM ?_ | apply O.i | refine sP ?_ | refine sQ fun _ => ?_ | refine sX fun _ => ?_ | (refine k1 false [] c155 ?_; refine k2 (txValid_ok hl (ex_b1 (txOk a))) ?_) | refine zI ?_ ?_ | (intro hb; (try simp [-List.getD_eq_getElem?_getD] at hb); (try (exfalso; omega))))
  exact rT
theorem indexT_ok {xs : List TxA} {r : Int} (hl : totTxS xs < 2 ^ 40 := by exact pm) (hr : badAt (fun i => txOk (xs.getD i default)) xs.length r := by exact pm) : TSpec Try.prog 176 [] [.pd (encL fTx xs), .pl (.func (.func 154) #[] #[])] false [] (.pl (.int .i64 r)) := by
  have hall : ∀ k, k < xs.length → totTx (xs.getD k default) < 2 ^ 40 := fun k hk => by have := sumN_get totTx xs k hk; unfold totTxS at hl; omega
  have hlen : totTxS xs = xs.length + sumN totTx xs := rfl
  have hD := dN0
  refine sT 19 [.tmp 4] Try.func176 fun w0 S0 ρ0 φ0 => ?_
  repeat' (first | apply W.seq | apply W.skip | apply W.region | apply W.block | apply N.code | apply N.blk | apply Sl.nil | apply W.exit | apply W.ret | apply E.hit | apply E.code | apply E.fin | refine zM ?_ | apply O.i | refine sP ?_ | refine sQ fun _ => ?_ | (refine kV false [] c154 ?_; refine k2 (validB1_ok (hall k (by omega))) ?_) | refine zI ?_ ?_ | (intro hb; (try simp [-List.getD_eq_getElem?_getD] at hb); (try (exfalso; omega))))
  refine W.iter (fun k => ⟨19, [(0, .pd (encL fTx xs)), (1, .pl (.func (.func 154) #[] #[])), (7, .pl (.int .i64 xs.length)), (8, .pl (.int .i64 k))], [], []⟩) (fun k => ∀ i, i < k → txOk (xs.getD i default)) (xs.length) (Weak.to (by first | rfl | (simp only [virtAt_n]; rfl)) ?s1 ?b1 (by exact dfe)) ?h1 (fun k hk hH => ?body1)
  (try case' s1 => first | exact to1 | (simp +decide only [go_sem]; (try simp (disch := first | exact ds | fail) only [go_sem, Nat.reduceAdd, Nat.reduceMul, Nat.reduceSub, Int.reduceToNat, Int.reduceNeg, Nat.reduceLeDiff, hD]); (try simp only [SV.pl.injEq, SV.sl.injEq, Value.int.injEq, Bk.c.injEq, encI_inj, true_and]); (try omega))); (try case' b1 => first | exact to1 | (simp +decide only [go_sem]; (try simp (disch := first | exact ds | fail) only [go_sem, Nat.reduceAdd, Nat.reduceMul, Nat.reduceSub, Int.reduceToNat, Int.reduceNeg, Nat.reduceLeDiff, hD]); (try simp only [SV.pl.injEq, SV.sl.injEq, Value.int.injEq, Bk.c.injEq, encI_inj, true_and]); (try omega))); (try case' h1 => first | exact to1 | (simp +decide only [go_sem]; (try simp (disch := first | exact ds | fail) only [go_sem, Nat.reduceAdd, Nat.reduceMul, Nat.reduceSub, Int.reduceToNat, Int.reduceNeg, Nat.reduceLeDiff, hD]); (try simp only [SV.pl.injEq, SV.sl.injEq, Value.int.injEq, Bk.c.injEq, encI_inj, true_and]); (try omega)))
  repeat' (first | apply W.seq | apply W.skip | apply W.region | apply W.block | apply N.code | apply N.blk | apply Sl.nil | apply W.exit | apply W.ret | apply E.hit | apply E.code | apply E.fin | refine zM ?_ | apply O.i | refine sP ?_ | refine sQ fun _ => ?_ | (refine kV false [] c154 ?_; refine k2 (validB1_ok (hall k (by omega))) ?_) | refine zI ?_ ?_ | (intro hb; (try simp [-List.getD_eq_getElem?_getD] at hb); (try (exfalso; omega))))
  · rw [badAt_hit hr (by omega) hH hb]
    exact rT
  · (refine N.fin ⟨by omega, ?h2, ?w2⟩; case' w2 => (refine Weak.to (by first | rfl | (simp only [virtAt_n]; rfl)) ?s2 ?b2 (by exact dfe)))
    (try case' s2 => first | exact to1 | (simp +decide only [go_sem]; (try simp (disch := first | exact ds | fail) only [go_sem, Nat.reduceAdd, Nat.reduceMul, Nat.reduceSub, Int.reduceToNat, Int.reduceNeg, Nat.reduceLeDiff, hD]); (try simp only [SV.pl.injEq, SV.sl.injEq, Value.int.injEq, Bk.c.injEq, encI_inj, true_and]); (try omega))); (try case' b2 => first | exact to1 | (simp +decide only [go_sem]; (try simp (disch := first | exact ds | fail) only [go_sem, Nat.reduceAdd, Nat.reduceMul, Nat.reduceSub, Int.reduceToNat, Int.reduceNeg, Nat.reduceLeDiff, hD]); (try simp only [SV.pl.injEq, SV.sl.injEq, Value.int.injEq, Bk.c.injEq, encI_inj, true_and]); (try omega))); (try case' h2 => first | exact to1 | (simp +decide only [go_sem]; (try simp (disch := first | exact ds | fail) only [go_sem, Nat.reduceAdd, Nat.reduceMul, Nat.reduceSub, Int.reduceToNat, Int.reduceNeg, Nat.reduceLeDiff, hD]); (try simp only [SV.pl.injEq, SV.sl.injEq, Value.int.injEq, Bk.c.injEq, encI_inj, true_and]); (try omega)))
    exact all_step hH hb
  · obtain rfl : k = xs.length := by omega
    rw [badAt_none hr hH]
    exact rT
theorem hasT_ok {xs : List TxA} (hl : totTxS xs < 2 ^ 40 := by exact pm) : TSpec Try.prog 153 [] [.pd (encL fTx xs), .pl (.func (.func 154) #[] #[])] false [] (.pl (.bool (decide (¬ ∀ i, i < xs.length → txOk (xs.getD i default))))) := by
  obtain ⟨r, hr⟩ := badAt_ex (fun i => txOk (xs.getD i default)) xs.length
  rw [show decide (¬ ∀ i, i < xs.length → txOk (xs.getD i default)) = decide (r ≥ 0) from decide_eq_decide.mpr (badAt_iff hr).symm]
  have hD := dN0
  refine sT 9 [.tmp 4] Try.func153 fun w0 S0 ρ0 φ0 => ?_
  repeat' (first | apply W.seq | apply W.skip | apply W.region | apply W.block | apply N.code | apply N.blk | apply Sl.nil | apply W.exit | apply W.ret | apply E.hit | apply E.code | apply E.fin | refine zM ?_ | apply O.i | refine sP ?_ | refine sQ fun _ => ?_ | (refine k1 false [] c176 ?_; refine k2 (indexT_ok hl hr) ?_) | refine zI ?_ ?_ | (intro hb; (try simp [-List.getD_eq_getElem?_getD] at hb); (try (exfalso; omega))))
  exact rT
theorem blkValid_ok {a : BlockA} {b : Bool} (hl : totTxS a.Txs < 2 ^ 40 := by exact pm) (hP : b = true ↔ blkOk a := by exact pm) : TSpec Try.prog 105 [] [.ag (fBlock a)] false [] (.pl (.bool b)) := by
  have hlen : totTxS a.Txs = a.Txs.length + sumN totTx a.Txs := rfl
  simp only [fBlock]
  have hD := dN0
  refine sT 23 [.tmp 2] Try.func105 fun w0 S0 ρ0 φ0 => ?_
  repeat' (first | apply W.seq | apply W.skip | apply W.region | apply W.block | apply N.code | apply N.blk | apply Sl.nil | apply W.exit | apply W.ret | apply E.hit | apply E.code | apply E.fin | refine zM ?_ | apply O.i | refine sP ?_ | refine sQ fun _ => ?_ | refine zg fun _ => ?_ | refine sX fun _ => ?_ | refine sPf ?_ | refine sPt ?_ | (refine k1 false [] c153 ?_; refine k2 (hasT_ok hl) ?_) | (focus (refine zs ?_ ?_; all_goals (intro hg; first | (exfalso; ((try simp [-List.getD_eq_getElem?_getD] at hg) <;> omega)) | ((first | subst hg | rw [hg] | skip); (focus (refine zj ?_ ?_; all_goals (intro hb; first | (exfalso; revert hb; decide) | ((try refine sA 19 ?_); refine k1 false [] c153 ?_; refine k2 (hasT_ok hl) ?_) | refine Sl.weak (Weak.refl _ _) ?_))))))) | refine zI ?_ ?_ | (intro hb; (try simp [-List.getD_eq_getElem?_getD] at hb); (try (exfalso; omega))))
  · have hg2 : (a.Txs.length ≤ 12 ∧ 0 ≤ a.Height) ∧ a.Height ≤ 1000000 := by
      have : ((a.Txs.length : Int) ≤ 12 ∧ 0 ≤ a.Height) ∧ a.Height ≤ 1000000 := by simpa using hg
      omega
    have e : b = (bif true then !decide (¬ ∀ i, i < a.Txs.length → txOk (a.Txs.getD i default)) else false) := by
      by_cases q : ∀ i, i < a.Txs.length → txOk (a.Txs.getD i default)
      · rw [hP.mpr ⟨⟨hg2.1.1, hg2.1.2, hg2.2⟩, q⟩, decide_eq_false (fun e => e q)]
        rfl
      · rw [bf hP fun h => q h.2, decide_eq_true q]
        rfl
    rw [e]
    exact rT
  · rename_i hg1 hb1
    have e : b = false := bf hP fun h => by
      obtain ⟨⟨h1, h2, h3⟩, _⟩ := h
      have h1 : (a.Txs.length : Int) ≤ 12 := by omega
      rw [decide_eq_true h1, decide_eq_true (show a.Height ≥ 0 from h2), decide_eq_true h3] at hg1
      cases hg1
    rw [e]
    exact rT
def encTxs (xs : List TxA) : List Int := xs.flatMap encTx
theorem encTxs_step (xs : List TxA) (k : Nat) (h : k < xs.length) : encTxs (xs.take k) ++ encTx (xs.getD k default) = encTxs (xs.take (k + 1)) := flatM_step encTx default xs k h
theorem encTxs_le (xs : List TxA) (hv : ∀ i, i < xs.length → txOk (xs.getD i default)) : ∀ k, k ≤ xs.length → (encTxs (xs.take k)).length ≤ 300 * k
  | 0, _ => by simp [encTxs]
  | k + 1, hk => by
    have ih := encTxs_le xs hv k (by omega)
    have h1 := txOk_len (hv k (by omega))
    rw [← encTxs_step xs k (by omega), List.length_append]
    omega
def accB (a : BlockA) (xs : List TxA) : List Int := encHead a ++ [(a.Txs.length : Int)] ++ encTxs xs
def encBlock (a : BlockA) : List Int := accB a a.Txs
theorem accB_nil (a : BlockA) : encHead a ++ [(a.Txs.length : Int)] = accB a [] := by simp [accB, encTxs]
theorem accB_step (a : BlockA) (k : Nat) (h : k < a.Txs.length) : accB a (a.Txs.take k) ++ encTx (a.Txs.getD k default) = accB a (a.Txs.take (k + 1)) := by
  unfold accB
  rw [List.append_assoc, encTxs_step a.Txs k h]
theorem accB_le (a : BlockA) (k : Nat) (hk : k ≤ a.Txs.length) (hv : ∀ i, i < k → txOk (a.Txs.getD i default)) : (accB a (a.Txs.take k)).length ≤ 69 + 300 * k := by
  have := encTxs_le (a.Txs.take k) (fun i hi => by
    rw [List.length_take] at hi
    have := hv i (by omega)
    rwa [show (a.Txs.take k).getD i default = a.Txs.getD i default by rw [List.getD_eq_getElem?_getD, List.getElem?_take, if_pos (by omega), ← List.getD_eq_getElem?_getD]]) k (by rw [List.length_take]; omega)
  rw [List.take_take, Nat.min_self] at this
  unfold accB
  rw [List.length_append, List.length_append, encHead_length, List.length_singleton]
  omega
attribute [irreducible] encTxs accB
theorem spEncodeBlock_ok {a : BlockA} {b : Bool} (hl : totTxS a.Txs < 2 ^ 40 := by exact pm) (hP : b = true ↔ blkOk a := by exact pm) : TSpec Try.prog 55 [] [.ag (fBlock a)] false [] (.tu [.ow 1 (encI .u8 (if b then encBlock a else [])), .pl (.bool b)]) := by
  have hall : ∀ k, k < a.Txs.length → totTx (a.Txs.getD k default) < 2 ^ 40 := fun k hk => by have := sumN_get totTx a.Txs k hk; unfold totTxS at hl; omega
  have hlen : totTxS a.Txs = a.Txs.length + sumN totTx a.Txs := rfl
  simp only [fBlock]
  by_cases h1 : a.Txs.length ≤ 12 ∧ hdOk a
  · have h1 := h1
    unfold hdOk at h1
    have hhd := l5Head_ok (a := a) ⟨by omega, by omega⟩
    simp only [fBlock] at hhd
    have bo := byte_of (x := a.Txs.length) (by omega)
    have hD := And.intro @encI_append (And.intro @encI_one (And.intro @encI_nil (And.intro @encHead_length ((bo)))))
    have hD := And.intro @encI_append (And.intro @encI_one (And.intro @encI_nil (And.intro @encHead_length ((bo)))))
    refine sT 54 [.tmp 2, .tmp 3] Try.func55 fun w0 S0 ρ0 φ0 => ?_
    repeat' (first | apply W.seq | apply W.skip | apply W.region | apply W.block | apply N.code | apply N.blk | apply Sl.nil | apply W.exit | apply W.ret | apply E.hit | apply E.code | apply E.fin | refine zM ?_ | apply O.i | refine sP ?_ | refine sQ fun _ => ?_ | refine zg fun _ => ?_ | refine sX fun _ => ?_ | refine sPf ?_ | refine sPt ?_ | (refine rD (id := 3) (fun b => b != 1) [7] ?_; refine rP 0 true fun _ => ?_; refine rP 2 false fun _ => ?_; refine rP 3 true fun _ => ?_; refine rP 4 false fun _ => ?_; refine rP 5 false fun _ => ?_; (focus (refine rA [1, 6] (xO (fun _ _ _ _ _ => ?_) (xO (fun _ _ _ _ _ => ?_) RX.nil)); (focus (refine k1 false [] c122 ?_; refine k2 hhd ?_; refine rO 6 fun _ _ _ _ _ => ?_; refine sX fun _ => ?_; refine rO 7 fun _ _ _ _ _ => ?_; refine sX fun _ => ?_; refine rP 8 false fun _ => ?_; refine rE ?_)); rotate_left; (focus (refine sX fun _ => ?_; refine rO 1 fun _ _ _ _ _ => ?_; refine k1 false [] c122 ?_; refine k2 hhd ?_; refine rO 7 fun _ _ _ _ _ => ?_; refine sX fun _ => ?_; refine rP 8 false fun _ => ?_; refine rE ?_)); rotate_left))) | (refine k1 false [] c123 ?_; refine k2 hsp ?_) | refine zI ?_ ?_ | (intro hb; (try simp [-List.getD_eq_getElem?_getD] at hb); (try (exfalso; omega))))
    · (refine gR 30 2000000 ?_)
      refine W.iter (fun k => ⟨54, [(1, .pt 1 0 0), (4, .sl 2000000 0 (accB a (a.Txs.take k)).length), (5, .pl (.int .i64 k))], [(1, .c 66 [encA .u8 a.Prev.l ++ (encA .u8 a.Root.l ++ [.pl (.int .i64 a.Height), .pd (encL fTx a.Txs)])]), (2000000, .c 1 (encI .u8 (accB a (a.Txs.take k))))], []⟩) (fun k => ∀ i, i < k → txOk (a.Txs.getD i default)) (a.Txs.length) (Weak.to (by first | rfl | (simp only [virtAt_n]; rfl)) ?s3 ?b3 (by exact dfe)) ?h3 (fun k hk hH => ?body3)
      (try case' s3 => first | exact to1 | (simp +decide only [go_sem]; (try simp (disch := first | exact ds | fail) only [go_sem, Nat.reduceAdd, Nat.reduceMul, Nat.reduceSub, Int.reduceToNat, Int.reduceNeg, Nat.reduceLeDiff, hD]); (try simp only [SV.pl.injEq, SV.sl.injEq, Value.int.injEq, Bk.c.injEq, encI_inj, true_and]); (try omega))); (try case' b3 => first | exact to1 | (simp +decide only [go_sem]; (try simp (disch := first | exact ds | fail) only [go_sem, Nat.reduceAdd, Nat.reduceMul, Nat.reduceSub, Int.reduceToNat, Int.reduceNeg, Nat.reduceLeDiff, hD]); (try simp only [SV.pl.injEq, SV.sl.injEq, Value.int.injEq, Bk.c.injEq, encI_inj, true_and]); (try omega))); (try case' h3 => first | exact to1 | (simp +decide only [go_sem]; (try simp (disch := first | exact ds | fail) only [go_sem, Nat.reduceAdd, Nat.reduceMul, Nat.reduceSub, Int.reduceToNat, Int.reduceNeg, Nat.reduceLeDiff, hD]); (try simp only [SV.pl.injEq, SV.sl.injEq, Value.int.injEq, Bk.c.injEq, encI_inj, true_and]); (try omega)))
      · exact accB_nil a
      · rw [← accB_nil, List.length_append, encHead_length]
        rfl
      have hle := accB_le a k hk hH
      have hD := And.intro @encI_append (And.intro @encI_one (And.intro @encI_nil ((bo))))
      repeat' (first | apply W.seq | apply W.skip | refine W.region (id := 0) ?_ | refine W.region (id := 1) ?_ | refine W.region (id := 2) ?_ | refine W.region (id := 4) ?_ | refine W.region (id := 5) ?_ | refine W.region (id := 8) ?_ | refine W.region (id := 9) ?_ | refine W.region (id := 10) ?_ | refine W.region (id := 6) ?_ | refine W.region (id := 11) ?_ | apply W.block | apply N.code | apply N.blk | apply Sl.nil | apply W.exit | apply W.ret | apply E.hit | apply E.code | apply E.fin | refine zM ?_ | apply O.i | refine sP ?_ | refine sQ fun _ => ?_ | refine zg fun _ => ?_ | refine sX fun _ => ?_ | refine sPf ?_ | refine sPt ?_ | (refine rD (id := 3) (fun b => b != 1) [7] ?_; refine rP 0 true fun _ => ?_; refine rP 2 false fun _ => ?_; refine rP 3 true fun _ => ?_; refine rP 4 false fun _ => ?_; refine rP 5 false fun _ => ?_; (focus (refine rA [1, 6] (xO (fun _ _ _ _ _ => ?_) (xO (fun _ _ _ _ _ => ?_) RX.nil)); (focus (refine k1 false [] c122 ?_; refine k2 hhd ?_; refine rO 6 fun _ _ _ _ _ => ?_; refine sX fun _ => ?_; refine rO 7 fun _ _ _ _ _ => ?_; refine sX fun _ => ?_; refine rP 8 false fun _ => ?_; refine rE ?_)); rotate_left; (focus (refine sX fun _ => ?_; refine rO 1 fun _ _ _ _ _ => ?_; refine k1 false [] c122 ?_; refine k2 hhd ?_; refine rO 7 fun _ _ _ _ _ => ?_; refine sX fun _ => ?_; refine rP 8 false fun _ => ?_; refine rE ?_)); rotate_left))) | (refine k1 false [] c123 ?_; refine k2 hsp ?_) | refine zI ?_ ?_ | (intro hb; (try simp [-List.getD_eq_getElem?_getD] at hb); (try (exfalso; omega))))
      · obtain ⟨t, ht⟩ := ex_b (txOk (a.Txs.getD k default))
        have hsp := spEncodeTx_ok (hall k hb) ht
        have hyl := encTxb_len ht
        simp only [fTx] at hsp
        cases t with
        | false =>
          rw [if_neg (by simp)] at hsp
          rw [bf hP (fun h => (nomatch ht.mpr (h.2 k hb))), if_neg (by simp)]
          repeat' (first | apply W.seq | apply W.skip | apply W.region | apply W.block | apply N.code | apply N.blk | apply Sl.nil | apply W.exit | apply W.ret | apply E.hit | apply E.code | apply E.fin | refine zM ?_ | apply O.i | refine sP ?_ | refine sQ fun _ => ?_ | refine zg fun _ => ?_ | refine sX fun _ => ?_ | refine sPf ?_ | refine sPt ?_ | (refine rD (id := 3) (fun b => b != 1) [7] ?_; refine rP 0 true fun _ => ?_; refine rP 2 false fun _ => ?_; refine rP 3 true fun _ => ?_; refine rP 4 false fun _ => ?_; refine rP 5 false fun _ => ?_; (focus (refine rA [1, 6] (xO (fun _ _ _ _ _ => ?_) (xO (fun _ _ _ _ _ => ?_) RX.nil)); (focus (refine k1 false [] c122 ?_; refine k2 hhd ?_; refine rO 6 fun _ _ _ _ _ => ?_; refine sX fun _ => ?_; refine rO 7 fun _ _ _ _ _ => ?_; refine sX fun _ => ?_; refine rP 8 false fun _ => ?_; refine rE ?_)); rotate_left; (focus (refine sX fun _ => ?_; refine rO 1 fun _ _ _ _ _ => ?_; refine k1 false [] c122 ?_; refine k2 hhd ?_; refine rO 7 fun _ _ _ _ _ => ?_; refine sX fun _ => ?_; refine rP 8 false fun _ => ?_; refine rE ?_)); rotate_left))) | (refine k1 false [] c123 ?_; refine k2 hsp ?_) | refine zI ?_ ?_ | (intro hb; (try simp [-List.getD_eq_getElem?_getD] at hb); (try (exfalso; omega))))
          exact rT
        | true =>
          rw [if_pos rfl] at hsp hyl
          have hst := accB_step a k hb
          have hsl := congrArg List.length hst
          rw [List.length_append] at hsl
          have hD := And.intro @encI_append (And.intro @encI_one (And.intro @encI_nil (And.intro (bo) ((hst)))))
          repeat' (first | apply W.seq | apply W.skip | apply W.region | apply W.block | apply N.code | apply N.blk | apply Sl.nil | apply W.exit | apply W.ret | apply E.hit | apply E.code | apply E.fin | refine zM ?_ | apply O.i | refine sP ?_ | refine sQ fun _ => ?_ | refine zg fun _ => ?_ | refine sX fun _ => ?_ | refine sPf ?_ | refine sPt ?_ | (refine rD (id := 3) (fun b => b != 1) [7] ?_; refine rP 0 true fun _ => ?_; refine rP 2 false fun _ => ?_; refine rP 3 true fun _ => ?_; refine rP 4 false fun _ => ?_; refine rP 5 false fun _ => ?_; (focus (refine rA [1, 6] (xO (fun _ _ _ _ _ => ?_) (xO (fun _ _ _ _ _ => ?_) RX.nil)); (focus (refine k1 false [] c122 ?_; refine k2 hhd ?_; refine rO 6 fun _ _ _ _ _ => ?_; refine sX fun _ => ?_; refine rO 7 fun _ _ _ _ _ => ?_; refine sX fun _ => ?_; refine rP 8 false fun _ => ?_; refine rE ?_)); rotate_left; (focus (refine sX fun _ => ?_; refine rO 1 fun _ _ _ _ _ => ?_; refine k1 false [] c122 ?_; refine k2 hhd ?_; refine rO 7 fun _ _ _ _ _ => ?_; refine sX fun _ => ?_; refine rP 8 false fun _ => ?_; refine rE ?_)); rotate_left))) | (refine k1 false [] c123 ?_; refine k2 hsp ?_) | refine zI ?_ ?_ | (intro hb; (try simp [-List.getD_eq_getElem?_getD] at hb); (try (exfalso; omega))))
          (refine N.fin ⟨by omega, ?h4, ?w4⟩; case' w4 => (refine eR 52 2000000 ?_; refine Weak.to (by first | rfl | (simp only [virtAt_n]; rfl)) ?s4 ?b4 (by exact dfe)))
          (try case' s4 => first | exact to1 | (simp +decide only [go_sem]; (try simp (disch := first | exact ds | fail) only [go_sem, Nat.reduceAdd, Nat.reduceMul, Nat.reduceSub, Int.reduceToNat, Int.reduceNeg, Nat.reduceLeDiff, hD]); (try simp only [SV.pl.injEq, SV.sl.injEq, Value.int.injEq, Bk.c.injEq, encI_inj, true_and]); (try omega))); (try case' b4 => first | exact to1 | (simp +decide only [go_sem]; (try simp (disch := first | exact ds | fail) only [go_sem, Nat.reduceAdd, Nat.reduceMul, Nat.reduceSub, Int.reduceToNat, Int.reduceNeg, Nat.reduceLeDiff, hD]); (try simp only [SV.pl.injEq, SV.sl.injEq, Value.int.injEq, Bk.c.injEq, encI_inj, true_and]); (try omega))); (try case' h4 => first | exact to1 | (simp +decide only [go_sem]; (try simp (disch := first | exact ds | fail) only [go_sem, Nat.reduceAdd, Nat.reduceMul, Nat.reduceSub, Int.reduceToNat, Int.reduceNeg, Nat.reduceLeDiff, hD]); (try simp only [SV.pl.injEq, SV.sl.injEq, Value.int.injEq, Bk.c.injEq, encI_inj, true_and]); (try omega)))
          exact all_step hH (ht.mp rfl)
      obtain rfl : k = a.Txs.length := by omega
      have hta : a.Txs.take a.Txs.length = a.Txs := List.take_length
      rw [hP.mpr ⟨⟨h1.1, h1.2⟩, hH⟩, if_pos rfl, show encBlock a = accB a a.Txs from rfl]
      have hD := (hta)
      exact rT
    · (refine gR 30 2000000 ?_)
      refine W.iter (fun k => ⟨54, [(1, .pt 1 0 0), (4, .sl 2000000 0 (accB a (a.Txs.take k)).length), (5, .pl (.int .i64 k))], [(1, .c 66 [encA .u8 a.Prev.l ++ (encA .u8 a.Root.l ++ [.pl (.int .i64 a.Height), .pd (encL fTx a.Txs)])]), (2000000, .c 1 (encI .u8 (accB a (a.Txs.take k))))], []⟩) (fun k => ∀ i, i < k → txOk (a.Txs.getD i default)) (a.Txs.length) (Weak.to (by first | rfl | (simp only [virtAt_n]; rfl)) ?s5 ?b5 (by exact dfe)) ?h5 (fun k hk hH => ?body5)
      (try case' s5 => first | exact to1 | (simp +decide only [go_sem]; (try simp (disch := first | exact ds | fail) only [go_sem, Nat.reduceAdd, Nat.reduceMul, Nat.reduceSub, Int.reduceToNat, Int.reduceNeg, Nat.reduceLeDiff, hD]); (try simp only [SV.pl.injEq, SV.sl.injEq, Value.int.injEq, Bk.c.injEq, encI_inj, true_and]); (try omega))); (try case' b5 => first | exact to1 | (simp +decide only [go_sem]; (try simp (disch := first | exact ds | fail) only [go_sem, Nat.reduceAdd, Nat.reduceMul, Nat.reduceSub, Int.reduceToNat, Int.reduceNeg, Nat.reduceLeDiff, hD]); (try simp only [SV.pl.injEq, SV.sl.injEq, Value.int.injEq, Bk.c.injEq, encI_inj, true_and]); (try omega))); (try case' h5 => first | exact to1 | (simp +decide only [go_sem]; (try simp (disch := first | exact ds | fail) only [go_sem, Nat.reduceAdd, Nat.reduceMul, Nat.reduceSub, Int.reduceToNat, Int.reduceNeg, Nat.reduceLeDiff, hD]); (try simp only [SV.pl.injEq, SV.sl.injEq, Value.int.injEq, Bk.c.injEq, encI_inj, true_and]); (try omega)))
      · exact accB_nil a
      · rw [← accB_nil, List.length_append, encHead_length]
        rfl
      have hle := accB_le a k hk hH
      have hD := And.intro @encI_append (And.intro @encI_one (And.intro @encI_nil ((bo))))
      repeat' (first | apply W.seq | apply W.skip | refine W.region (id := 0) ?_ | refine W.region (id := 1) ?_ | refine W.region (id := 2) ?_ | refine W.region (id := 4) ?_ | refine W.region (id := 5) ?_ | refine W.region (id := 8) ?_ | refine W.region (id := 9) ?_ | refine W.region (id := 10) ?_ | refine W.region (id := 6) ?_ | refine W.region (id := 11) ?_ | apply W.block | apply N.code | apply N.blk | apply Sl.nil | apply W.exit | apply W.ret | apply E.hit | apply E.code | apply E.fin | refine zM ?_ | apply O.i | refine sP ?_ | refine sQ fun _ => ?_ | refine zg fun _ => ?_ | refine sX fun _ => ?_ | refine sPf ?_ | refine sPt ?_ | (refine rD (id := 3) (fun b => b != 1) [7] ?_; refine rP 0 true fun _ => ?_; refine rP 2 false fun _ => ?_; refine rP 3 true fun _ => ?_; refine rP 4 false fun _ => ?_; refine rP 5 false fun _ => ?_; (focus (refine rA [1, 6] (xO (fun _ _ _ _ _ => ?_) (xO (fun _ _ _ _ _ => ?_) RX.nil)); (focus (refine k1 false [] c122 ?_; refine k2 hhd ?_; refine rO 6 fun _ _ _ _ _ => ?_; refine sX fun _ => ?_; refine rO 7 fun _ _ _ _ _ => ?_; refine sX fun _ => ?_; refine rP 8 false fun _ => ?_; refine rE ?_)); rotate_left; (focus (refine sX fun _ => ?_; refine rO 1 fun _ _ _ _ _ => ?_; refine k1 false [] c122 ?_; refine k2 hhd ?_; refine rO 7 fun _ _ _ _ _ => ?_; refine sX fun _ => ?_; refine rP 8 false fun _ => ?_; refine rE ?_)); rotate_left))) | (refine k1 false [] c123 ?_; refine k2 hsp ?_) | refine zI ?_ ?_ | (intro hb; (try simp [-List.getD_eq_getElem?_getD] at hb); (try (exfalso; omega))))
      · obtain ⟨t, ht⟩ := ex_b (txOk (a.Txs.getD k default))
        have hsp := spEncodeTx_ok (hall k hb) ht
        have hyl := encTxb_len ht
        simp only [fTx] at hsp
        cases t with
        | false =>
          rw [if_neg (by simp)] at hsp
          rw [bf hP (fun h => (nomatch ht.mpr (h.2 k hb))), if_neg (by simp)]
          repeat' (first | apply W.seq | apply W.skip | apply W.region | apply W.block | apply N.code | apply N.blk | apply Sl.nil | apply W.exit | apply W.ret | apply E.hit | apply E.code | apply E.fin | refine zM ?_ | apply O.i | refine sP ?_ | refine sQ fun _ => ?_ | refine zg fun _ => ?_ | refine sX fun _ => ?_ | refine sPf ?_ | refine sPt ?_ | (refine rD (id := 3) (fun b => b != 1) [7] ?_; refine rP 0 true fun _ => ?_; refine rP 2 false fun _ => ?_; refine rP 3 true fun _ => ?_; refine rP 4 false fun _ => ?_; refine rP 5 false fun _ => ?_; (focus (refine rA [1, 6] (xO (fun _ _ _ _ _ => ?_) (xO (fun _ _ _ _ _ => ?_) RX.nil)); (focus (refine k1 false [] c122 ?_; refine k2 hhd ?_; refine rO 6 fun _ _ _ _ _ => ?_; refine sX fun _ => ?_; refine rO 7 fun _ _ _ _ _ => ?_; refine sX fun _ => ?_; refine rP 8 false fun _ => ?_; refine rE ?_)); rotate_left; (focus (refine sX fun _ => ?_; refine rO 1 fun _ _ _ _ _ => ?_; refine k1 false [] c122 ?_; refine k2 hhd ?_; refine rO 7 fun _ _ _ _ _ => ?_; refine sX fun _ => ?_; refine rP 8 false fun _ => ?_; refine rE ?_)); rotate_left))) | (refine k1 false [] c123 ?_; refine k2 hsp ?_) | refine zI ?_ ?_ | (intro hb; (try simp [-List.getD_eq_getElem?_getD] at hb); (try (exfalso; omega))))
          exact rT
        | true =>
          rw [if_pos rfl] at hsp hyl
          have hst := accB_step a k hb
          have hsl := congrArg List.length hst
          rw [List.length_append] at hsl
          have hD := And.intro @encI_append (And.intro @encI_one (And.intro @encI_nil (And.intro (bo) ((hst)))))
          repeat' (first | apply W.seq | apply W.skip | apply W.region | apply W.block | apply N.code | apply N.blk | apply Sl.nil | apply W.exit | apply W.ret | apply E.hit | apply E.code | apply E.fin | refine zM ?_ | apply O.i | refine sP ?_ | refine sQ fun _ => ?_ | refine zg fun _ => ?_ | refine sX fun _ => ?_ | refine sPf ?_ | refine sPt ?_ | (refine rD (id := 3) (fun b => b != 1) [7] ?_; refine rP 0 true fun _ => ?_; refine rP 2 false fun _ => ?_; refine rP 3 true fun _ => ?_; refine rP 4 false fun _ => ?_; refine rP 5 false fun _ => ?_; (focus (refine rA [1, 6] (xO (fun _ _ _ _ _ => ?_) (xO (fun _ _ _ _ _ => ?_) RX.nil)); (focus (refine k1 false [] c122 ?_; refine k2 hhd ?_; refine rO 6 fun _ _ _ _ _ => ?_; refine sX fun _ => ?_; refine rO 7 fun _ _ _ _ _ => ?_; refine sX fun _ => ?_; refine rP 8 false fun _ => ?_; refine rE ?_)); rotate_left; (focus (refine sX fun _ => ?_; refine rO 1 fun _ _ _ _ _ => ?_; refine k1 false [] c122 ?_; refine k2 hhd ?_; refine rO 7 fun _ _ _ _ _ => ?_; refine sX fun _ => ?_; refine rP 8 false fun _ => ?_; refine rE ?_)); rotate_left))) | (refine k1 false [] c123 ?_; refine k2 hsp ?_) | refine zI ?_ ?_ | (intro hb; (try simp [-List.getD_eq_getElem?_getD] at hb); (try (exfalso; omega))))
          (refine N.fin ⟨by omega, ?h6, ?w6⟩; case' w6 => (refine eR 52 2000000 ?_; refine Weak.to (by first | rfl | (simp only [virtAt_n]; rfl)) ?s6 ?b6 (by exact dfe)))
          (try case' s6 => first | exact to1 | (simp +decide only [go_sem]; (try simp (disch := first | exact ds | fail) only [go_sem, Nat.reduceAdd, Nat.reduceMul, Nat.reduceSub, Int.reduceToNat, Int.reduceNeg, Nat.reduceLeDiff, hD]); (try simp only [SV.pl.injEq, SV.sl.injEq, Value.int.injEq, Bk.c.injEq, encI_inj, true_and]); (try omega))); (try case' b6 => first | exact to1 | (simp +decide only [go_sem]; (try simp (disch := first | exact ds | fail) only [go_sem, Nat.reduceAdd, Nat.reduceMul, Nat.reduceSub, Int.reduceToNat, Int.reduceNeg, Nat.reduceLeDiff, hD]); (try simp only [SV.pl.injEq, SV.sl.injEq, Value.int.injEq, Bk.c.injEq, encI_inj, true_and]); (try omega))); (try case' h6 => first | exact to1 | (simp +decide only [go_sem]; (try simp (disch := first | exact ds | fail) only [go_sem, Nat.reduceAdd, Nat.reduceMul, Nat.reduceSub, Int.reduceToNat, Int.reduceNeg, Nat.reduceLeDiff, hD]); (try simp only [SV.pl.injEq, SV.sl.injEq, Value.int.injEq, Bk.c.injEq, encI_inj, true_and]); (try omega)))
          exact all_step hH (ht.mp rfl)
      obtain rfl : k = a.Txs.length := by omega
      have hta : a.Txs.take a.Txs.length = a.Txs := List.take_length
      rw [hP.mpr ⟨⟨h1.1, h1.2⟩, hH⟩, if_pos rfl, show encBlock a = accB a a.Txs from rfl]
      have hD := (hta)
      exact rT
  · have hb0 : b = false := bf hP fun h => h1 h.1
    rw [hb0, if_neg (by simp)]
    unfold hdOk at h1
    have hD := @encI_nil
    have hD := @encI_nil
    refine sT 54 [.tmp 2, .tmp 3] Try.func55 fun w0 S0 ρ0 φ0 => ?_
    repeat' (first | apply W.seq | apply W.skip | apply W.region | apply W.block | apply N.code | apply N.blk | apply Sl.nil | apply W.exit | apply W.ret | apply E.hit | apply E.code | apply E.fin | refine zM ?_ | apply O.i | refine sP ?_ | refine sQ fun _ => ?_ | refine zg fun _ => ?_ | refine sX fun _ => ?_ | refine sPf ?_ | refine sPt ?_ | (refine rD (id := 3) anyW [7] ?_; refine rP 0 true fun _ => ?_; refine rP 2 false fun _ => ?_; refine rP 3 true fun _ => ?_; refine rP 4 false fun _ => ?_; refine rP 5 false fun _ => ?_; (focus (refine rA [1, 6] (xO (fun _ _ _ _ _ => ?_) (xO (fun _ _ _ _ _ => ?_) RX.nil)); (focus (refine k1 false [] c122 ?_; refine k2 hhd ?_; refine rO 6 fun _ _ _ _ _ => ?_; refine sX fun _ => ?_; refine rO 7 fun _ _ _ _ _ => ?_; refine sX fun _ => ?_; refine rP 8 false fun _ => ?_; refine rE ?_)); rotate_left; (focus (refine sX fun _ => ?_; refine rO 1 fun _ _ _ _ _ => ?_; refine k1 false [] c122 ?_; refine k2 hhd ?_; refine rO 7 fun _ _ _ _ _ => ?_; refine sX fun _ => ?_; refine rP 8 false fun _ => ?_; refine rE ?_)); rotate_left))) | (refine k1 false [] c123 ?_; refine k2 hsp ?_) | refine zI ?_ ?_ | (intro hb; (try simp [-List.getD_eq_getElem?_getD] at hb); (try (exfalso; omega))))
    all_goals exact rT
end Go.Proofs.Ytnancifnodbkdaa

