import Derived.Test.YtnancifnodbkdaaB13
namespace Go.Proofs.Ytnancifnodbkdaa
open Go Go.Vcg Go.IntWalk
set_option maxRecDepth 100000
set_option maxHeartbeats 20000000
set_option linter.unusedSimpArgs false
set_option linter.unusedVariables false

theorem c165 : CallOk Try.prog 165 := ⟨_, Try.func165, rfl, by kernel_rfl⟩
theorem c164 : CallOk Try.prog 164 := ⟨_, Try.func164, rfl, by kernel_rfl⟩
theorem c123 : CallOk Try.prog 123 := ⟨_, Try.func123, rfl, by kernel_rfl⟩
theorem c198 : CallOk Try.prog 198 := ⟨_, Try.func198, rfl, by kernel_rfl⟩
theorem c177 : CallOk Try.prog 177 := ⟨_, Try.func177, rfl, by kernel_rfl⟩
theorem c178 : CallOk Try.prog 178 := ⟨_, Try.func178, rfl, by kernel_rfl⟩
theorem c155 : CallOk Try.prog 155 := ⟨_, Try.func155, rfl, by kernel_rfl⟩
theorem c167 : CallOk Try.prog 167 := ⟨_, Try.func167, rfl, by kernel_rfl⟩
def inOk (p : PointA) : Prop := 0 ≤ p.N ∧ p.N < 6
def outOk (v : Int) : Prop := 1 ≤ v ∧ v ≤ 1000000000000
def txOk (a : TxA) : Prop := (a.Ins.length ≤ 6 ∧ 1 ≤ a.Outs.length ∧ a.Outs.length ≤ 6 ∧ 0 ≤ a.Height ∧ a.Height ≤ 1000000) ∧ (∀ i, i < a.Ins.length → inOk (a.Ins.getD i default)) ∧ (∀ i, i < a.Outs.length → outOk (a.Outs.getD i 0))
theorem bf {b : Bool} {p : Prop} (hP : b = true ↔ p) (h : ¬ p) : b = false := by
  cases b
  · rfl
  · exact absurd (hP.mp rfl) h
theorem take_snoc {α : Type} (d : α) (l : List α) (k : Nat) (h : k < l.length) : l.take k ++ [l.getD k d] = l.take (k + 1) := by
  rw [List.take_succ_eq_append_getElem h, List.getD_eq_getElem?_getD, List.getElem?_eq_getElem h, Option.getD_some]
theorem all_step {p : Nat → Prop} {k : Nat} (h : ∀ i, i < k → p i) (hk : p k) : ∀ i, i < k + 1 → p i := fun i hi => by
  by_cases e : i = k
  · rw [e]; exact hk
  · exact h i (by omega)
theorem l5TxOk_ok {a : TxA} {b : Bool} (hl : totTx a < 2 ^ 40 := by exact pm) (hP : b = true ↔ txOk a := by exact pm) : TSpec Try.prog 165 [] [.ag (fTx a)] false [] (.pl (.bool b)) := by
  unfold totTx at hl
  simp only [fTx]
  have hD := dN0
  refine sT 75 [.tmp 2] Try.func165 fun w0 S0 ρ0 φ0 => ?_
  repeat' (first | apply W.seq | apply W.skip | apply W.region | apply W.block | apply N.code | apply N.blk | apply Sl.nil | apply W.exit | apply W.ret | apply E.hit | apply E.code | apply E.fin | refine zM ?_ | apply O.i | refine sP ?_ | refine sQ fun _ => ?_ | refine zg fun _ => ?_ | refine sX fun _ => ?_ | refine zI ?_ ?_ | (intro hb; (try simp [-List.getD_eq_getElem?_getD] at hb); (try (exfalso; omega))))
  · rw [bf hP (fun h => by have := h.1; omega)]
    exact rT
  refine W.iter (fun k => ⟨75, [(1, .pt 1 0 0), (3, .pl (.int .i64 k))], [(1, .c 3 [[.pd (encL fPoint a.Ins), .pd (encI .i64 a.Outs), .pl (.int .i64 a.Height)]])], []⟩) (fun k => ∀ i, i < k → inOk (a.Ins.getD i default)) (a.Ins.length) (Weak.to (by first | rfl | (simp only [virtAt_n]; rfl)) ?s1 ?b1 (by exact dfe)) ?h1 (fun k hk hH => ?body1)
  (try case' s1 => first | exact to1 | (simp +decide only [go_sem]; (try simp (disch := first | exact ds | fail) only [go_sem, Nat.reduceAdd, Nat.reduceMul, Nat.reduceSub, Int.reduceToNat, Int.reduceNeg, Nat.reduceLeDiff, hD]); (try simp only [SV.pl.injEq, SV.sl.injEq, Value.int.injEq, Bk.c.injEq, encI_inj, true_and]); (try omega))); (try case' b1 => first | exact to1 | (simp +decide only [go_sem]; (try simp (disch := first | exact ds | fail) only [go_sem, Nat.reduceAdd, Nat.reduceMul, Nat.reduceSub, Int.reduceToNat, Int.reduceNeg, Nat.reduceLeDiff, hD]); (try simp only [SV.pl.injEq, SV.sl.injEq, Value.int.injEq, Bk.c.injEq, encI_inj, true_and]); (try omega))); (try case' h1 => first | exact to1 | (simp +decide only [go_sem]; (try simp (disch := first | exact ds | fail) only [go_sem, Nat.reduceAdd, Nat.reduceMul, Nat.reduceSub, Int.reduceToNat, Int.reduceNeg, Nat.reduceLeDiff, hD]); (try simp only [SV.pl.injEq, SV.sl.injEq, Value.int.injEq, Bk.c.injEq, encI_inj, true_and]); (try omega)))
  repeat' (first | apply W.seq | apply W.skip | apply W.region | apply W.block | apply N.code | apply N.blk | apply Sl.nil | apply W.exit | apply W.ret | apply E.hit | apply E.code | apply E.fin | refine zM ?_ | apply O.i | refine sP ?_ | refine sQ fun _ => ?_ | refine zg fun _ => ?_ | refine sX fun _ => ?_ | refine zI ?_ ?_ | (intro hb; (try simp [-List.getD_eq_getElem?_getD] at hb); (try (exfalso; omega))))
  · rw [bf hP (fun h => by have := h.2.1 k (by omega); unfold inOk at this; omega)]
    exact rT
  · (refine N.fin ⟨by omega, ?h2, ?w2⟩; case' w2 => (refine Weak.to (by first | rfl | (simp only [virtAt_n]; rfl)) ?s2 ?b2 (by exact dfe)))
    (try case' s2 => first | exact to1 | (simp +decide only [go_sem]; (try simp (disch := first | exact ds | fail) only [go_sem, Nat.reduceAdd, Nat.reduceMul, Nat.reduceSub, Int.reduceToNat, Int.reduceNeg, Nat.reduceLeDiff, hD]); (try simp only [SV.pl.injEq, SV.sl.injEq, Value.int.injEq, Bk.c.injEq, encI_inj, true_and]); (try omega))); (try case' b2 => first | exact to1 | (simp +decide only [go_sem]; (try simp (disch := first | exact ds | fail) only [go_sem, Nat.reduceAdd, Nat.reduceMul, Nat.reduceSub, Int.reduceToNat, Int.reduceNeg, Nat.reduceLeDiff, hD]); (try simp only [SV.pl.injEq, SV.sl.injEq, Value.int.injEq, Bk.c.injEq, encI_inj, true_and]); (try omega))); (try case' h2 => first | exact to1 | (simp +decide only [go_sem]; (try simp (disch := first | exact ds | fail) only [go_sem, Nat.reduceAdd, Nat.reduceMul, Nat.reduceSub, Int.reduceToNat, Int.reduceNeg, Nat.reduceLeDiff, hD]); (try simp only [SV.pl.injEq, SV.sl.injEq, Value.int.injEq, Bk.c.injEq, encI_inj, true_and]); (try omega)))
    exact all_step hH (by unfold inOk; omega)
  obtain rfl : k = a.Ins.length := by omega
  refine W.iter (fun j => ⟨75, [(1, .pt 1 0 0), (4, .pl (.int .i64 j))], [(1, .c 3 [[.pd (encL fPoint a.Ins), .pd (encI .i64 a.Outs), .pl (.int .i64 a.Height)]])], []⟩) (fun j => ∀ i, i < j → outOk (a.Outs.getD i 0)) (a.Outs.length) (Weak.to (by first | rfl | (simp only [virtAt_n]; rfl)) ?s3 ?b3 (by exact dfe)) ?h3 (fun j hj Hj => ?body3)
  (try case' s3 => first | exact to1 | (simp +decide only [go_sem]; (try simp (disch := first | exact ds | fail) only [go_sem, Nat.reduceAdd, Nat.reduceMul, Nat.reduceSub, Int.reduceToNat, Int.reduceNeg, Nat.reduceLeDiff, hD]); (try simp only [SV.pl.injEq, SV.sl.injEq, Value.int.injEq, Bk.c.injEq, encI_inj, true_and]); (try omega))); (try case' b3 => first | exact to1 | (simp +decide only [go_sem]; (try simp (disch := first | exact ds | fail) only [go_sem, Nat.reduceAdd, Nat.reduceMul, Nat.reduceSub, Int.reduceToNat, Int.reduceNeg, Nat.reduceLeDiff, hD]); (try simp only [SV.pl.injEq, SV.sl.injEq, Value.int.injEq, Bk.c.injEq, encI_inj, true_and]); (try omega))); (try case' h3 => first | exact to1 | (simp +decide only [go_sem]; (try simp (disch := first | exact ds | fail) only [go_sem, Nat.reduceAdd, Nat.reduceMul, Nat.reduceSub, Int.reduceToNat, Int.reduceNeg, Nat.reduceLeDiff, hD]); (try simp only [SV.pl.injEq, SV.sl.injEq, Value.int.injEq, Bk.c.injEq, encI_inj, true_and]); (try omega)))
  repeat' (first | apply W.seq | apply W.skip | apply W.region | apply W.block | apply N.code | apply N.blk | apply Sl.nil | apply W.exit | apply W.ret | apply E.hit | apply E.code | apply E.fin | refine zM ?_ | apply O.i | refine sP ?_ | refine sQ fun _ => ?_ | refine zg fun _ => ?_ | refine sX fun _ => ?_ | refine zI ?_ ?_ | (intro hb; (try simp [-List.getD_eq_getElem?_getD] at hb); (try (exfalso; omega))))
  · rw [bf hP (fun h => by have := h.2.2 j (by omega); unfold outOk at this; omega)]
    exact rT
  · (refine N.fin ⟨by omega, ?h4, ?w4⟩; case' w4 => (refine Weak.to (by first | rfl | (simp only [virtAt_n]; rfl)) ?s4 ?b4 (by exact dfe)))
    (try case' s4 => first | exact to1 | (simp +decide only [go_sem]; (try simp (disch := first | exact ds | fail) only [go_sem, Nat.reduceAdd, Nat.reduceMul, Nat.reduceSub, Int.reduceToNat, Int.reduceNeg, Nat.reduceLeDiff, hD]); (try simp only [SV.pl.injEq, SV.sl.injEq, Value.int.injEq, Bk.c.injEq, encI_inj, true_and]); (try omega))); (try case' b4 => first | exact to1 | (simp +decide only [go_sem]; (try simp (disch := first | exact ds | fail) only [go_sem, Nat.reduceAdd, Nat.reduceMul, Nat.reduceSub, Int.reduceToNat, Int.reduceNeg, Nat.reduceLeDiff, hD]); (try simp only [SV.pl.injEq, SV.sl.injEq, Value.int.injEq, Bk.c.injEq, encI_inj, true_and]); (try omega))); (try case' h4 => first | exact to1 | (simp +decide only [go_sem]; (try simp (disch := first | exact ds | fail) only [go_sem, Nat.reduceAdd, Nat.reduceMul, Nat.reduceSub, Int.reduceToNat, Int.reduceNeg, Nat.reduceLeDiff, hD]); (try simp only [SV.pl.injEq, SV.sl.injEq, Value.int.injEq, Bk.c.injEq, encI_inj, true_and]); (try omega)))
    exact all_step Hj (by unfold outOk; omega)
  obtain rfl : j = a.Outs.length := by omega
  rw [hP.mpr ⟨by omega, hH, Hj⟩]
  exact rT
theorem l5Of_ok {h : H32} : TSpec Try.prog 164 [] [.ag (encA .u8 h.l)] false [] (.ow 1 (encI .u8 h.l)) := by
  have hD := dN0
  refine sT 17 [.tmp 2] Try.func164 fun w0 S0 ρ0 φ0 => ?_
  repeat' (first | apply W.seq | apply W.skip | apply W.region | apply W.block | apply N.code | apply N.blk | apply Sl.nil | apply W.exit | apply W.ret | apply E.hit | apply E.code | apply E.fin | refine zM ?_ | apply O.i | refine sP ?_ | refine sQ fun _ => ?_ | refine sX fun _ => ?_ | refine zI ?_ ?_ | (intro hb; (try simp [-List.getD_eq_getElem?_getD] at hb); (try (exfalso; omega))))
  (refine gR 5 2000000 ?_)
  have hD := And.intro @encI_append (@encI_one)
  refine W.iter (fun k => ⟨17, [(1, .pt 1 0 0), (3, .sl 2000000 0 k), (4, .pl (.int .i64 k))], [(1, .c 32 [encA .u8 h.l]), (2000000, .c 1 (encI .u8 (h.l.take k)))], []⟩) (fun k => True) (32) (Weak.to (by first | rfl | (simp only [virtAt_n]; rfl)) ?s5 ?b5 (by exact dfe)) ?h5 (fun k hk hH => ?body5)
  (try case' s5 => first | exact to1 | (simp +decide only [go_sem]; (try simp (disch := first | exact ds | fail) only [go_sem, Nat.reduceAdd, Nat.reduceMul, Nat.reduceSub, Int.reduceToNat, Int.reduceNeg, Nat.reduceLeDiff, hD]); (try simp only [SV.pl.injEq, SV.sl.injEq, Value.int.injEq, Bk.c.injEq, encI_inj, true_and]); (try omega))); (try case' b5 => first | exact to1 | (simp +decide only [go_sem]; (try simp (disch := first | exact ds | fail) only [go_sem, Nat.reduceAdd, Nat.reduceMul, Nat.reduceSub, Int.reduceToNat, Int.reduceNeg, Nat.reduceLeDiff, hD]); (try simp only [SV.pl.injEq, SV.sl.injEq, Value.int.injEq, Bk.c.injEq, encI_inj, true_and]); (try omega))); (try case' h5 => first | exact to1 | (simp +decide only [go_sem]; (try simp (disch := first | exact ds | fail) only [go_sem, Nat.reduceAdd, Nat.reduceMul, Nat.reduceSub, Int.reduceToNat, Int.reduceNeg, Nat.reduceLeDiff, hD]); (try simp only [SV.pl.injEq, SV.sl.injEq, Value.int.injEq, Bk.c.injEq, encI_inj, true_and]); (try omega)))
  have htl : (h.l.take k).length = k := by simp; omega
  have hts : ∀ _ : k < 32, h.l.take k ++ [h.l.getD k 0] = h.l.take (k + 1) := fun hk => take_snoc 0 h.l k (by simp; omega)
  have hD := And.intro @encI_append (And.intro @encI_one ((htl)))
  repeat' (first | apply W.seq | apply W.skip | apply W.region | apply W.block | apply N.code | apply N.blk | apply Sl.nil | apply W.exit | apply W.ret | apply E.hit | apply E.code | apply E.fin | refine zM ?_ | apply O.i | refine sP ?_ | refine sQ fun _ => ?_ | refine sX fun _ => ?_ | refine zI ?_ ?_ | (intro hb; (try simp [-List.getD_eq_getElem?_getD] at hb); (try (exfalso; omega))))
  · (refine N.fin ⟨by omega, ?h6, ?w6⟩; case' w6 => (refine eR 15 2000000 ?_; refine Weak.to (by first | rfl | (simp only [virtAt_n]; rfl)) ?s6 ?b6 (by exact dfe)))
    (try case' s6 => first | exact to1 | (simp +decide only [go_sem]; (try simp (disch := first | exact ds | fail) only [go_sem, Nat.reduceAdd, Nat.reduceMul, Nat.reduceSub, Int.reduceToNat, Int.reduceNeg, Nat.reduceLeDiff, hD]); (try simp only [SV.pl.injEq, SV.sl.injEq, Value.int.injEq, Bk.c.injEq, encI_inj, true_and]); (try omega))); (try case' b6 => first | exact to1 | (simp +decide only [go_sem]; (try simp (disch := first | exact ds | fail) only [go_sem, Nat.reduceAdd, Nat.reduceMul, Nat.reduceSub, Int.reduceToNat, Int.reduceNeg, Nat.reduceLeDiff, hD]); (try simp only [SV.pl.injEq, SV.sl.injEq, Value.int.injEq, Bk.c.injEq, encI_inj, true_and]); (try omega))); (try case' h6 => first | exact to1 | (simp +decide only [go_sem]; (try simp (disch := first | exact ds | fail) only [go_sem, Nat.reduceAdd, Nat.reduceMul, Nat.reduceSub, Int.reduceToNat, Int.reduceNeg, Nat.reduceLeDiff, hD]); (try simp only [SV.pl.injEq, SV.sl.injEq, Value.int.injEq, Bk.c.injEq, encI_inj, true_and]); (try omega)))
    rw [hts (by omega)]
  · obtain rfl : k = 32 := by omega
    rw [List.take_of_length_le (by simp)]
    exact rT
def encIn (p : PointA) : List Int := p.Id.l ++ [p.N]
def encIns (xs : List PointA) : List Int := xs.flatMap encIn
def encOuts (xs : List Int) : List Int := xs.flatMap fun v => lowB v 8
def encTx (a : TxA) : List Int := [(a.Ins.length : Int)] ++ encIns a.Ins ++ [(a.Outs.length : Int)] ++ encOuts a.Outs ++ lowB a.Height 4
theorem flatM_step {α β : Type} (f : α → List β) (d : α) (xs : List α) (k : Nat) (h : k < xs.length) : (xs.take k).flatMap f ++ f (xs.getD k d) = (xs.take (k + 1)).flatMap f := by
  rw [← take_snoc d xs k h, List.flatMap_append]
  simp
theorem encIns_step (xs : List PointA) (k : Nat) (h : k < xs.length) : encIns (xs.take k) ++ (xs.getD k default).Id.l ++ [(xs.getD k default).N] = encIns (xs.take (k + 1)) := by
  rw [List.append_assoc]
  exact flatM_step encIn default xs k h
theorem encOuts_step (xs : List Int) (k : Nat) (h : k < xs.length) : encOuts (xs.take k) ++ lowB (xs.getD k 0) 8 = encOuts (xs.take (k + 1)) := flatM_step _ 0 xs k h
theorem encIns_length (xs : List PointA) : (encIns xs).length = 33 * xs.length := by
  induction xs with
  | nil => rfl
  | cons p xs ih => rw [encIns, List.flatMap_cons, List.length_append, ← encIns, ih]; simp [encIn]; omega
theorem encOuts_length (xs : List Int) : (encOuts xs).length = 8 * xs.length := by
  induction xs with
  | nil => rfl
  | cons p xs ih => rw [encOuts, List.flatMap_cons, List.length_append, ← encOuts, ih, lowB_length]; simp; omega
attribute [irreducible] encIns encOuts
instance (v : Int) : Decidable (outOk v) := by unfold outOk; infer_instance
instance (p : PointA) : Decidable (inOk p) := by unfold inOk; infer_instance
theorem first_bad (p : Nat → Prop) : ∀ n : Nat, (∀ i, i < n → p i) ∨ ∃ r, r < n ∧ ¬ p r ∧ ∀ i, i < r → p i
  | 0 => .inl fun i hi => absurd hi (by omega)
  | n + 1 => by
    rcases first_bad p n with h | ⟨r, h1, h2, h3⟩
    · by_cases e : p n
      · exact .inl (all_step h e)
      · exact .inr ⟨n, by omega, e, h⟩
    · exact .inr ⟨r, by omega, h2, h3⟩
/-- The first index at which p fails, or -1. -/
def badAt (p : Nat → Prop) (n : Nat) (r : Int) : Prop := (r = -1 ∧ ∀ i, i < n → p i) ∨ (0 ≤ r ∧ r < n ∧ ¬ p r.toNat ∧ ∀ i, i < r.toNat → p i)
theorem badAt_ex (p : Nat → Prop) (n : Nat) : ∃ r, badAt p n r := by
  rcases first_bad p n with h | ⟨r, h1, h2, h3⟩
  · exact ⟨-1, .inl ⟨rfl, h⟩⟩
  · exact ⟨r, .inr ⟨by omega, by omega, by simpa using h2, by simpa using h3⟩⟩
theorem badAt_hit {p : Nat → Prop} {n k : Nat} {r : Int} (h : badAt p n r) (hk : k < n) (h1 : ∀ i, i < k → p i) (h2 : ¬ p k) : r = k := by
  rcases h with ⟨_, h⟩ | ⟨g1, g2, g3, g4⟩
  · exact absurd (h k hk) h2
  · by_cases e : r.toNat < k
    · exact absurd (h1 _ e) g3
    · by_cases e2 : k < r.toNat
      · exact absurd (g4 k e2) h2
      · omega
theorem badAt_none {p : Nat → Prop} {n : Nat} {r : Int} (h : badAt p n r) (h1 : ∀ i, i < n → p i) : r = -1 := by
  rcases h with ⟨e, _⟩ | ⟨g1, g2, g3, _⟩
  · exact e
  · exact absurd (h1 _ (by omega)) g3
theorem badAt_iff {p : Nat → Prop} {n : Nat} {r : Int} (h : badAt p n r) : 0 ≤ r ↔ ¬ ∀ i, i < n → p i := by
  rcases h with ⟨e, h⟩ | ⟨g1, g2, g3, g4⟩
  · exact ⟨fun h => by omega, fun g => absurd h g⟩
  · exact ⟨fun _ g => g3 (g _ (by omega)), fun _ => g1⟩
theorem valid1_ok {v : Int} : TSpec Try.prog 178 [] [.pl (.int .i64 v)] false [] (.pl (.bool (decide (¬ outOk v)))) := by
  rw [show decide (¬ outOk v) = (bif decide (v < 1) then true else decide (v > 1000000000000)) from by
    by_cases e : v < 1
    · simp only [e, outOk, decide_true, cond_true]; exact decide_eq_true (by omega)
    · simp only [e, outOk, decide_false, cond_false]; exact decide_eq_decide.mpr ⟨fun h => by omega, fun h => by omega⟩]
  have hD := dN0
  refine sT 9 [.tmp 2] Try.func178 fun w0 S0 ρ0 φ0 => ?_
  repeat' (first | apply W.seq | apply W.skip | apply W.region | apply W.block | apply N.code | apply N.blk | apply Sl.nil | apply W.exit | apply W.ret | apply E.hit | apply E.code | apply E.fin | refine zM ?_ | apply O.i | refine sP ?_ | refine sQ fun _ => ?_ | refine zg fun _ => ?_ | refine zI ?_ ?_ | (intro hb; (try simp [-List.getD_eq_getElem?_getD] at hb); (try (exfalso; omega))))
  exact rT
theorem indexV_ok {xs : List Int} {r : Int} (hl : xs.length < 2 ^ 40 := by exact pm) (hr : badAt (fun i => outOk (xs.getD i 0)) xs.length r := by exact pm) : TSpec Try.prog 198 [] [.pd (encI .i64 xs), .pl (.func (.func 178) #[] #[])] false [] (.pl (.int .i64 r)) := by
  have hD := dN0
  refine sT 19 [.tmp 4] Try.func198 fun w0 S0 ρ0 φ0 => ?_
  repeat' (first | apply W.seq | apply W.skip | apply W.region | apply W.block | apply N.code | apply N.blk | apply Sl.nil | apply W.exit | apply W.ret | apply E.hit | apply E.code | apply E.fin | refine zM ?_ | apply O.i | refine sP ?_ | refine sQ fun _ => ?_ | (refine kV false [] c178 ?_; refine k2 valid1_ok ?_) | refine zI ?_ ?_ | (intro hb; (try simp [-List.getD_eq_getElem?_getD] at hb); (try (exfalso; omega))))
  refine W.iter (fun k => ⟨19, [(0, .pd (encI .i64 xs)), (1, .pl (.func (.func 178) #[] #[])), (7, .pl (.int .i64 xs.length)), (8, .pl (.int .i64 k))], [], []⟩) (fun k => ∀ i, i < k → outOk (xs.getD i 0)) (xs.length) (Weak.to (by first | rfl | (simp only [virtAt_n]; rfl)) ?s7 ?b7 (by exact dfe)) ?h7 (fun k hk hH => ?body7)
  (try case' s7 => first | exact to1 | (simp +decide only [go_sem]; (try simp (disch := first | exact ds | fail) only [go_sem, Nat.reduceAdd, Nat.reduceMul, Nat.reduceSub, Int.reduceToNat, Int.reduceNeg, Nat.reduceLeDiff, hD]); (try simp only [SV.pl.injEq, SV.sl.injEq, Value.int.injEq, Bk.c.injEq, encI_inj, true_and]); (try omega))); (try case' b7 => first | exact to1 | (simp +decide only [go_sem]; (try simp (disch := first | exact ds | fail) only [go_sem, Nat.reduceAdd, Nat.reduceMul, Nat.reduceSub, Int.reduceToNat, Int.reduceNeg, Nat.reduceLeDiff, hD]); (try simp only [SV.pl.injEq, SV.sl.injEq, Value.int.injEq, Bk.c.injEq, encI_inj, true_and]); (try omega))); (try case' h7 => first | exact to1 | (simp +decide only [go_sem]; (try simp (disch := first | exact ds | fail) only [go_sem, Nat.reduceAdd, Nat.reduceMul, Nat.reduceSub, Int.reduceToNat, Int.reduceNeg, Nat.reduceLeDiff, hD]); (try simp only [SV.pl.injEq, SV.sl.injEq, Value.int.injEq, Bk.c.injEq, encI_inj, true_and]); (try omega)))
  repeat' (first | apply W.seq | apply W.skip | apply W.region | apply W.block | apply N.code | apply N.blk | apply Sl.nil | apply W.exit | apply W.ret | apply E.hit | apply E.code | apply E.fin | refine zM ?_ | apply O.i | refine sP ?_ | refine sQ fun _ => ?_ | (refine kV false [] c178 ?_; refine k2 valid1_ok ?_) | refine zI ?_ ?_ | (intro hb; (try simp [-List.getD_eq_getElem?_getD] at hb); (try (exfalso; omega))))
  · rw [badAt_hit hr (by omega) hH hb]
    exact rT
  · (refine N.fin ⟨by omega, ?h8, ?w8⟩; case' w8 => (refine Weak.to (by first | rfl | (simp only [virtAt_n]; rfl)) ?s8 ?b8 (by exact dfe)))
    (try case' s8 => first | exact to1 | (simp +decide only [go_sem]; (try simp (disch := first | exact ds | fail) only [go_sem, Nat.reduceAdd, Nat.reduceMul, Nat.reduceSub, Int.reduceToNat, Int.reduceNeg, Nat.reduceLeDiff, hD]); (try simp only [SV.pl.injEq, SV.sl.injEq, Value.int.injEq, Bk.c.injEq, encI_inj, true_and]); (try omega))); (try case' b8 => first | exact to1 | (simp +decide only [go_sem]; (try simp (disch := first | exact ds | fail) only [go_sem, Nat.reduceAdd, Nat.reduceMul, Nat.reduceSub, Int.reduceToNat, Int.reduceNeg, Nat.reduceLeDiff, hD]); (try simp only [SV.pl.injEq, SV.sl.injEq, Value.int.injEq, Bk.c.injEq, encI_inj, true_and]); (try omega))); (try case' h8 => first | exact to1 | (simp +decide only [go_sem]; (try simp (disch := first | exact ds | fail) only [go_sem, Nat.reduceAdd, Nat.reduceMul, Nat.reduceSub, Int.reduceToNat, Int.reduceNeg, Nat.reduceLeDiff, hD]); (try simp only [SV.pl.injEq, SV.sl.injEq, Value.int.injEq, Bk.c.injEq, encI_inj, true_and]); (try omega)))
    exact all_step hH hb
  · obtain rfl : k = xs.length := by omega
    rw [badAt_none hr hH]
    exact rT
theorem hasV_ok {xs : List Int} (hl : xs.length < 2 ^ 40 := by exact pm) : TSpec Try.prog 177 [] [.pd (encI .i64 xs), .pl (.func (.func 178) #[] #[])] false [] (.pl (.bool (decide (¬ ∀ i, i < xs.length → outOk (xs.getD i 0))))) := by
  obtain ⟨r, hr⟩ := badAt_ex (fun i => outOk (xs.getD i 0)) xs.length
  rw [show decide (¬ ∀ i, i < xs.length → outOk (xs.getD i 0)) = decide (r ≥ 0) from decide_eq_decide.mpr (badAt_iff hr).symm]
  have hD := dN0
  refine sT 9 [.tmp 4] Try.func177 fun w0 S0 ρ0 φ0 => ?_
  repeat' (first | apply W.seq | apply W.skip | apply W.region | apply W.block | apply N.code | apply N.blk | apply Sl.nil | apply W.exit | apply W.ret | apply E.hit | apply E.code | apply E.fin | refine zM ?_ | apply O.i | refine sP ?_ | refine sQ fun _ => ?_ | (refine k1 false [] c198 ?_; refine k2 (indexV_ok hl hr) ?_) | refine zI ?_ ?_ | (intro hb; (try simp [-List.getD_eq_getElem?_getD] at hb); (try (exfalso; omega))))
  exact rT
theorem txValid_ok {a : TxA} {b : Bool} (hl : totTx a < 2 ^ 40 := by exact pm) (hP : b = true ↔ txOk a := by exact pm) : TSpec Try.prog 155 [] [.ag (fTx a)] false [] (.pl (.bool b)) := by
  unfold totTx at hl
  simp only [fTx]
  have hD := dN0
  refine sT 51 [.tmp 2] Try.func155 fun w0 S0 ρ0 φ0 => ?_
  repeat' (first | apply W.seq | apply W.skip | apply W.region | apply W.block | apply N.code | apply N.blk | apply Sl.nil | apply W.exit | apply W.ret | apply E.hit | apply E.code | apply E.fin | refine zM ?_ | apply O.i | refine sP ?_ | refine sQ fun _ => ?_ | refine zg fun _ => ?_ | refine sX fun _ => ?_ | (refine k1 false [] c177 ?_; refine k2 hasV_ok ?_) | refine zI ?_ ?_ | (intro hb; (try simp [-List.getD_eq_getElem?_getD] at hb); (try (exfalso; omega))))
  · rw [bf hP (fun h => by have := h.1; omega)]
    exact rT
  refine W.iter (fun k => ⟨51, [(1, .pt 1 0 0), (32, .pd (encL fPoint a.Ins)), (33, .pl (.int .i64 a.Ins.length)), (34, .pl (.int .i64 k))], [(1, .c 3 [[.pd (encL fPoint a.Ins), .pd (encI .i64 a.Outs), .pl (.int .i64 a.Height)]])], []⟩) (fun k => ∀ i, i < k → inOk (a.Ins.getD i default)) (a.Ins.length) (Weak.to (by first | rfl | (simp only [virtAt_n]; rfl)) ?s9 ?b9 (by exact dfe)) ?h9 (fun k hk hH => ?body9)
  (try case' s9 => first | exact to1 | (simp +decide only [go_sem]; (try simp (disch := first | exact ds | fail) only [go_sem, Nat.reduceAdd, Nat.reduceMul, Nat.reduceSub, Int.reduceToNat, Int.reduceNeg, Nat.reduceLeDiff, hD]); (try simp only [SV.pl.injEq, SV.sl.injEq, Value.int.injEq, Bk.c.injEq, encI_inj, true_and]); (try omega))); (try case' b9 => first | exact to1 | (simp +decide only [go_sem]; (try simp (disch := first | exact ds | fail) only [go_sem, Nat.reduceAdd, Nat.reduceMul, Nat.reduceSub, Int.reduceToNat, Int.reduceNeg, Nat.reduceLeDiff, hD]); (try simp only [SV.pl.injEq, SV.sl.injEq, Value.int.injEq, Bk.c.injEq, encI_inj, true_and]); (try omega))); (try case' h9 => first | exact to1 | (simp +decide only [go_sem]; (try simp (disch := first | exact ds | fail) only [go_sem, Nat.reduceAdd, Nat.reduceMul, Nat.reduceSub, Int.reduceToNat, Int.reduceNeg, Nat.reduceLeDiff, hD]); (try simp only [SV.pl.injEq, SV.sl.injEq, Value.int.injEq, Bk.c.injEq, encI_inj, true_and]); (try omega)))
  repeat' (first | apply W.seq | apply W.skip | apply W.region | apply W.block | apply N.code | apply N.blk | apply Sl.nil | apply W.exit | apply W.ret | apply E.hit | apply E.code | apply E.fin | refine zM ?_ | apply O.i | refine sP ?_ | refine sQ fun _ => ?_ | refine zg fun _ => ?_ | refine sX fun _ => ?_ | (refine k1 false [] c177 ?_; refine k2 hasV_ok ?_) | refine zI ?_ ?_ | (intro hb; (try simp [-List.getD_eq_getElem?_getD] at hb); (try (exfalso; omega))))
  · rw [bf hP (fun h => by have := h.2.1 k (by omega); unfold inOk at this; omega)]
    exact rT
  · (refine N.fin ⟨by omega, ?h10, ?w10⟩; case' w10 => (refine Weak.to (by first | rfl | (simp only [virtAt_n]; rfl)) ?s10 ?b10 (by exact dfe)))
    (try case' s10 => first | exact to1 | (simp +decide only [go_sem]; (try simp (disch := first | exact ds | fail) only [go_sem, Nat.reduceAdd, Nat.reduceMul, Nat.reduceSub, Int.reduceToNat, Int.reduceNeg, Nat.reduceLeDiff, hD]); (try simp only [SV.pl.injEq, SV.sl.injEq, Value.int.injEq, Bk.c.injEq, encI_inj, true_and]); (try omega))); (try case' b10 => first | exact to1 | (simp +decide only [go_sem]; (try simp (disch := first | exact ds | fail) only [go_sem, Nat.reduceAdd, Nat.reduceMul, Nat.reduceSub, Int.reduceToNat, Int.reduceNeg, Nat.reduceLeDiff, hD]); (try simp only [SV.pl.injEq, SV.sl.injEq, Value.int.injEq, Bk.c.injEq, encI_inj, true_and]); (try omega))); (try case' h10 => first | exact to1 | (simp +decide only [go_sem]; (try simp (disch := first | exact ds | fail) only [go_sem, Nat.reduceAdd, Nat.reduceMul, Nat.reduceSub, Int.reduceToNat, Int.reduceNeg, Nat.reduceLeDiff, hD]); (try simp only [SV.pl.injEq, SV.sl.injEq, Value.int.injEq, Bk.c.injEq, encI_inj, true_and]); (try omega)))
    exact all_step hH (by unfold inOk; omega)
  obtain rfl : k = a.Ins.length := by omega
  have e : b = !decide (¬ ∀ i, i < a.Outs.length → outOk (a.Outs.getD i 0)) := by
    by_cases g : ∀ i, i < a.Outs.length → outOk (a.Outs.getD i 0)
    · rw [hP.mpr ⟨by omega, hH, g⟩, decide_eq_false (fun e => e g)]
      rfl
    · rw [bf hP fun h => g h.2.2, decide_eq_true g]
      rfl
  rw [e]
  exact rT
end Go.Proofs.Ytnancifnodbkdaa

