import Derived.Test.YtcmnbefdbckhcaaB27
import Derived.Test.YtcmnbefdbckhcaaA9
import Derived.Test.YtcmnbefdbckhcaaE2
import Derived.Test.YtcmnbefdbckhcaaUe
namespace Go.Proofs.Ytcmnbefdbckhcaa
open Go Go.Vcg Go.IntWalk
set_option maxRecDepth 100000
set_option maxHeartbeats 4000000
set_option linter.unusedSimpArgs false
set_option linter.unusedVariables false
theorem c35 : CallOk Try.prog 35 := ⟨_, Try.func35, rfl, by kernel_rfl⟩
theorem c78 : CallOk Try.prog 78 := ⟨_, Try.func78, rfl, by kernel_rfl⟩
theorem c79 : CallOk Try.prog 79 := ⟨_, Try.func79, rfl, by kernel_rfl⟩
theorem c34 : CallOk Try.prog 34 := ⟨_, Try.func34, rfl, by kernel_rfl⟩
theorem c130 : CallOk Try.prog 130 := ⟨_, Try.func130, rfl, by kernel_rfl⟩
theorem c80 : CallOk Try.prog 80 := ⟨_, Try.func80, rfl, by kernel_rfl⟩
theorem c36 : CallOk Try.prog 36 := ⟨_, Try.func36, rfl, by kernel_rfl⟩
theorem c7 : CallOk Try.prog 7 := ⟨_, Try.func7, rfl, by kernel_rfl⟩
structure SuperA where
  Gen : Int
  Root : Int
  Used : Int
  Free : Int
def fSuper (a : SuperA) : List SV := [.pl (.int .i64 a.Gen), .pl (.int .i64 a.Root), .pl (.int .i64 a.Used), .pl (.int .i64 a.Free)]
attribute [go_sem] fSuper
def pgOk (u x : Int) : Prop := x = 0 ∨ (2 ≤ x ∧ x < u)
instance (u x : Int) : Decidable (pgOk u x) := by unfold pgOk; infer_instance
def superOk (a : SuperA) : Prop := (1 ≤ a.Gen ∧ a.Gen ≤ 1000000000000 ∧ 2 ≤ a.Used ∧ a.Used ≤ 1024) ∧ pgOk a.Used a.Root ∧ pgOk a.Used a.Free
def superB (a : SuperA) : List Int := lowB a.Gen 8 ++ lowB a.Root 4 ++ lowB a.Used 4 ++ lowB a.Free 4
theorem superB_length (a : SuperA) : (superB a).length = 20 := by simp [superB, lowB_length]
theorem okBytes_super (a : SuperA) : okBytes (superB a) := okBytes_append (okBytes_append (okBytes_append (okBytes_low _ _) (okBytes_low _ _)) (okBytes_low _ _)) (okBytes_low _ _)
theorem pgVal (u x : Int) : (bif (x == 0) then true else bif decide (x ≥ 2) then decide (x < u) else false) = decide (pgOk u x) := by
  unfold pgOk
  by_cases h1 : x = 0
  · simp [h1]
  · by_cases h2 : x ≥ 2
    · simp [h1, h2, show (x == 0) = false by simp [h1]]
    · simp [h1, h2, show (x == 0) = false by simp [h1]]
theorem superVal_eq {a : SuperA} {b : Bool} (h1 : 1 ≤ a.Gen ∧ a.Gen ≤ 1000000000000 ∧ 2 ≤ a.Used ∧ a.Used ≤ 1024) (hP : b = true ↔ superOk a) : b = (bif bif (a.Root == 0) then true else bif decide (a.Root ≥ 2) then decide (a.Root < a.Used) else false then bif (a.Free == 0) then true else bif decide (a.Free ≥ 2) then decide (a.Free < a.Used) else false else false) := by
  rw [pgVal, pgVal]
  by_cases g1 : pgOk a.Used a.Root
  · by_cases g2 : pgOk a.Used a.Free
    · rw [hP.mpr ⟨h1, g1, g2⟩, decide_eq_true g1, decide_eq_true g2]
      rfl
    · rw [bf hP fun h => g2 h.2.2, decide_eq_true g1, decide_eq_false g2]
      rfl
  · rw [bf hP fun h => g1 h.2.1, decide_eq_false g1]
    rfl
theorem toSuper_ok {a : SuperA} : TSpec Try.prog 35 [] [.ag (fSuper a)] false [] (.ag (fSuper a)) := by
  simp only [fSuper]
  have hD := dN0
  refine sT 17 [.cell 2 50] Try.func35 fun w0 S0 ρ0 φ0 => ?_
  repeat' (first | apply W.seq | apply W.skip | apply W.region | apply W.block | apply N.code | apply N.blk | apply Sl.nil | apply W.exit | apply W.ret | apply E.hit | apply E.code | apply E.fin | refine zM ?_ | apply O.i | refine sP ?_ | refine sQ fun _ => ?_ | refine sX fun _ => ?_ | refine zI ?_ ?_ | (intro hb; (try simp [-List.getD_eq_getElem?_getD] at hb); (try (exfalso; omega))))
  exact rT
theorem l2SuperOk_ok {a : SuperA} {b : Bool} (hP : b = true ↔ superOk a := by exact pm) : TSpec Try.prog 78 [] [.ag (fSuper a)] false [] (.pl (.bool b)) := by
  simp only [fSuper]
  obtain ⟨r0, hr0⟩ : ∃ r, (a.Root == 0) = r := ⟨_, rfl⟩
  obtain ⟨r2, hr2⟩ : ∃ r, decide (a.Root ≥ 2) = r := ⟨_, rfl⟩
  obtain ⟨r3, hr3⟩ : ∃ r, decide (a.Root < a.Used) = r := ⟨_, rfl⟩
  obtain ⟨f0, hf0⟩ : ∃ r, (a.Free == 0) = r := ⟨_, rfl⟩
  obtain ⟨f2, hf2⟩ : ∃ r, decide (a.Free ≥ 2) = r := ⟨_, rfl⟩
  have hD := And.intro (hr0) (And.intro (hr2) (And.intro (hr3) (And.intro (hf0) ((hf2)))))
  have hD := And.intro (hr0) (And.intro (hr2) (And.intro (hr3) (And.intro (hf0) ((hf2)))))
  refine sT 53 [.tmp 2] Try.func78 fun w0 S0 ρ0 φ0 => ?_
  repeat' (first | apply W.seq | apply W.skip | refine W.region (id := 0) ?_ | refine W.region (id := 1) ?_ | refine W.region (id := 2) ?_ | apply W.block | apply N.code | apply N.blk | apply Sl.nil | apply W.exit | apply W.ret | apply E.hit | apply E.code | apply E.fin | refine zM ?_ | apply O.i | refine sP ?_ | refine sQ fun _ => ?_ | refine zg fun _ => ?_ | refine sX fun _ => ?_ | refine sPf ?_ | refine sPt ?_ | refine sEN ?_ | refine zI ?_ ?_ | (intro hb; (try simp [-List.getD_eq_getElem?_getD] at hb); (try (exfalso; omega))))
  · rw [bf hP (fun h => by have := h.1; omega)]
    exact rT
  have hbv : b = (bif bif r0 then true else bif r2 then r3 else false then bif f0 then true else bif f2 then decide (a.Free < a.Used) else false else false) := by
    have h1 : (1 ≤ a.Gen ∧ a.Gen ≤ 1000000000000 ∧ 2 ≤ a.Used ∧ a.Used ≤ 1024) := by omega
    rw [← hr0, ← hr2, ← hr3, ← hf0, ← hf2]
    exact superVal_eq h1 hP
  rw [hbv]
  cases r0
  · cases r2
    · repeat' (first | apply W.seq | apply W.skip | apply W.region | apply W.block | apply N.code | apply N.blk | apply Sl.nil | apply W.exit | apply W.ret | apply E.hit | apply E.code | apply E.fin | refine zM ?_ | apply O.i | refine sP ?_ | refine sQ fun _ => ?_ | refine zg fun _ => ?_ | refine sX fun _ => ?_ | refine sPf ?_ | refine sPt ?_ | refine sEN ?_ | refine zI ?_ ?_ | (intro hb; (try simp [-List.getD_eq_getElem?_getD] at hb); (try (exfalso; omega))))
      exact rT
    · cases r3
      · repeat' (first | apply W.seq | apply W.skip | apply W.region | apply W.block | apply N.code | apply N.blk | apply Sl.nil | apply W.exit | apply W.ret | apply E.hit | apply E.code | apply E.fin | refine zM ?_ | apply O.i | refine sP ?_ | refine sQ fun _ => ?_ | refine zg fun _ => ?_ | refine sX fun _ => ?_ | refine sPf ?_ | refine sPt ?_ | refine sEN ?_ | refine zI ?_ ?_ | (intro hb; (try simp [-List.getD_eq_getElem?_getD] at hb); (try (exfalso; omega))))
        exact rT
      · cases f0 <;> cases f2
        all_goals repeat' (first | apply W.seq | apply W.skip | apply W.region | apply W.block | apply N.code | apply N.blk | apply Sl.nil | apply W.exit | apply W.ret | apply E.hit | apply E.code | apply E.fin | refine zM ?_ | apply O.i | refine sP ?_ | refine sQ fun _ => ?_ | refine zg fun _ => ?_ | refine sX fun _ => ?_ | refine sPf ?_ | refine sPt ?_ | refine sEN ?_ | refine zI ?_ ?_ | (intro hb; (try simp [-List.getD_eq_getElem?_getD] at hb); (try (exfalso; omega))))
        all_goals exact rT
  · cases f0 <;> cases f2
    all_goals repeat' (first | apply W.seq | apply W.skip | apply W.region | apply W.block | apply N.code | apply N.blk | apply Sl.nil | apply W.exit | apply W.ret | apply E.hit | apply E.code | apply E.fin | refine zM ?_ | apply O.i | refine sP ?_ | refine sQ fun _ => ?_ | refine zg fun _ => ?_ | refine sX fun _ => ?_ | refine sPf ?_ | refine sPt ?_ | refine sEN ?_ | refine zI ?_ ?_ | (intro hb; (try simp [-List.getD_eq_getElem?_getD] at hb); (try (exfalso; omega))))
    all_goals exact rT
theorem l2SuperBody_ok {a : SuperA} (h : superOk a := by exact pm) : TSpec Try.prog 79 [] [.ag (fSuper a)] false [] (.ow 1 (encI .u8 (superB a))) := by
  unfold superOk pgOk at h
  simp only [fSuper, superB]
  have hD := And.intro @encI_append (@lowB_length)
  refine sT 20 [.tmp 2] Try.func79 fun w0 S0 ρ0 φ0 => ?_
  repeat' (first | apply W.seq | apply W.skip | apply W.region | apply W.block | apply N.code | apply N.blk | apply Sl.nil | apply W.exit | apply W.ret | apply E.hit | apply E.code | apply E.fin | refine zM ?_ | apply O.i | refine sP ?_ | refine sQ fun _ => ?_ | refine sX fun _ => ?_ | (refine rD (id := 1) (fun b => b != 1) [6] ?_; refine rP 0 false fun _ => ?_; refine rP 1 true fun _ => ?_; refine rP 3 false fun _ => ?_; refine rP 4 true fun _ => ?_; refine rO 2 fun _ _ _ _ _ => ?_; refine k1 false [] c86 ?_; refine k2 l2Num_ok ?_; refine rO 5 fun _ _ _ _ _ => ?_; refine k1 false [] c86 ?_; refine k2 l2Num_ok ?_; refine rO 6 fun _ _ _ _ _ => ?_; refine sX fun _ => ?_; refine rP 7 false fun _ => ?_; refine rE ?_) | (refine rD (id := 2) (fun b => b != 1) [4, 8] ?_; refine rP 0 false fun _ => ?_; refine rP 1 false fun _ => ?_; refine rP 2 true fun _ => ?_; refine rP 5 false fun _ => ?_; refine rP 6 false fun _ => ?_; refine rO 3 fun _ _ _ _ _ => ?_; refine k1 false [] c86 ?_; refine k2 l2Num_ok ?_; refine rO 4 fun _ _ _ _ _ => ?_; refine sX fun _ => ?_; refine rO 7 fun _ _ _ _ _ => ?_; refine k1 false [] c86 ?_; refine k2 l2Num_ok ?_; refine rO 8 fun _ _ _ _ _ => ?_; refine sX fun _ => ?_; refine rP 9 false fun _ => ?_; refine rE ?_) | refine zI ?_ ?_ | (intro hb; (try simp [-List.getD_eq_getElem?_getD] at hb); (try (exfalso; omega))))
  all_goals exact rT
theorem superV_ok {a : SuperA} {x : Int} : TSpec Try.prog 130 [] [.pl (.int .i64 x), .bp (fSuper a) 0] false [] (.pl (.bool (decide (pgOk a.Used x)))) := by
  rw [← pgVal]
  simp only [fSuper]
  obtain ⟨r0, hr0⟩ : ∃ r, (x == 0) = r := ⟨_, rfl⟩
  obtain ⟨r2, hr2⟩ : ∃ r, decide (x ≥ 2) = r := ⟨_, rfl⟩
  rw [hr0, hr2]
  have hD := And.intro (hr0) ((hr2))
  have hD := And.intro (hr0) ((hr2))
  refine sT 16 [.tmp 3] Try.func130 fun w0 S0 ρ0 φ0 => ?_
  cases r0 <;> cases r2
  all_goals repeat' (first | apply W.seq | apply W.skip | apply W.region | apply W.block | apply N.code | apply N.blk | apply Sl.nil | apply W.exit | apply W.ret | apply E.hit | apply E.code | apply E.fin | refine zM ?_ | apply O.i | refine sP ?_ | refine sQ fun _ => ?_ | refine zg fun _ => ?_ | refine sPf ?_ | refine sPt ?_ | refine sEN ?_ | refine zI ?_ ?_ | (intro hb; (try simp [-List.getD_eq_getElem?_getD] at hb); (try (exfalso; omega))))
  all_goals exact rT
theorem imSuperOk_ok {a : SuperA} {b : Bool} (hP : b = true ↔ superOk a := by exact pm) : TSpec Try.prog 80 [] [.ag (fSuper a)] false [] (.pl (.bool b)) := by
  simp only [fSuper]
  have hD := dN0
  refine sT 35 [.tmp 2] Try.func80 fun w0 S0 ρ0 φ0 => ?_
  repeat' (first | apply W.seq | apply W.skip | apply W.region | apply W.block | apply N.code | apply N.blk | apply Sl.nil | apply W.exit | apply W.ret | apply E.hit | apply E.code | apply E.fin | refine zM ?_ | apply O.i | refine sP ?_ | refine sQ fun _ => ?_ | refine zg fun _ => ?_ | refine sX fun _ => ?_ | refine sPf ?_ | refine sPt ?_ | (refine kV false [] c130 ?_; refine k2 superV_ok ?_) | (focus (refine zs ?_ ?_; all_goals (intro hg; first | (exfalso; ((try simp [-List.getD_eq_getElem?_getD] at hg) <;> omega)) | ((first | subst hg | rw [hg] | skip); (focus (refine zj ?_ ?_; all_goals (intro hb; first | (exfalso; revert hb; decide) | ((try refine sA 24 ?_); (try refine sA 26 ?_); (refine kV false [] c130 ?_; refine k2 superV_ok ?_)) | refine Sl.weak (Weak.refl _ _) ?_))))))) | (focus (refine zs ?_ ?_; all_goals (intro hg; first | (exfalso; ((try simp [-List.getD_eq_getElem?_getD] at hg) <;> omega)) | ((first | subst hg | rw [hg] | skip); (focus (refine zj ?_ ?_; all_goals (intro hb; first | (exfalso; revert hb; decide) | ((try refine sA 30 ?_); (try refine sA 32 ?_); (refine kV false [] c130 ?_; refine k2 superV_ok ?_)) | refine Sl.weak (Weak.refl _ _) ?_))))))) | refine zI ?_ ?_ | (intro hb; (try simp [-List.getD_eq_getElem?_getD] at hb); (try (exfalso; omega))))
  · have g1 : (bif bif bif decide (a.Gen ≥ 1) then decide (a.Gen ≤ 1000000000000) else false then decide (a.Used ≥ 2) else false then decide (a.Used ≤ 1024) else false) = true := by assumption
    have g2 : (bif true then decide (pgOk a.Used a.Root) else false) = true := by assumption
    have g3 : ((1 ≤ a.Gen ∧ a.Gen ≤ 1000000000000) ∧ 2 ≤ a.Used) ∧ a.Used ≤ 1024 := by simpa using g1
    have g4 : pgOk a.Used a.Root := by simpa using g2
    have e : b = (bif true then decide (pgOk a.Used a.Free) else false) := by
      by_cases q : pgOk a.Used a.Free
      · rw [hP.mpr ⟨by omega, g4, q⟩, decide_eq_true q]
        rfl
      · rw [bf hP fun h => q h.2.2, decide_eq_false q]
        rfl
    rw [e]
    exact rT
  · have g2 : (bif true then decide (pgOk a.Used a.Root) else false) = false := by assumption
    have g4 : ¬ pgOk a.Used a.Root := by simpa using g2
    rw [bf hP fun h => g4 h.2.1]
    exact rT
  · have g1 : (bif bif bif decide (a.Gen ≥ 1) then decide (a.Gen ≤ 1000000000000) else false then decide (a.Used ≥ 2) else false then decide (a.Used ≤ 1024) else false) = false := by assumption
    have e : b = false := bf hP fun h => by
      obtain ⟨⟨h1, h2, h3, h4⟩, _⟩ := h
      rw [decide_eq_true (show a.Gen ≥ 1 from h1), decide_eq_true h2, decide_eq_true (show a.Used ≥ 2 from h3), decide_eq_true h4] at g1
      cases g1
    rw [e]
    exact rT
theorem spSuperOps_ok {a : SuperA} {b : Bool} (hP : b = true ↔ superOk a := by exact pm) : TSpec Try.prog 34 [] [.ag (fSuper a)] false [] (.tu [.ow 3 (encL oOp (if b then opsP (a.Gen % 2) (encPage (a.Gen % 2) 1 (superB a)) else [])), .pl (.bool b)]) := by
  simp only [fSuper]
  cases b with
  | false =>
    rw [if_neg (by simp)]
    have hD := And.intro @superB_length (@encL_nil)
    have hD := And.intro @superB_length (@encL_nil)
    refine sT 16 [.tmp 2, .tmp 3] Try.func34 fun w0 S0 ρ0 φ0 => ?_
    repeat' (first | apply W.seq | apply W.skip | apply W.region | apply W.block | apply N.code | apply N.blk | apply Sl.nil | apply W.exit | apply W.ret | apply E.hit | apply E.code | apply E.fin | refine zM ?_ | apply O.i | refine sP ?_ | refine sQ fun _ => ?_ | refine sX fun _ => ?_ | (refine k1 false [] c78 ?_; refine k2 (l2SuperOk_ok hP) ?_) | (refine rD (id := 3) anyW [] ?_; refine rP 0 false fun _ => ?_; refine rP 1 true fun _ => ?_; refine rP 2 false fun _ => ?_; refine rP 3 true fun _ => ?_; refine rO 4 fun _ _ _ _ _ => ?_; refine k1 false [] c79 ?_; refine k2 (l2SuperBody_ok hv) ?_; refine rO 5 fun _ _ _ _ _ => ?_; refine k1 false [] c20 ?_; refine k2 hpo ?_; refine rP 6 false fun _ => ?_; refine rP 7 false fun _ => ?_; refine rP 8 false fun _ => ?_; refine rP 9 false fun _ => ?_; refine rE ?_) | refine zI ?_ ?_ | (intro hb; (try simp [-List.getD_eq_getElem?_getD] at hb); (try (exfalso; omega))))
    exact rT
  | true =>
    have hv := hP.mp rfl
    have h1 := hv.1
    have hpo := spPageOps_ok (k := a.Gen % 2) (n := 1) (xs := superB a) (b := true) (by rw [superB_length]; omega) (okBytes_super a) (by unfold headOk; rw [superB_length]; simp; omega)
    rw [if_pos rfl] at hpo ⊢
    have em : a.Gen.tmod 2 = a.Gen % 2 := Int.tmod_eq_emod_of_nonneg (by omega)
    obtain ⟨ops, hops⟩ : ∃ ops, ops = opsP (a.Gen % 2) (encPage (a.Gen % 2) 1 (superB a)) := ⟨_, rfl⟩
    rw [← hops] at hpo ⊢
    have hD := And.intro @superB_length (And.intro @encL_nil ((em)))
    have hD := And.intro @superB_length (And.intro @encL_nil ((em)))
    refine sT 16 [.tmp 2, .tmp 3] Try.func34 fun w0 S0 ρ0 φ0 => ?_
    repeat' (first | apply W.seq | apply W.skip | apply W.region | apply W.block | apply N.code | apply N.blk | apply Sl.nil | apply W.exit | apply W.ret | apply E.hit | apply E.code | apply E.fin | refine zM ?_ | apply O.i | refine sP ?_ | refine sQ fun _ => ?_ | refine sX fun _ => ?_ | (refine k1 false [] c78 ?_; refine k2 (l2SuperOk_ok hP) ?_) | (refine rD (id := 3) (fun b => b != 1) [] ?_; refine rP 0 false fun _ => ?_; refine rP 1 true fun _ => ?_; refine rP 2 false fun _ => ?_; refine rP 3 true fun _ => ?_; refine rO 4 fun _ _ _ _ _ => ?_; refine k1 false [] c79 ?_; refine k2 (l2SuperBody_ok hv) ?_; refine rO 5 fun _ _ _ _ _ => ?_; refine k1 false [] c20 ?_; refine k2 hpo ?_; refine rP 6 false fun _ => ?_; refine rP 7 false fun _ => ?_; refine rP 8 false fun _ => ?_; refine rP 9 false fun _ => ?_; refine rE ?_) | refine zI ?_ ?_ | (intro hb; (try simp [-List.getD_eq_getElem?_getD] at hb); (try (exfalso; omega))))
    all_goals exact rT
theorem imSuperOps_ok {a : SuperA} {b : Bool} (hP : b = true ↔ superOk a := by exact pm) : TSpec Try.prog 36 [] [.ag (fSuper a)] false [] (.tu [.ow 3 (encL oOp (if b then opsP (a.Gen % 2) (encPage (a.Gen % 2) 1 (superB a)) else [])), .pl (.bool b)]) := by
  simp only [fSuper]
  cases b with
  | false =>
    rw [if_neg (by simp)]
    have hD := And.intro @superB_length (And.intro @lowB_length (@encL_nil))
    have hD := And.intro @superB_length (And.intro @lowB_length (@encL_nil))
    refine sT 27 [.tmp 2, .tmp 3] Try.func36 fun w0 S0 ρ0 φ0 => ?_
    repeat' (first | apply W.seq | apply W.skip | apply W.region | apply W.block | apply N.code | apply N.blk | apply Sl.nil | apply W.exit | apply W.ret | apply E.hit | apply E.code | apply E.fin | refine zM ?_ | apply O.i | refine sP ?_ | refine sQ fun _ => ?_ | refine sX fun _ => ?_ | (refine k1 false [] c80 ?_; refine k2 (imSuperOk_ok hP) ?_) | (refine rD (id := 3) anyW [] ?_; refine rP 0 false fun _ => ?_; refine rP 1 true fun _ => ?_; refine rP 2 false fun _ => ?_; refine rP 3 false fun _ => ?_; refine rP 4 true fun _ => ?_; refine rP 6 false fun _ => ?_; refine rP 7 true fun _ => ?_; refine rP 9 false fun _ => ?_; refine rP 10 true fun _ => ?_; refine rP 12 false fun _ => ?_; refine rP 13 true fun _ => ?_; refine rO 5 fun _ _ _ _ _ => ?_; refine k1 false [] c82 ?_; refine k2 low_ok ?_; refine rO 8 fun _ _ _ _ _ => ?_; refine k1 false [] c82 ?_; refine k2 low_ok ?_; refine rO 11 fun _ _ _ _ _ => ?_; refine k1 false [] c82 ?_; refine k2 low_ok ?_; refine rO 14 fun _ _ _ _ _ => ?_; refine k1 false [] c82 ?_; refine k2 low_ok ?_; refine rO 15 fun _ _ _ _ _ => ?_; refine sX fun _ => ?_; refine rO 16 fun _ _ _ _ _ => ?_; refine k1 false [] c81 ?_; refine k2 hj ?_; refine rO 17 fun _ _ _ _ _ => ?_; refine k1 false [] c21 ?_; refine k2 hpo ?_; refine rP 18 false fun _ => ?_; refine rP 19 false fun _ => ?_; refine rP 20 false fun _ => ?_; refine rP 21 false fun _ => ?_; refine rE ?_) | refine zI ?_ ?_ | (intro hb; (try simp [-List.getD_eq_getElem?_getD] at hb); (try (exfalso; omega))))
    exact rT
  | true =>
    have hv := hP.mp rfl
    have h1 := hv.1
    have h2 := hv.2
    unfold pgOk at h2
    have hpo := imPageOps_ok (k := a.Gen % 2) (n := 1) (xs := superB a) (b := true) (by rw [superB_length]; omega) (okBytes_super a) (by unfold headOk; rw [superB_length]; simp; omega)
    rw [if_pos rfl] at hpo ⊢
    have em : a.Gen.tmod 2 = a.Gen % 2 := Int.tmod_eq_emod_of_nonneg (by omega)
    have hj := join_ok (xs := [lowB a.Gen 8, lowB a.Root 4, lowB a.Used 4, lowB a.Free 4]) (by simp) (by simp [totByteSS, sumN, lowB_length])
    rw [show [lowB a.Gen 8, lowB a.Root 4, lowB a.Used 4, lowB a.Free 4].flatten = superB a by simp [superB]] at hj
    simp only [encL_cons, encL_nil, fB] at hj
    obtain ⟨ops, hops⟩ : ∃ ops, ops = opsP (a.Gen % 2) (encPage (a.Gen % 2) 1 (superB a)) := ⟨_, rfl⟩
    rw [← hops] at hpo ⊢
    have hD := And.intro @superB_length (And.intro @lowB_length (And.intro @encL_nil ((em))))
    have hD := And.intro @superB_length (And.intro @lowB_length (And.intro @encL_nil ((em))))
    refine sT 27 [.tmp 2, .tmp 3] Try.func36 fun w0 S0 ρ0 φ0 => ?_
    repeat' (first | apply W.seq | apply W.skip | apply W.region | apply W.block | apply N.code | apply N.blk | apply Sl.nil | apply W.exit | apply W.ret | apply E.hit | apply E.code | apply E.fin | refine zM ?_ | apply O.i | refine sP ?_ | refine sQ fun _ => ?_ | refine sX fun _ => ?_ | (refine k1 false [] c80 ?_; refine k2 (imSuperOk_ok hP) ?_) | (refine rD (id := 3) (fun b => b != 1) [] ?_; refine rP 0 false fun _ => ?_; refine rP 1 true fun _ => ?_; refine rP 2 false fun _ => ?_; refine rP 3 false fun _ => ?_; refine rP 4 true fun _ => ?_; refine rP 6 false fun _ => ?_; refine rP 7 true fun _ => ?_; refine rP 9 false fun _ => ?_; refine rP 10 true fun _ => ?_; refine rP 12 false fun _ => ?_; refine rP 13 true fun _ => ?_; refine rO 5 fun _ _ _ _ _ => ?_; refine k1 false [] c82 ?_; refine k2 low_ok ?_; refine rO 8 fun _ _ _ _ _ => ?_; refine k1 false [] c82 ?_; refine k2 low_ok ?_; refine rO 11 fun _ _ _ _ _ => ?_; refine k1 false [] c82 ?_; refine k2 low_ok ?_; refine rO 14 fun _ _ _ _ _ => ?_; refine k1 false [] c82 ?_; refine k2 low_ok ?_; refine rO 15 fun _ _ _ _ _ => ?_; refine sX fun _ => ?_; refine rO 16 fun _ _ _ _ _ => ?_; refine k1 false [] c81 ?_; refine k2 hj ?_; refine rO 17 fun _ _ _ _ _ => ?_; refine k1 false [] c21 ?_; refine k2 hpo ?_; refine rP 18 false fun _ => ?_; refine rP 19 false fun _ => ?_; refine rP 20 false fun _ => ?_; refine rP 21 false fun _ => ?_; refine rE ?_) | refine zI ?_ ?_ | (intro hb; (try simp [-List.getD_eq_getElem?_getD] at hb); (try (exfalso; omega))))
    all_goals exact rT
theorem superOps_bound {a : SuperA} {b : Bool} (hP : b = true ↔ superOk a) {ys : List OpA} (hys : ys = if b then opsP (a.Gen % 2) (encPage (a.Gen % 2) 1 (superB a)) else []) : totOpS ys < 10000 ∧ sumN ctOp ys < 10000 := by
  cases b with
  | false =>
    rw [hys, if_neg (by simp)]
    simp [totOpS, sumN]
  | true =>
    have hpl := encPage_length (a.Gen % 2) 1 (superB a) (by rw [superB_length]; omega)
    rw [hys, if_pos rfl]
    have hr : List.range 4 = [0, 1, 2, 3] := rfl
    simp only [opsP, hr, List.map_cons, List.map_nil, totOpS, sumN, totOp, ctOp, List.length_cons, List.length_nil, List.length_take, List.length_drop, hpl]
    omega
theorem lawSuperOps_ok {a : SuperA} : TSpec Try.prog 7 [] [.ag (fSuper a)] false [] (.pl (.bool true)) := by
  obtain ⟨b, hP⟩ := ex_b (superOk a)
  have hsp := spSuperOps_ok hP
  have him := imSuperOps_ok hP
  obtain ⟨ys, hys⟩ : ∃ ys, ys = if b then opsP (a.Gen % 2) (encPage (a.Gen % 2) 1 (superB a)) else [] := ⟨_, rfl⟩
  have hyl := superOps_bound hP hys
  rw [← hys] at hsp him
  simp only [fSuper] at hsp him ⊢
  have hD := @decide_true
  refine sT 58 [.tmp 2] Try.func7 fun w0 S0 ρ0 φ0 => ?_
  repeat' (first | apply W.seq | apply W.skip | apply W.region | apply W.block | apply N.code | apply N.blk | apply Sl.nil | apply W.exit | apply W.ret | apply E.hit | apply E.code | apply E.fin | refine zM ?_ | apply O.i | refine sP ?_ | refine sQ fun _ => ?_ | refine zg fun _ => ?_ | refine sX fun _ => ?_ | refine sPf ?_ | refine sPt ?_ | (refine k1 false [] c35 ?_; refine k2 toSuper_ok ?_) | (refine k1 false [] c34 ?_; refine k2 hsp ?_) | (refine k1 false [] c36 ?_; refine k2 him ?_) | (refine k1 false [] c22 ?_; refine k2 eqOpS_ok ?_) | (refine k1 false [(1000000, 0, none)] c24 ?_; refine k2 markOpS_ok ?_) | (refine k1 false [] c25 ?_; refine k2 heldOpS_ok ?_) | refine zI ?_ ?_ | (intro hb; (try simp [-List.getD_eq_getElem?_getD] at hb); (try (exfalso; omega))))
  all_goals exact rT
theorem enSuper {H : Type} {enc : TypeId × Value → H} {w : World} : EncP enc Try.prog w 48 fSuper (fun _ => True) :=
  EncFs.struct Try.underlying48 (by kernel_rfl) (EncFs.cons (EncP.int Try.underlying3) (EncFs.cons (EncP.int Try.underlying3) (EncFs.cons (EncP.int Try.underlying3) (EncFs.cons (EncP.int Try.underlying3) EncFs.nil)))) (fun x => ⟨x.1, x.2.1, x.2.2.1, x.2.2.2.1⟩) (fun _ => rfl) (fun _ _ => trivial)
end Go.Proofs.Ytcmnbefdbckhcaa

