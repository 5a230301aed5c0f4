import Derived.Test.YtfmbifnbmlhhjaaP1
import Derived.Test.YtfmbifnbmlhhjaaS1
import Derived.Test.YtfmbifnbmlhhjaaUc
namespace Go.Proofs.Ytfmbifnbmlhhjaa
open Go Go.Vcg Go.IntWalk
set_option maxRecDepth 100000
set_option maxHeartbeats 20000000
set_option linter.unusedSimpArgs false
set_option linter.unusedVariables false
theorem c125 : CallOk Try.prog 125 := ⟨_, Try.func125, rfl, by kernel_rfl⟩
theorem c50 : CallOk Try.prog 50 := ⟨_, Try.func50, rfl, by kernel_rfl⟩
theorem c51 : CallOk Try.prog 51 := ⟨_, Try.func51, rfl, by kernel_rfl⟩
def superB (a : SuperA) : List Int := lowB a.Gen 8 ++ lowB a.Root 4 ++ lowB a.Used 4 ++ lowB a.Free 4
theorem superB_length (a : SuperA) : (superB a).length = 20 := by simp [superB, lowB_length]
theorem okBytes_super (a : SuperA) : okBytes (superB a) := okBytes_append (okBytes_append (okBytes_append (okBytes_low _ _) (okBytes_low _ _)) (okBytes_low _ _)) (okBytes_low _ _)
theorem l2SuperBody_ok {a : SuperA} (h : superOk a := by exact pm) : TSpec Try.prog 125 [] [.ag (fSuper a)] false [] (.ow 1 (encI .u8 (superB a))) := by
  unfold superOk plOk at h
  simp only [fSuper, superB]
  have hD := And.intro @encI_append (@lowB_length)
  refine sT 20 [.tmp 2] Try.func125 fun w0 S0 ρ0 φ0 => ?_
  repeat' (first | apply W.seq | apply W.skip | apply W.region | apply W.block | apply N.code | apply N.blk | apply Sl.nil | apply W.exit | apply W.ret | apply E.hit | apply E.code | apply E.fin | refine zM ?_ | apply O.i | refine sP ?_ | refine sQ fun _ => ?_ | refine sX fun _ => ?_ | (refine rD (id := 1) (fun b => b != 1) [6] ?_; refine rP 0 false fun _ => ?_; refine rP 1 true fun _ => ?_; refine rP 3 false fun _ => ?_; refine rP 4 true fun _ => ?_; refine rO 2 fun _ _ _ _ _ => ?_; refine k1 false [] c75 ?_; refine k2 l2Num_ok ?_; refine rO 5 fun _ _ _ _ _ => ?_; refine k1 false [] c75 ?_; refine k2 l2Num_ok ?_; refine rO 6 fun _ _ _ _ _ => ?_; refine sX fun _ => ?_; refine rP 7 false fun _ => ?_; refine rE ?_) | (refine rD (id := 2) (fun b => b != 1) [4, 8] ?_; refine rP 0 false fun _ => ?_; refine rP 1 false fun _ => ?_; refine rP 2 true fun _ => ?_; refine rP 5 false fun _ => ?_; refine rP 6 false fun _ => ?_; refine rO 3 fun _ _ _ _ _ => ?_; refine k1 false [] c75 ?_; refine k2 l2Num_ok ?_; refine rO 4 fun _ _ _ _ _ => ?_; refine sX fun _ => ?_; refine rO 7 fun _ _ _ _ _ => ?_; refine k1 false [] c75 ?_; refine k2 l2Num_ok ?_; refine rO 8 fun _ _ _ _ _ => ?_; refine sX fun _ => ?_; refine rP 9 false fun _ => ?_; refine rE ?_) | refine zI ?_ ?_ | (intro hb; (try simp [-List.getD_eq_getElem?_getD] at hb); (try (exfalso; omega))))
  all_goals exact rT
theorem spSuperOps_ok {a : SuperA} {b : Bool} (hP : b = true ↔ superOk a := by exact pm) : TSpec Try.prog 50 [] [.ag (fSuper a)] false [] (.tu [.ow 3 (encL oOp (if b then opsP (a.Gen % 2) (encPage (a.Gen % 2) 1 (superB a)) else [])), .pl (.bool b)]) := by
  simp only [fSuper]
  cases b with
  | false =>
    rw [if_neg (by simp)]
    have hD := And.intro @superB_length (@encL_nil)
    have hD := And.intro @superB_length (@encL_nil)
    refine sT 16 [.tmp 2, .tmp 3] Try.func50 fun w0 S0 ρ0 φ0 => ?_
    repeat' (first | apply W.seq | apply W.skip | apply W.region | apply W.block | apply N.code | apply N.blk | apply Sl.nil | apply W.exit | apply W.ret | apply E.hit | apply E.code | apply E.fin | refine zM ?_ | apply O.i | refine sP ?_ | refine sQ fun _ => ?_ | refine sX fun _ => ?_ | (refine k1 false [] c123 ?_; refine k2 (l2SuperOk_ok hP) ?_) | (refine rD (id := 3) anyW [] ?_; refine rP 0 false fun _ => ?_; refine rP 1 true fun _ => ?_; refine rP 2 false fun _ => ?_; refine rP 3 true fun _ => ?_; refine rO 4 fun _ _ _ _ _ => ?_; refine k1 false [] c125 ?_; refine k2 (l2SuperBody_ok hv) ?_; refine rO 5 fun _ _ _ _ _ => ?_; refine k1 false [] c124 ?_; refine k2 hpo ?_; refine rP 6 false fun _ => ?_; refine rP 7 false fun _ => ?_; refine rP 8 false fun _ => ?_; refine rP 9 false fun _ => ?_; refine rE ?_) | refine zI ?_ ?_ | (intro hb; (try simp [-List.getD_eq_getElem?_getD] at hb); (try (exfalso; omega))))
    exact rT
  | true =>
    have hv := hP.mp rfl
    have h1 := hv.1
    have hpo := spPageOps_ok (k := a.Gen % 2) (n := 1) (xs := superB a) (b := true) (by rw [superB_length]; omega) (okBytes_super a) (by unfold headOk; rw [superB_length]; simp; omega)
    rw [if_pos rfl] at hpo ⊢
    have em : a.Gen.tmod 2 = a.Gen % 2 := Int.tmod_eq_emod_of_nonneg (by omega)
    obtain ⟨ops, hops⟩ : ∃ ops, ops = opsP (a.Gen % 2) (encPage (a.Gen % 2) 1 (superB a)) := ⟨_, rfl⟩
    rw [← hops] at hpo ⊢
    have hD := And.intro @superB_length (And.intro @encL_nil ((em)))
    have hD := And.intro @superB_length (And.intro @encL_nil ((em)))
    refine sT 16 [.tmp 2, .tmp 3] Try.func50 fun w0 S0 ρ0 φ0 => ?_
    repeat' (first | apply W.seq | apply W.skip | apply W.region | apply W.block | apply N.code | apply N.blk | apply Sl.nil | apply W.exit | apply W.ret | apply E.hit | apply E.code | apply E.fin | refine zM ?_ | apply O.i | refine sP ?_ | refine sQ fun _ => ?_ | refine sX fun _ => ?_ | (refine k1 false [] c123 ?_; refine k2 (l2SuperOk_ok hP) ?_) | (refine rD (id := 3) (fun b => b != 1) [] ?_; refine rP 0 false fun _ => ?_; refine rP 1 true fun _ => ?_; refine rP 2 false fun _ => ?_; refine rP 3 true fun _ => ?_; refine rO 4 fun _ _ _ _ _ => ?_; refine k1 false [] c125 ?_; refine k2 (l2SuperBody_ok hv) ?_; refine rO 5 fun _ _ _ _ _ => ?_; refine k1 false [] c124 ?_; refine k2 hpo ?_; refine rP 6 false fun _ => ?_; refine rP 7 false fun _ => ?_; refine rP 8 false fun _ => ?_; refine rP 9 false fun _ => ?_; refine rE ?_) | refine zI ?_ ?_ | (intro hb; (try simp [-List.getD_eq_getElem?_getD] at hb); (try (exfalso; omega))))
    all_goals exact rT
theorem imSuperOps_ok {a : SuperA} {b : Bool} (hP : b = true ↔ superOk a := by exact pm) : TSpec Try.prog 51 [] [.ag (fSuper a)] false [] (.tu [.ow 3 (encL oOp (if b then opsP (a.Gen % 2) (encPage (a.Gen % 2) 1 (superB a)) else [])), .pl (.bool b)]) := by
  simp only [fSuper]
  cases b with
  | false =>
    rw [if_neg (by simp)]
    have hD := And.intro @superB_length (And.intro @lowB_length (@encL_nil))
    have hD := And.intro @superB_length (And.intro @lowB_length (@encL_nil))
    refine sT 27 [.tmp 2, .tmp 3] Try.func51 fun w0 S0 ρ0 φ0 => ?_
    repeat' (first | apply W.seq | apply W.skip | apply W.region | apply W.block | apply N.code | apply N.blk | apply Sl.nil | apply W.exit | apply W.ret | apply E.hit | apply E.code | apply E.fin | refine zM ?_ | apply O.i | refine sP ?_ | refine sQ fun _ => ?_ | refine sX fun _ => ?_ | (refine k1 false [] c126 ?_; refine k2 (imSuperOk_ok hP) ?_) | (refine rD (id := 3) anyW [] ?_; refine rP 0 false fun _ => ?_; refine rP 1 true fun _ => ?_; refine rP 2 false fun _ => ?_; refine rP 3 false fun _ => ?_; refine rP 4 true fun _ => ?_; refine rP 6 false fun _ => ?_; refine rP 7 true fun _ => ?_; refine rP 9 false fun _ => ?_; refine rP 10 true fun _ => ?_; refine rP 12 false fun _ => ?_; refine rP 13 true fun _ => ?_; refine rO 5 fun _ _ _ _ _ => ?_; refine k1 false [] c129 ?_; refine k2 low_ok ?_; refine rO 8 fun _ _ _ _ _ => ?_; refine k1 false [] c129 ?_; refine k2 low_ok ?_; refine rO 11 fun _ _ _ _ _ => ?_; refine k1 false [] c129 ?_; refine k2 low_ok ?_; refine rO 14 fun _ _ _ _ _ => ?_; refine k1 false [] c129 ?_; refine k2 low_ok ?_; refine rO 15 fun _ _ _ _ _ => ?_; refine sX fun _ => ?_; refine rO 16 fun _ _ _ _ _ => ?_; refine k1 false [] c128 ?_; refine k2 hj ?_; refine rO 17 fun _ _ _ _ _ => ?_; refine k1 false [] c127 ?_; refine k2 hpo ?_; refine rP 18 false fun _ => ?_; refine rP 19 false fun _ => ?_; refine rP 20 false fun _ => ?_; refine rP 21 false fun _ => ?_; refine rE ?_) | refine zI ?_ ?_ | (intro hb; (try simp [-List.getD_eq_getElem?_getD] at hb); (try (exfalso; omega))))
    exact rT
  | true =>
    have hv := hP.mp rfl
    have h1 := hv.1
    have h2 := hv.2
    unfold plOk at h2
    have hpo := imPageOps_ok (k := a.Gen % 2) (n := 1) (xs := superB a) (b := true) (by rw [superB_length]; omega) (okBytes_super a) (by unfold headOk; rw [superB_length]; simp; omega)
    rw [if_pos rfl] at hpo ⊢
    have em : a.Gen.tmod 2 = a.Gen % 2 := Int.tmod_eq_emod_of_nonneg (by omega)
    have hj := join_ok (xs := [lowB a.Gen 8, lowB a.Root 4, lowB a.Used 4, lowB a.Free 4]) (by simp) (by simp [totByteSS, sumN, lowB_length])
    rw [show [lowB a.Gen 8, lowB a.Root 4, lowB a.Used 4, lowB a.Free 4].flatten = superB a by simp [superB]] at hj
    simp only [encL_cons, encL_nil, fB] at hj
    obtain ⟨ops, hops⟩ : ∃ ops, ops = opsP (a.Gen % 2) (encPage (a.Gen % 2) 1 (superB a)) := ⟨_, rfl⟩
    rw [← hops] at hpo ⊢
    have hD := And.intro @superB_length (And.intro @lowB_length (And.intro @encL_nil ((em))))
    have hD := And.intro @superB_length (And.intro @lowB_length (And.intro @encL_nil ((em))))
    refine sT 27 [.tmp 2, .tmp 3] Try.func51 fun w0 S0 ρ0 φ0 => ?_
    repeat' (first | apply W.seq | apply W.skip | apply W.region | apply W.block | apply N.code | apply N.blk | apply Sl.nil | apply W.exit | apply W.ret | apply E.hit | apply E.code | apply E.fin | refine zM ?_ | apply O.i | refine sP ?_ | refine sQ fun _ => ?_ | refine sX fun _ => ?_ | (refine k1 false [] c126 ?_; refine k2 (imSuperOk_ok hP) ?_) | (refine rD (id := 3) (fun b => b != 1) [] ?_; refine rP 0 false fun _ => ?_; refine rP 1 true fun _ => ?_; refine rP 2 false fun _ => ?_; refine rP 3 false fun _ => ?_; refine rP 4 true fun _ => ?_; refine rP 6 false fun _ => ?_; refine rP 7 true fun _ => ?_; refine rP 9 false fun _ => ?_; refine rP 10 true fun _ => ?_; refine rP 12 false fun _ => ?_; refine rP 13 true fun _ => ?_; refine rO 5 fun _ _ _ _ _ => ?_; refine k1 false [] c129 ?_; refine k2 low_ok ?_; refine rO 8 fun _ _ _ _ _ => ?_; refine k1 false [] c129 ?_; refine k2 low_ok ?_; refine rO 11 fun _ _ _ _ _ => ?_; refine k1 false [] c129 ?_; refine k2 low_ok ?_; refine rO 14 fun _ _ _ _ _ => ?_; refine k1 false [] c129 ?_; refine k2 low_ok ?_; refine rO 15 fun _ _ _ _ _ => ?_; refine sX fun _ => ?_; refine rO 16 fun _ _ _ _ _ => ?_; refine k1 false [] c128 ?_; refine k2 hj ?_; refine rO 17 fun _ _ _ _ _ => ?_; refine k1 false [] c127 ?_; refine k2 hpo ?_; refine rP 18 false fun _ => ?_; refine rP 19 false fun _ => ?_; refine rP 20 false fun _ => ?_; refine rP 21 false fun _ => ?_; refine rE ?_) | refine zI ?_ ?_ | (intro hb; (try simp [-List.getD_eq_getElem?_getD] at hb); (try (exfalso; omega))))
    all_goals exact rT
theorem superOps_bound {a : SuperA} {b : Bool} (hP : b = true ↔ superOk a) {ys : List OpA} (hys : ys = if b then opsP (a.Gen % 2) (encPage (a.Gen % 2) 1 (superB a)) else []) : totOpS ys < 10000 ∧ sumN ctOp ys < 10000 := by
  cases b with
  | false =>
    rw [hys, if_neg (by simp)]
    simp [totOpS, sumN]
  | true =>
    have hpl := encPage_length (a.Gen % 2) 1 (superB a) (by rw [superB_length]; omega)
    rw [hys, if_pos rfl]
    have hr : List.range 4 = [0, 1, 2, 3] := rfl
    simp only [opsP, hr, List.map_cons, List.map_nil, totOpS, sumN, totOp, ctOp, List.length_cons, List.length_nil, List.length_take, List.length_drop, hpl]
    omega
end Go.Proofs.Ytfmbifnbmlhhjaa

