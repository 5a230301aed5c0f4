import Derived.Test.YtfmbifnbmlhhjaaD4
import Derived.Test.YtfmbifnbmlhhjaaD3
import Derived.Test.YtfmbifnbmlhhjaaUc
namespace Go.Proofs.Ytfmbifnbmlhhjaa
open Go Go.Vcg Go.IntWalk
set_option maxRecDepth 100000
set_option maxHeartbeats 20000000
set_option linter.unusedSimpArgs false
set_option linter.unusedVariables false
theorem c140 : CallOk Try.prog 140 := ⟨_, Try.func140, rfl, by kernel_rfl⟩
theorem c64 : CallOk Try.prog 64 := ⟨_, Try.func64, rfl, by kernel_rfl⟩
theorem c63 : CallOk Try.prog 63 := ⟨_, Try.func63, rfl, by kernel_rfl⟩
/-- Pending writes, the k-th without its bytes. -/
theorem oPend_get (ps : List PendA) (k : Nat) (h : k < ps.length) : (encL oPend ps).getD k [] = [.pl (.int .i64 (ps.getD k default).At), .ow 1 (encI .u8 (ps.getD k default).Data)] := encL_getD oPend ps k h
theorem oPend_put (ps : List PendA) (k : Nat) (h : k < ps.length) : (encL oPend ps).set k [.pl (.int .i64 (ps.getD k default).At), .ow 1 (encI .u8 (ps.getD k default).Data)] = encL oPend ps := by
  rw [← oPend_get ps k h]
  refine List.ext_getElem? fun j => ?_
  rw [List.getElem?_set]
  split
  · rename_i e
    subst e
    rw [if_pos (by rw [encL_length]; exact h), List.getD_eq_getElem?_getD, List.getElem?_eq_getElem (by rw [encL_length]; exact h)]
    rfl
  · rfl
theorem deviceOfO_ok {a : DiskA} (h : totDisk a < 2 ^ 40 := by exact pm) : TSpec Try.prog 87 [(1000000, .c 1 (encL oB a.Safe)), (1000001, .c 2 (encL oPend a.Pending))] [.ag [.sl 1000000 0 a.Safe.length, .sl 1000001 0 a.Pending.length]] false [] (.bo (devR 0 (.ow 1 (encL oB a.Safe)) (.ow 2 (encL oPend a.Pending)) (.mo (mII (lastN a.Pending a.Pending.length))))) := by
  simp only [devR]
  have htot : totDisk a = (a.Safe.length + sumN List.length a.Safe) + (a.Pending.length + sumN totPend a.Pending) := rfl
  have hD := dN0
  refine sT 27 [.tmp 2] Try.func87 fun w0 S0 ρ0 φ0 => ?_
  repeat' (first | apply W.seq | apply W.skip | apply W.region | apply W.block | apply N.code | apply N.blk | apply Sl.nil | apply W.exit | apply W.ret | apply E.hit | apply E.code | apply E.fin | refine zM ?_ | apply O.i | refine sP ?_ | refine sQ fun _ => ?_ | refine sX fun _ => ?_ | refine sMm ?_ | (refine rD (id := 5) anyW [7] ?_; refine rP 0 false fun _ => ?_; refine rP 1 false fun _ => ?_; refine rP 2 false fun _ => ?_; refine rP 3 true fun _ => ?_; refine rP 4 false fun _ => ?_; refine rP 5 true fun _ => ?_; refine rP 6 false fun _ => ?_; refine rO 7 fun _ _ _ _ _ => ?_; refine sMu fun _ => ?_; refine rE ?_) | refine zI ?_ ?_ | (intro hb; (try simp [-List.getD_eq_getElem?_getD] at hb); (try (exfalso; omega))))
  have hD := @lastN_zero
  refine W.iter (fun k => ⟨27, [(1, .pt 1 0 0), (3, .pt 9 0 0), (11, .sl 1000001 0 a.Pending.length), (12, .pl (.int .i64 a.Pending.length)), (13, .pl (.int .i64 k))], [(1, .c 2 [[.sl 1000000 0 a.Safe.length, .sl 1000001 0 a.Pending.length]]), (9, .c 5 [[.pl (.int .i32 0), .pl (.int .u32 0), .sl 1000000 0 a.Safe.length, .sl 1000001 0 a.Pending.length, .mr 7]]), (7, .m (mII (lastN a.Pending k))), (1000000, .c 1 (encL oB a.Safe)), (1000001, .c 2 (encL oPend a.Pending))], []⟩) (fun k => True) (a.Pending.length) (Weak.to (by first | rfl | (simp only [virtAt_n, virt_n]; rfl)) ?s1 ?b1 (by exact dfe)) ?h1 (fun k hk hH => ?body1)
  (try case' s1 => first | exact to1 | (simp +decide only [go_sem]; (try simp (disch := first | exact ds | fail) only [go_sem, Nat.reduceAdd, Nat.reduceMul, Nat.reduceSub, Int.reduceToNat, Int.reduceNeg, Nat.reduceLeDiff, hD]); (try simp only [SV.pl.injEq, SV.sl.injEq, Value.int.injEq, Bk.c.injEq, encI_inj, true_and]); (try omega))); (try case' b1 => first | exact to1 | (simp +decide only [go_sem]; (try simp (disch := first | exact ds | fail) only [go_sem, Nat.reduceAdd, Nat.reduceMul, Nat.reduceSub, Int.reduceToNat, Int.reduceNeg, Nat.reduceLeDiff, hD]); (try simp only [SV.pl.injEq, SV.sl.injEq, Value.int.injEq, Bk.c.injEq, encI_inj, true_and]); (try omega))); (try case' h1 => first | exact to1 | (simp +decide only [go_sem]; (try simp (disch := first | exact ds | fail) only [go_sem, Nat.reduceAdd, Nat.reduceMul, Nat.reduceSub, Int.reduceToNat, Int.reduceNeg, Nat.reduceLeDiff, hD]); (try simp only [SV.pl.injEq, SV.sl.injEq, Value.int.injEq, Bk.c.injEq, encI_inj, true_and]); (try omega)))
  have hD := dN0
  repeat' (first | apply W.seq | apply W.skip | refine W.region (id := 0) ?_ | refine W.region (id := 1) ?_ | refine W.region (id := 2) ?_ | refine W.region (id := 3) ?_ | refine W.region (id := 6) ?_ | refine W.region (id := 7) ?_ | apply W.block | apply N.code | apply N.blk | apply Sl.nil | apply W.exit | apply W.ret | apply E.hit | apply E.code | apply E.fin | refine zM ?_ | apply O.i | refine sP ?_ | refine sQ fun _ => ?_ | refine sX fun _ => ?_ | refine sMm ?_ | (refine rD (id := 5) anyW [7] ?_; refine rP 0 false fun _ => ?_; refine rP 1 false fun _ => ?_; refine rP 2 false fun _ => ?_; refine rP 3 true fun _ => ?_; refine rP 4 false fun _ => ?_; refine rP 5 true fun _ => ?_; refine rP 6 false fun _ => ?_; refine rO 7 fun _ _ _ _ _ => ?_; refine sMu fun _ => ?_; refine rE ?_) | refine zI ?_ ?_ | (intro hb; (try simp [-List.getD_eq_getElem?_getD] at hb); (try (exfalso; omega))))
  · have hg := oPend_get a.Pending k hb
    have hp := oPend_put a.Pending k hb
    have hst : aputI (lastN a.Pending k) (a.Pending.getD k default).At k = lastN a.Pending (k + 1) := rfl
    have hD := And.intro (hg) (And.intro (hp) ((hst)))
    (refine gU 1000001 k 1 2000010 ?_)
    repeat' (first | apply W.seq | apply W.skip | apply W.region | apply W.block | apply N.code | apply N.blk | apply Sl.nil | apply W.exit | apply W.ret | apply E.hit | apply E.code | apply E.fin | refine zM ?_ | apply O.i | refine sP ?_ | refine sQ fun _ => ?_ | refine sX fun _ => ?_ | refine sMm ?_ | (refine rD (id := 5) anyW [7] ?_; refine rP 0 false fun _ => ?_; refine rP 1 false fun _ => ?_; refine rP 2 false fun _ => ?_; refine rP 3 true fun _ => ?_; refine rP 4 false fun _ => ?_; refine rP 5 true fun _ => ?_; refine rP 6 false fun _ => ?_; refine rO 7 fun _ _ _ _ _ => ?_; refine sMu fun _ => ?_; refine rE ?_) | refine zI ?_ ?_ | (intro hb; (try simp [-List.getD_eq_getElem?_getD] at hb); (try (exfalso; omega))))
    (refine N.fin ⟨by omega, ?h2, ?w2⟩; case' w2 => (refine eF 1000001 k 1 ?_; refine Weak.to (by first | rfl | (simp only [virtAt_n, virt_n]; rfl)) ?s2 ?b2 (by exact dfe)))
    (try case' s2 => first | exact to1 | (simp +decide only [go_sem]; (try simp (disch := first | exact ds | fail) only [go_sem, Nat.reduceAdd, Nat.reduceMul, Nat.reduceSub, Int.reduceToNat, Int.reduceNeg, Nat.reduceLeDiff, hD]); (try simp only [SV.pl.injEq, SV.sl.injEq, Value.int.injEq, Bk.c.injEq, encI_inj, true_and]); (try omega))); (try case' b2 => first | exact to1 | (simp +decide only [go_sem]; (try simp (disch := first | exact ds | fail) only [go_sem, Nat.reduceAdd, Nat.reduceMul, Nat.reduceSub, Int.reduceToNat, Int.reduceNeg, Nat.reduceLeDiff, hD]); (try simp only [SV.pl.injEq, SV.sl.injEq, Value.int.injEq, Bk.c.injEq, encI_inj, true_and]); (try omega))); (try case' h2 => first | exact to1 | (simp +decide only [go_sem]; (try simp (disch := first | exact ds | fail) only [go_sem, Nat.reduceAdd, Nat.reduceMul, Nat.reduceSub, Int.reduceToNat, Int.reduceNeg, Nat.reduceLeDiff, hD]); (try simp only [SV.pl.injEq, SV.sl.injEq, Value.int.injEq, Bk.c.injEq, encI_inj, true_and]); (try omega)))
  obtain rfl : k = a.Pending.length := by omega
  (refine hF 9 0 2 ?_; refine hF 9 0 3 ?_; refine hF 9 0 4 ?_)
  exact rT
theorem diskOk_inR {a : DiskA} (h : diskOk a) : inR a := fun i hi => ⟨(h.2.2.2.2 i hi).1, (h.2.2.2.2 i hi).2.1⟩
theorem imDo_ok {a : DiskA} {o : OpA} {db b : Bool} (h : totDisk a < 2 ^ 40) (ho : o.Data.length < 2 ^ 40) (hPd : db = true ↔ diskOk a) (hP : b = true ↔ doOk a o) :
    TSpec Try.prog 64 [] [.ag (fDisk a), .ag (fOp o)] false [] (.tu [.ag (oDisk (if db && b then doA a o else a)), .pl (.bool (db && b))]) := by
  simp only [fDisk, fOp, oDisk]
  have htot : totDisk a = (a.Safe.length + sumN List.length a.Safe) + (a.Pending.length + sumN totPend a.Pending) := rfl
  cases db with
  | false =>
    rw [Bool.false_and, if_neg (by simp)]
    have hD := dN0
    refine sT 23 [.cell 4 35, .tmp 5] Try.func64 fun w0 S0 ρ0 φ0 => ?_
    repeat' (first | apply W.seq | apply W.skip | refine W.region (id := 0) ?_ | refine W.region (id := 1) ?_ | refine W.region (id := 2) ?_ | apply W.block | apply N.code | apply N.blk | apply Sl.nil | apply W.exit | apply W.ret | apply E.hit | apply E.code | apply E.fin | refine zM ?_ | apply O.i | refine sP ?_ | refine sQ fun _ => ?_ | refine zg fun _ => ?_ | refine sX fun _ => ?_ | refine sPf ?_ | refine sPt ?_ | (refine k1 false [] c130 ?_; refine k2 (clone_ok (a := a)) ?_) | (refine k1 false [(1000000, 0, some 0), (1000001, 0, some 1)] c87 ?_; refine k2 (deviceOfO_ok (a := a)) ?_) | (refine k1 false [] c66 ?_; refine k2 (imDiskOk_ok h hPd) ?_) | (refine k1 false [(1000000, 0, none)] c88 ?_; refine k2 hdo ?_) | (focus (refine zs ?_ ?_; all_goals (intro hg; first | (exfalso; ((try simp [-List.getD_eq_getElem?_getD] at hg) <;> omega)) | ((first | subst hg | rw [hg] | skip); (focus (refine zj ?_ ?_; all_goals (intro hb; first | (exfalso; revert hb; decide) | ((try refine sA 14 ?_); (try refine sA 15 ?_); refine k1 false [(1000000, 0, none)] c88 ?_; refine k2 hdo ?_) | refine Sl.weak (Weak.refl _ _) ?_))))))) | refine zI ?_ ?_ | (intro hb; (try simp [-List.getD_eq_getElem?_getD] at hb); (try (exfalso; omega))))
    (refine gU (nmR 10) 0 2 2000000 ?_; refine gU (nmR 10) 0 3 2000001 ?_)
    repeat' (first | apply W.seq | apply W.skip | apply W.region | apply W.block | apply N.code | apply N.blk | apply Sl.nil | apply W.exit | apply W.ret | apply E.hit | apply E.code | apply E.fin | refine zM ?_ | apply O.i | refine sP ?_ | refine sQ fun _ => ?_ | refine zg fun _ => ?_ | refine sX fun _ => ?_ | refine sPf ?_ | refine sPt ?_ | (refine k1 false [] c130 ?_; refine k2 (clone_ok (a := a)) ?_) | (refine k1 false [(1000000, 0, some 0), (1000001, 0, some 1)] c87 ?_; refine k2 (deviceOfO_ok (a := a)) ?_) | (refine k1 false [] c66 ?_; refine k2 (imDiskOk_ok h hPd) ?_) | (refine k1 false [(1000000, 0, none)] c88 ?_; refine k2 hdo ?_) | (focus (refine zs ?_ ?_; all_goals (intro hg; first | (exfalso; ((try simp [-List.getD_eq_getElem?_getD] at hg) <;> omega)) | ((first | subst hg | rw [hg] | skip); (focus (refine zj ?_ ?_; all_goals (intro hb; first | (exfalso; revert hb; decide) | ((try refine sA 14 ?_); (try refine sA 15 ?_); refine k1 false [(1000000, 0, none)] c88 ?_; refine k2 hdo ?_) | refine Sl.weak (Weak.refl _ _) ?_))))))) | refine zI ?_ ?_ | (intro hb; (try simp [-List.getD_eq_getElem?_getD] at hb); (try (exfalso; omega))))
    exact rT
  | true =>
    have hdo := do_ok (a := a) (l := lastN a.Pending a.Pending.length) (o := o) h ho (diskOk_inR (hPd.mp rfl)) hP
    obtain ⟨a', ha'⟩ : ∃ a', a' = if b then doA a o else a := ⟨_, rfl⟩
    rw [← ha'] at hdo
    rw [Bool.true_and, ← ha']
    simp only [fOp, devO, devR] at hdo
    have hD := dN0
    refine sT 23 [.cell 4 35, .tmp 5] Try.func64 fun w0 S0 ρ0 φ0 => ?_
    repeat' (first | apply W.seq | apply W.skip | refine W.region (id := 0) ?_ | refine W.region (id := 1) ?_ | refine W.region (id := 2) ?_ | apply W.block | apply N.code | apply N.blk | apply Sl.nil | apply W.exit | apply W.ret | apply E.hit | apply E.code | apply E.fin | refine zM ?_ | apply O.i | refine sP ?_ | refine sQ fun _ => ?_ | refine zg fun _ => ?_ | refine sX fun _ => ?_ | refine sPf ?_ | refine sPt ?_ | (refine k1 false [] c130 ?_; refine k2 (clone_ok (a := a)) ?_) | (refine k1 false [(1000000, 0, some 0), (1000001, 0, some 1)] c87 ?_; refine k2 (deviceOfO_ok (a := a)) ?_) | (refine k1 false [] c66 ?_; refine k2 (imDiskOk_ok h hPd) ?_) | (refine k1 false [(1000000, 0, none)] c88 ?_; refine k2 hdo ?_) | (focus (refine zs ?_ ?_; all_goals (intro hg; first | (exfalso; ((try simp [-List.getD_eq_getElem?_getD] at hg) <;> omega)) | ((first | subst hg | rw [hg] | skip); (focus (refine zj ?_ ?_; all_goals (intro hb; first | (exfalso; revert hb; decide) | ((try refine sA 14 ?_); (try refine sA 15 ?_); refine k1 false [(1000000, 0, none)] c88 ?_; refine k2 hdo ?_) | refine Sl.weak (Weak.refl _ _) ?_))))))) | refine zI ?_ ?_ | (intro hb; (try simp [-List.getD_eq_getElem?_getD] at hb); (try (exfalso; omega))))
    (refine gU (nmR 10) 0 2 2000000 ?_; refine gU (nmR 10) 0 3 2000001 ?_)
    repeat' (first | apply W.seq | apply W.skip | apply W.region | apply W.block | apply N.code | apply N.blk | apply Sl.nil | apply W.exit | apply W.ret | apply E.hit | apply E.code | apply E.fin | refine zM ?_ | apply O.i | refine sP ?_ | refine sQ fun _ => ?_ | refine zg fun _ => ?_ | refine sX fun _ => ?_ | refine sPf ?_ | refine sPt ?_ | (refine k1 false [] c130 ?_; refine k2 (clone_ok (a := a)) ?_) | (refine k1 false [(1000000, 0, some 0), (1000001, 0, some 1)] c87 ?_; refine k2 (deviceOfO_ok (a := a)) ?_) | (refine k1 false [] c66 ?_; refine k2 (imDiskOk_ok h hPd) ?_) | (refine k1 false [(1000000, 0, none)] c88 ?_; refine k2 hdo ?_) | (focus (refine zs ?_ ?_; all_goals (intro hg; first | (exfalso; ((try simp [-List.getD_eq_getElem?_getD] at hg) <;> omega)) | ((first | subst hg | rw [hg] | skip); (focus (refine zj ?_ ?_; all_goals (intro hb; first | (exfalso; revert hb; decide) | ((try refine sA 14 ?_); (try refine sA 15 ?_); refine k1 false [(1000000, 0, none)] c88 ?_; refine k2 hdo ?_) | refine Sl.weak (Weak.refl _ _) ?_))))))) | refine zI ?_ ?_ | (intro hb; (try simp [-List.getD_eq_getElem?_getD] at hb); (try (exfalso; omega))))
    exact rT
/-! ## The reference -/
theorem l1Do_ok {a : DiskA} {o : OpA} {b : Bool} (h : totDisk a < 2 ^ 40) (ho : o.Data.length < 2 ^ 40) (hd : inR a) (hP : b = true ↔ doOk a o) :
    TSpec Try.prog 140 [(1000000, .c 2 [oDisk a])] [.pt 1000000 0 0, .ag (fOp o)] false [(1000000, .c 2 [oDisk (if b then doA a o else a)])] (.pl (.bool b)) := by
  simp only [oDisk, fOp]
  have htot : totDisk a = (a.Safe.length + sumN List.length a.Safe) + (a.Pending.length + sumN totPend a.Pending) := rfl
  by_cases hk2 : o.Kind = 2
  · by_cases hok : doOk a o
    · obtain rfl : b = true := hP.mpr hok
      rw [if_pos rfl]
      have h2 : o.At = 0 ∧ o.Data.length = 0 := by
        unfold doOk at hok
        omega
      have hD := dN0
      have hD := dN0
      refine sT 99 [.tmp 4] Try.func140 fun w0 S0 ρ0 φ0 => ?_
      (refine gU 1000000 0 0 2000000 ?_; refine gU 1000000 0 1 2000001 ?_)
      repeat' (first | apply W.seq | apply W.skip | apply W.region | apply W.block | apply N.code | apply N.blk | apply Sl.nil | apply W.exit | apply W.ret | apply E.hit | apply E.code | apply E.fin | refine zM ?_ | apply O.i | refine sP ?_ | refine sQ fun _ => ?_ | refine zg fun _ => ?_ | refine sX fun _ => ?_ | refine sPf ?_ | refine sPt ?_ | refine sEN ?_ | (refine rD (id := 7) anyW [21] ?_; refine rP 0 false fun _ => ?_; refine rP 1 false fun _ => ?_; refine rP 2 false fun _ => ?_; refine rP 3 true fun _ => ?_; refine rP 4 false fun _ => ?_; refine rP 5 false fun _ => ?_; refine rP 6 false fun _ => ?_; refine rP 7 true fun _ => ?_; refine rP 8 false fun _ => ?_; refine rP 9 false fun _ => ?_; refine rP 10 false fun _ => ?_; refine rP 11 true fun _ => ?_; refine rP 12 false fun _ => ?_; refine rP 13 false fun _ => ?_; refine rP 14 false fun _ => ?_; refine rP 15 true fun _ => ?_; refine rP 16 false fun _ => ?_; refine rP 17 false fun _ => ?_; refine rP 18 false fun _ => ?_; refine rP 19 true fun _ => ?_; refine rP 20 false fun _ => ?_; refine rO 21 fun _ _ _ _ _ => ?_; refine sX fun _ => ?_; refine rE ?_) | (refine rD (id := 10) anyW [] ?_; refine rP 0 false fun _ => ?_; refine rP 1 true fun _ => ?_; refine rP 2 false fun _ => ?_; refine rP 3 false fun _ => ?_; refine rG 4 false fun _ => ?_; refine rG 5 true fun _ => ?_; refine rG 6 false fun _ => ?_; refine rP 7 false fun _ => ?_; refine rP 8 false fun _ => ?_; refine rG 9 false fun _ => ?_; refine rG 10 true fun _ => ?_; refine rG 11 false fun _ => ?_; refine rG 12 false fun _ => ?_; refine rG 13 false fun _ => ?_; refine rG 14 true fun _ => ?_; refine rG 15 false fun _ => ?_; refine rG 16 false fun _ => ?_; refine rP 17 false fun _ => ?_; refine rP 18 false fun _ => ?_; refine rG 19 false fun _ => ?_; refine rG 20 true fun _ => ?_; refine rG 21 false fun _ => ?_; refine rG 22 false fun _ => ?_; refine rP 23 false fun _ => ?_; refine rP 24 false fun _ => ?_; refine rG 25 false fun _ => ?_; refine rG 26 false fun _ => ?_; refine rG 27 false fun _ => ?_; refine rG 28 true fun _ => ?_; refine rG 29 false fun _ => ?_; refine rG 30 false fun _ => ?_; refine rP 31 false fun _ => ?_; refine rE ?_) | (refine rD (id := 12) anyW [12, 15] ?_; refine rP 0 false fun _ => ?_; refine rP 1 false fun _ => ?_; refine rP 2 false fun _ => ?_; refine rP 3 false fun _ => ?_; refine rP 4 true fun _ => ?_; refine rP 5 false fun _ => ?_; refine rP 6 true fun _ => ?_; refine rP 7 false fun _ => ?_; refine rP 8 true fun _ => ?_; refine rO 9 fun _ _ _ _ _ => ?_; refine k1 false [] c84 ?_; refine k2 l1Bytes_ok ?_; refine rP 10 false fun _ => ?_; refine rO 11 fun _ _ _ _ _ => ?_; refine sX fun _ => ?_; refine rO 12 fun _ _ _ _ _ => ?_; refine sX fun _ => ?_; refine rP 13 false fun _ => ?_; refine rP 14 false fun _ => ?_; refine rO 15 fun _ _ _ _ _ => ?_; refine sX fun _ => ?_; refine rE ?_) | refine zI ?_ ?_ | (intro hb; (try simp [-List.getD_eq_getElem?_getD] at hb); (try (exfalso; omega))))
      · exfalso
        rcases hb with hb | hb
        · exact hb h2.1
        · exact hb (List.eq_nil_of_length_eq_zero h2.2)
      have hz := goneP_zero a.Pending
      have hD := And.intro (hz) (@nowN_zero)
      refine W.iter (fun k => ⟨99, [(0, .pt 1000000 0 0), (5, .pl (.int .i64 k))], [(1000000, .c 2 [[.sl 2000000 0 a.Safe.length, .sl 2000001 0 a.Pending.length]]), (2000000, .c 1 (encL oB (nowN a k))), (2000001, .c 2 (goneP a.Pending k))], []⟩) (fun k => True) (a.Pending.length) (Weak.to (by first | rfl | (simp only [virtAt_n, virt_n]; rfl)) ?s3 ?b3 (by exact dfe)) ?h3 (fun k hk hH => ?body3)
      (try case' s3 => first | exact to1 | (simp +decide only [go_sem]; (try simp (disch := first | exact ds | fail) only [go_sem, Nat.reduceAdd, Nat.reduceMul, Nat.reduceSub, Int.reduceToNat, Int.reduceNeg, Nat.reduceLeDiff, hD]); (try simp only [SV.pl.injEq, SV.sl.injEq, Value.int.injEq, Bk.c.injEq, encI_inj, true_and]); (try omega))); (try case' b3 => first | exact to1 | (simp +decide only [go_sem]; (try simp (disch := first | exact ds | fail) only [go_sem, Nat.reduceAdd, Nat.reduceMul, Nat.reduceSub, Int.reduceToNat, Int.reduceNeg, Nat.reduceLeDiff, hD]); (try simp only [SV.pl.injEq, SV.sl.injEq, Value.int.injEq, Bk.c.injEq, encI_inj, true_and]); (try omega))); (try case' h3 => first | exact to1 | (simp +decide only [go_sem]; (try simp (disch := first | exact ds | fail) only [go_sem, Nat.reduceAdd, Nat.reduceMul, Nat.reduceSub, Int.reduceToNat, Int.reduceNeg, Nat.reduceLeDiff, hD]); (try simp only [SV.pl.injEq, SV.sl.injEq, Value.int.injEq, Bk.c.injEq, encI_inj, true_and]); (try omega)))
      have hgl := goneP_len a.Pending k hk
      have hD := (hgl)
      repeat' (first | apply W.seq | apply W.skip | refine W.region (id := 0) ?_ | refine W.region (id := 1) ?_ | refine W.region (id := 2) ?_ | refine W.region (id := 3) ?_ | refine W.region (id := 4) ?_ | refine W.region (id := 5) ?_ | refine W.region (id := 6) ?_ | refine W.region (id := 8) ?_ | refine W.region (id := 9) ?_ | refine W.region (id := 11) ?_ | refine W.region (id := 13) ?_ | apply W.block | apply N.code | apply N.blk | apply Sl.nil | apply W.exit | apply W.ret | apply E.hit | apply E.code | apply E.fin | refine zM ?_ | apply O.i | refine sP ?_ | refine sQ fun _ => ?_ | refine zg fun _ => ?_ | refine sX fun _ => ?_ | refine sPf ?_ | refine sPt ?_ | refine sEN ?_ | (refine rD (id := 10) anyW [] ?_; refine rP 0 false fun _ => ?_; refine rP 1 true fun _ => ?_; refine rP 2 false fun _ => ?_; refine rP 3 false fun _ => ?_; refine rG 4 false fun _ => ?_; refine rG 5 true fun _ => ?_; refine rG 6 false fun _ => ?_; refine rP 7 false fun _ => ?_; refine rP 8 false fun _ => ?_; refine rG 9 false fun _ => ?_; refine rG 10 true fun _ => ?_; refine rG 11 false fun _ => ?_; refine rG 12 false fun _ => ?_; refine rG 13 false fun _ => ?_; refine rG 14 true fun _ => ?_; refine rG 15 false fun _ => ?_; refine rG 16 false fun _ => ?_; refine rP 17 false fun _ => ?_; refine rP 18 false fun _ => ?_; refine rG 19 false fun _ => ?_; refine rG 20 true fun _ => ?_; refine rG 21 false fun _ => ?_; refine rG 22 false fun _ => ?_; refine rP 23 false fun _ => ?_; refine rP 24 false fun _ => ?_; refine rG 25 false fun _ => ?_; refine rG 26 false fun _ => ?_; refine rG 27 false fun _ => ?_; refine rG 28 true fun _ => ?_; refine rG 29 false fun _ => ?_; refine rG 30 false fun _ => ?_; refine rP 31 false fun _ => ?_; refine rE ?_) | (refine rD (id := 12) anyW [12, 15] ?_; refine rP 0 false fun _ => ?_; refine rP 1 false fun _ => ?_; refine rP 2 false fun _ => ?_; refine rP 3 false fun _ => ?_; refine rP 4 true fun _ => ?_; refine rP 5 false fun _ => ?_; refine rP 6 true fun _ => ?_; refine rP 7 false fun _ => ?_; refine rP 8 true fun _ => ?_; refine rO 9 fun _ _ _ _ _ => ?_; refine k1 false [] c84 ?_; refine k2 l1Bytes_ok ?_; refine rP 10 false fun _ => ?_; refine rO 11 fun _ _ _ _ _ => ?_; refine sX fun _ => ?_; refine rO 12 fun _ _ _ _ _ => ?_; refine sX fun _ => ?_; refine rP 13 false fun _ => ?_; refine rP 14 false fun _ => ?_; refine rO 15 fun _ _ _ _ _ => ?_; refine sX fun _ => ?_; refine rE ?_) | refine zI ?_ ?_ | (intro hb; (try simp [-List.getD_eq_getElem?_getD] at hb); (try (exfalso; omega))))
      · have hg := goneP_get a.Pending k hb
        have hg2 := goneP_set a.Pending k hb
        have hp := hd k hb
        have hln := nowN_len a k
        have hst : (encL oB (nowN a k)).set (a.Pending.getD k default).At.toNat [.ow 1 (encI .u8 (a.Pending.getD k default).Data)] = encL oB (nowN a (k + 1)) := setO_step _ _ _
        have hD := And.intro (hgl) (And.intro (hg) (And.intro (hg2) (And.intro (hln) ((hst)))))
        (refine gU 2000001 k 1 2000010 ?_)
        repeat' (first | apply W.seq | apply W.skip | apply W.region | apply W.block | apply N.code | apply N.blk | apply Sl.nil | apply W.exit | apply W.ret | apply E.hit | apply E.code | apply E.fin | refine zM ?_ | apply O.i | refine sP ?_ | refine sQ fun _ => ?_ | refine zg fun _ => ?_ | refine sX fun _ => ?_ | refine sPf ?_ | refine sPt ?_ | refine sEN ?_ | (refine rD (id := 7) anyW [21] ?_; refine rP 0 false fun _ => ?_; refine rP 1 false fun _ => ?_; refine rP 2 false fun _ => ?_; refine rP 3 true fun _ => ?_; refine rP 4 false fun _ => ?_; refine rP 5 false fun _ => ?_; refine rP 6 false fun _ => ?_; refine rP 7 true fun _ => ?_; refine rP 8 false fun _ => ?_; refine rP 9 false fun _ => ?_; refine rP 10 false fun _ => ?_; refine rP 11 true fun _ => ?_; refine rP 12 false fun _ => ?_; refine rP 13 false fun _ => ?_; refine rP 14 false fun _ => ?_; refine rP 15 true fun _ => ?_; refine rP 16 false fun _ => ?_; refine rP 17 false fun _ => ?_; refine rP 18 false fun _ => ?_; refine rP 19 true fun _ => ?_; refine rP 20 false fun _ => ?_; refine rO 21 fun _ _ _ _ _ => ?_; refine sX fun _ => ?_; refine rE ?_) | (refine rD (id := 10) anyW [] ?_; refine rP 0 false fun _ => ?_; refine rP 1 true fun _ => ?_; refine rP 2 false fun _ => ?_; refine rP 3 false fun _ => ?_; refine rG 4 false fun _ => ?_; refine rG 5 true fun _ => ?_; refine rG 6 false fun _ => ?_; refine rP 7 false fun _ => ?_; refine rP 8 false fun _ => ?_; refine rG 9 false fun _ => ?_; refine rG 10 true fun _ => ?_; refine rG 11 false fun _ => ?_; refine rG 12 false fun _ => ?_; refine rG 13 false fun _ => ?_; refine rG 14 true fun _ => ?_; refine rG 15 false fun _ => ?_; refine rG 16 false fun _ => ?_; refine rP 17 false fun _ => ?_; refine rP 18 false fun _ => ?_; refine rG 19 false fun _ => ?_; refine rG 20 true fun _ => ?_; refine rG 21 false fun _ => ?_; refine rG 22 false fun _ => ?_; refine rP 23 false fun _ => ?_; refine rP 24 false fun _ => ?_; refine rG 25 false fun _ => ?_; refine rG 26 false fun _ => ?_; refine rG 27 false fun _ => ?_; refine rG 28 true fun _ => ?_; refine rG 29 false fun _ => ?_; refine rG 30 false fun _ => ?_; refine rP 31 false fun _ => ?_; refine rE ?_) | (refine rD (id := 12) anyW [12, 15] ?_; refine rP 0 false fun _ => ?_; refine rP 1 false fun _ => ?_; refine rP 2 false fun _ => ?_; refine rP 3 false fun _ => ?_; refine rP 4 true fun _ => ?_; refine rP 5 false fun _ => ?_; refine rP 6 true fun _ => ?_; refine rP 7 false fun _ => ?_; refine rP 8 true fun _ => ?_; refine rO 9 fun _ _ _ _ _ => ?_; refine k1 false [] c84 ?_; refine k2 l1Bytes_ok ?_; refine rP 10 false fun _ => ?_; refine rO 11 fun _ _ _ _ _ => ?_; refine sX fun _ => ?_; refine rO 12 fun _ _ _ _ _ => ?_; refine sX fun _ => ?_; refine rP 13 false fun _ => ?_; refine rP 14 false fun _ => ?_; refine rO 15 fun _ _ _ _ _ => ?_; refine sX fun _ => ?_; refine rE ?_) | refine zI ?_ ?_ | (intro hb; (try simp [-List.getD_eq_getElem?_getD] at hb); (try (exfalso; omega))))
        (refine N.fin ⟨by omega, ?h4, ?w4⟩; case' w4 => (refine eF 2000000 ((a.Pending.getD k default).At.toNat) 0 ?_; refine Weak.to (by first | rfl | (simp only [virtAt_n, virt_n]; rfl)) ?s4 ?b4 (by exact dfe)))
        (try case' s4 => first | exact to1 | (simp +decide only [go_sem]; (try simp (disch := first | exact ds | fail) only [go_sem, Nat.reduceAdd, Nat.reduceMul, Nat.reduceSub, Int.reduceToNat, Int.reduceNeg, Nat.reduceLeDiff, hD]); (try simp only [SV.pl.injEq, SV.sl.injEq, Value.int.injEq, Bk.c.injEq, encI_inj, true_and]); (try omega))); (try case' b4 => first | exact to1 | (simp +decide only [go_sem]; (try simp (disch := first | exact ds | fail) only [go_sem, Nat.reduceAdd, Nat.reduceMul, Nat.reduceSub, Int.reduceToNat, Int.reduceNeg, Nat.reduceLeDiff, hD]); (try simp only [SV.pl.injEq, SV.sl.injEq, Value.int.injEq, Bk.c.injEq, encI_inj, true_and]); (try omega))); (try case' h4 => first | exact to1 | (simp +decide only [go_sem]; (try simp (disch := first | exact ds | fail) only [go_sem, Nat.reduceAdd, Nat.reduceMul, Nat.reduceSub, Int.reduceToNat, Int.reduceNeg, Nat.reduceLeDiff, hD]); (try simp only [SV.pl.injEq, SV.sl.injEq, Value.int.injEq, Bk.c.injEq, encI_inj, true_and]); (try omega)))
      obtain rfl : k = a.Pending.length := by omega
      rw [show doA a o = ⟨nowN a a.Pending.length, []⟩ from if_neg (by omega)]
      have hln := nowN_len a a.Pending.length
      have hD := And.intro (hln) (@encL_nil)
      repeat' (first | apply W.seq | apply W.skip | apply W.region | apply W.block | apply N.code | apply N.blk | apply Sl.nil | apply W.exit | apply W.ret | apply E.hit | apply E.code | apply E.fin | refine zM ?_ | apply O.i | refine sP ?_ | refine sQ fun _ => ?_ | refine zg fun _ => ?_ | refine sX fun _ => ?_ | refine sPf ?_ | refine sPt ?_ | refine sEN ?_ | (refine rD (id := 7) anyW [21] ?_; refine rP 0 false fun _ => ?_; refine rP 1 false fun _ => ?_; refine rP 2 false fun _ => ?_; refine rP 3 true fun _ => ?_; refine rP 4 false fun _ => ?_; refine rP 5 false fun _ => ?_; refine rP 6 false fun _ => ?_; refine rP 7 true fun _ => ?_; refine rP 8 false fun _ => ?_; refine rP 9 false fun _ => ?_; refine rP 10 false fun _ => ?_; refine rP 11 true fun _ => ?_; refine rP 12 false fun _ => ?_; refine rP 13 false fun _ => ?_; refine rP 14 false fun _ => ?_; refine rP 15 true fun _ => ?_; refine rP 16 false fun _ => ?_; refine rP 17 false fun _ => ?_; refine rP 18 false fun _ => ?_; refine rP 19 true fun _ => ?_; refine rP 20 false fun _ => ?_; refine rO 21 fun _ _ _ _ _ => ?_; refine sX fun _ => ?_; refine rE ?_) | (refine rD (id := 10) anyW [] ?_; refine rP 0 false fun _ => ?_; refine rP 1 true fun _ => ?_; refine rP 2 false fun _ => ?_; refine rP 3 false fun _ => ?_; refine rG 4 false fun _ => ?_; refine rG 5 true fun _ => ?_; refine rG 6 false fun _ => ?_; refine rP 7 false fun _ => ?_; refine rP 8 false fun _ => ?_; refine rG 9 false fun _ => ?_; refine rG 10 true fun _ => ?_; refine rG 11 false fun _ => ?_; refine rG 12 false fun _ => ?_; refine rG 13 false fun _ => ?_; refine rG 14 true fun _ => ?_; refine rG 15 false fun _ => ?_; refine rG 16 false fun _ => ?_; refine rP 17 false fun _ => ?_; refine rP 18 false fun _ => ?_; refine rG 19 false fun _ => ?_; refine rG 20 true fun _ => ?_; refine rG 21 false fun _ => ?_; refine rG 22 false fun _ => ?_; refine rP 23 false fun _ => ?_; refine rP 24 false fun _ => ?_; refine rG 25 false fun _ => ?_; refine rG 26 false fun _ => ?_; refine rG 27 false fun _ => ?_; refine rG 28 true fun _ => ?_; refine rG 29 false fun _ => ?_; refine rG 30 false fun _ => ?_; refine rP 31 false fun _ => ?_; refine rE ?_) | (refine rD (id := 12) anyW [12, 15] ?_; refine rP 0 false fun _ => ?_; refine rP 1 false fun _ => ?_; refine rP 2 false fun _ => ?_; refine rP 3 false fun _ => ?_; refine rP 4 true fun _ => ?_; refine rP 5 false fun _ => ?_; refine rP 6 true fun _ => ?_; refine rP 7 false fun _ => ?_; refine rP 8 true fun _ => ?_; refine rO 9 fun _ _ _ _ _ => ?_; refine k1 false [] c84 ?_; refine k2 l1Bytes_ok ?_; refine rP 10 false fun _ => ?_; refine rO 11 fun _ _ _ _ _ => ?_; refine sX fun _ => ?_; refine rO 12 fun _ _ _ _ _ => ?_; refine sX fun _ => ?_; refine rP 13 false fun _ => ?_; refine rP 14 false fun _ => ?_; refine rO 15 fun _ _ _ _ _ => ?_; refine sX fun _ => ?_; refine rE ?_) | refine zI ?_ ?_ | (intro hb; (try simp [-List.getD_eq_getElem?_getD] at hb); (try (exfalso; omega))))
      (refine hF 1000000 0 0 ?_; refine hF 1000000 0 1 ?_)
      exact rT
    · obtain rfl : b = false := Bool.eq_false_iff.mpr fun e => hok (hP.mp e)
      rw [if_neg (by simp)]
      have h2 : ¬ (o.At = 0 ∧ o.Data.length = 0) := by
        unfold doOk at hok
        omega
      have hD := dN0
      have hD := dN0
      refine sT 99 [.tmp 4] Try.func140 fun w0 S0 ρ0 φ0 => ?_
      repeat' (first | apply W.seq | apply W.skip | apply W.region | apply W.block | apply N.code | apply N.blk | apply Sl.nil | apply W.exit | apply W.ret | apply E.hit | apply E.code | apply E.fin | refine zM ?_ | apply O.i | refine sP ?_ | refine sQ fun _ => ?_ | refine zg fun _ => ?_ | refine sX fun _ => ?_ | refine sPf ?_ | refine sPt ?_ | refine sEN ?_ | (refine rD (id := 7) anyW [21] ?_; refine rP 0 false fun _ => ?_; refine rP 1 false fun _ => ?_; refine rP 2 false fun _ => ?_; refine rP 3 true fun _ => ?_; refine rP 4 false fun _ => ?_; refine rP 5 false fun _ => ?_; refine rP 6 false fun _ => ?_; refine rP 7 true fun _ => ?_; refine rP 8 false fun _ => ?_; refine rP 9 false fun _ => ?_; refine rP 10 false fun _ => ?_; refine rP 11 true fun _ => ?_; refine rP 12 false fun _ => ?_; refine rP 13 false fun _ => ?_; refine rP 14 false fun _ => ?_; refine rP 15 true fun _ => ?_; refine rP 16 false fun _ => ?_; refine rP 17 false fun _ => ?_; refine rP 18 false fun _ => ?_; refine rP 19 true fun _ => ?_; refine rP 20 false fun _ => ?_; refine rO 21 fun _ _ _ _ _ => ?_; refine sX fun _ => ?_; refine rE ?_) | (refine rD (id := 10) anyW [] ?_; refine rP 0 false fun _ => ?_; refine rP 1 true fun _ => ?_; refine rP 2 false fun _ => ?_; refine rP 3 false fun _ => ?_; refine rG 4 false fun _ => ?_; refine rG 5 true fun _ => ?_; refine rG 6 false fun _ => ?_; refine rP 7 false fun _ => ?_; refine rP 8 false fun _ => ?_; refine rG 9 false fun _ => ?_; refine rG 10 true fun _ => ?_; refine rG 11 false fun _ => ?_; refine rG 12 false fun _ => ?_; refine rG 13 false fun _ => ?_; refine rG 14 true fun _ => ?_; refine rG 15 false fun _ => ?_; refine rG 16 false fun _ => ?_; refine rP 17 false fun _ => ?_; refine rP 18 false fun _ => ?_; refine rG 19 false fun _ => ?_; refine rG 20 true fun _ => ?_; refine rG 21 false fun _ => ?_; refine rG 22 false fun _ => ?_; refine rP 23 false fun _ => ?_; refine rP 24 false fun _ => ?_; refine rG 25 false fun _ => ?_; refine rG 26 false fun _ => ?_; refine rG 27 false fun _ => ?_; refine rG 28 true fun _ => ?_; refine rG 29 false fun _ => ?_; refine rG 30 false fun _ => ?_; refine rP 31 false fun _ => ?_; refine rE ?_) | (refine rD (id := 12) anyW [12, 15] ?_; refine rP 0 false fun _ => ?_; refine rP 1 false fun _ => ?_; refine rP 2 false fun _ => ?_; refine rP 3 false fun _ => ?_; refine rP 4 true fun _ => ?_; refine rP 5 false fun _ => ?_; refine rP 6 true fun _ => ?_; refine rP 7 false fun _ => ?_; refine rP 8 true fun _ => ?_; refine rO 9 fun _ _ _ _ _ => ?_; refine k1 false [] c84 ?_; refine k2 l1Bytes_ok ?_; refine rP 10 false fun _ => ?_; refine rO 11 fun _ _ _ _ _ => ?_; refine sX fun _ => ?_; refine rO 12 fun _ _ _ _ _ => ?_; refine sX fun _ => ?_; refine rP 13 false fun _ => ?_; refine rP 14 false fun _ => ?_; refine rO 15 fun _ _ _ _ _ => ?_; refine sX fun _ => ?_; refine rE ?_) | refine zI ?_ ?_ | (intro hb; (try simp [-List.getD_eq_getElem?_getD] at hb); (try (exfalso; omega))))
      · exact rT
      · exact absurd ⟨hb.1, by rw [hb.2]; rfl⟩ h2
  by_cases hok : doOk a o
  · obtain rfl : b = true := hP.mpr hok
    rw [if_pos rfl]
    have h2 : o.Kind = 1 ∧ 0 ≤ o.At ∧ o.At < a.Safe.length ∧ o.Data.length = 64 ∧ a.Pending.length < 5000 := by
      unfold doOk at hok
      omega
    have hst : encL oPend a.Pending ++ [[.pl (.int .i64 o.At), .ow 1 (encI .u8 o.Data)]] = encL oPend (a.Pending ++ [⟨o.At, o.Data⟩]) := by
      rw [← encL_append]
      rfl
    rw [show doA a o = ⟨a.Safe, a.Pending ++ [⟨o.At, o.Data⟩]⟩ from if_pos h2.1]
    have hD := (hst)
    have hD := (hst)
    refine sT 99 [.tmp 4] Try.func140 fun w0 S0 ρ0 φ0 => ?_
    (refine gU 1000000 0 0 2000000 ?_; refine gU 1000000 0 1 2000001 ?_)
    repeat' (first | apply W.seq | apply W.skip | apply W.region | apply W.block | apply N.code | apply N.blk | apply Sl.nil | apply W.exit | apply W.ret | apply E.hit | apply E.code | apply E.fin | refine zM ?_ | apply O.i | refine sP ?_ | refine sQ fun _ => ?_ | refine zg fun _ => ?_ | refine sX fun _ => ?_ | refine sPf ?_ | refine sPt ?_ | refine sEN ?_ | (refine rD (id := 7) anyW [21] ?_; refine rP 0 false fun _ => ?_; refine rP 1 false fun _ => ?_; refine rP 2 false fun _ => ?_; refine rP 3 true fun _ => ?_; refine rP 4 false fun _ => ?_; refine rP 5 false fun _ => ?_; refine rP 6 false fun _ => ?_; refine rP 7 true fun _ => ?_; refine rP 8 false fun _ => ?_; refine rP 9 false fun _ => ?_; refine rP 10 false fun _ => ?_; refine rP 11 true fun _ => ?_; refine rP 12 false fun _ => ?_; refine rP 13 false fun _ => ?_; refine rP 14 false fun _ => ?_; refine rP 15 true fun _ => ?_; refine rP 16 false fun _ => ?_; refine rP 17 false fun _ => ?_; refine rP 18 false fun _ => ?_; refine rP 19 true fun _ => ?_; refine rP 20 false fun _ => ?_; refine rO 21 fun _ _ _ _ _ => ?_; refine sX fun _ => ?_; refine rE ?_) | (refine rD (id := 10) anyW [] ?_; refine rP 0 false fun _ => ?_; refine rP 1 true fun _ => ?_; refine rP 2 false fun _ => ?_; refine rP 3 false fun _ => ?_; refine rG 4 false fun _ => ?_; refine rG 5 true fun _ => ?_; refine rG 6 false fun _ => ?_; refine rP 7 false fun _ => ?_; refine rP 8 false fun _ => ?_; refine rG 9 false fun _ => ?_; refine rG 10 true fun _ => ?_; refine rG 11 false fun _ => ?_; refine rG 12 false fun _ => ?_; refine rG 13 false fun _ => ?_; refine rG 14 true fun _ => ?_; refine rG 15 false fun _ => ?_; refine rG 16 false fun _ => ?_; refine rP 17 false fun _ => ?_; refine rP 18 false fun _ => ?_; refine rG 19 false fun _ => ?_; refine rG 20 true fun _ => ?_; refine rG 21 false fun _ => ?_; refine rG 22 false fun _ => ?_; refine rP 23 false fun _ => ?_; refine rP 24 false fun _ => ?_; refine rG 25 false fun _ => ?_; refine rG 26 false fun _ => ?_; refine rG 27 false fun _ => ?_; refine rG 28 true fun _ => ?_; refine rG 29 false fun _ => ?_; refine rG 30 false fun _ => ?_; refine rP 31 false fun _ => ?_; refine rE ?_) | (refine rD (id := 12) anyW [12, 15] ?_; refine rP 0 false fun _ => ?_; refine rP 1 false fun _ => ?_; refine rP 2 false fun _ => ?_; refine rP 3 false fun _ => ?_; refine rP 4 true fun _ => ?_; refine rP 5 false fun _ => ?_; refine rP 6 true fun _ => ?_; refine rP 7 false fun _ => ?_; refine rP 8 true fun _ => ?_; refine rO 9 fun _ _ _ _ _ => ?_; refine k1 false [] c84 ?_; refine k2 l1Bytes_ok ?_; refine rP 10 false fun _ => ?_; refine rO 11 fun _ _ _ _ _ => ?_; refine sX fun _ => ?_; refine rO 12 fun _ _ _ _ _ => ?_; refine sX fun _ => ?_; refine rP 13 false fun _ => ?_; refine rP 14 false fun _ => ?_; refine rO 15 fun _ _ _ _ _ => ?_; refine sX fun _ => ?_; refine rE ?_) | refine zI ?_ ?_ | (intro hb; (try simp [-List.getD_eq_getElem?_getD] at hb); (try (exfalso; omega))))
    (refine hF 96 a.Pending.length 1 ?_; refine hF 1000000 0 0 ?_; refine hF 1000000 0 1 ?_)
    exact rT
  · obtain rfl : b = false := Bool.eq_false_iff.mpr fun e => hok (hP.mp e)
    rw [if_neg (by simp)]
    have h2 : ¬ (o.Kind = 1 ∧ 0 ≤ o.At ∧ o.At < a.Safe.length ∧ o.Data.length = 64 ∧ a.Pending.length < 5000) := by
      unfold doOk at hok
      omega
    have hD := dN0
    have hD := dN0
    refine sT 99 [.tmp 4] Try.func140 fun w0 S0 ρ0 φ0 => ?_
    (refine gU 1000000 0 0 2000000 ?_; refine gU 1000000 0 1 2000001 ?_)
    repeat' (first | apply W.seq | apply W.skip | apply W.region | apply W.block | apply N.code | apply N.blk | apply Sl.nil | apply W.exit | apply W.ret | apply E.hit | apply E.code | apply E.fin | refine zM ?_ | apply O.i | refine sP ?_ | refine sQ fun _ => ?_ | refine zg fun _ => ?_ | refine sX fun _ => ?_ | refine sPf ?_ | refine sPt ?_ | refine sEN ?_ | (refine rD (id := 7) anyW [21] ?_; refine rP 0 false fun _ => ?_; refine rP 1 false fun _ => ?_; refine rP 2 false fun _ => ?_; refine rP 3 true fun _ => ?_; refine rP 4 false fun _ => ?_; refine rP 5 false fun _ => ?_; refine rP 6 false fun _ => ?_; refine rP 7 true fun _ => ?_; refine rP 8 false fun _ => ?_; refine rP 9 false fun _ => ?_; refine rP 10 false fun _ => ?_; refine rP 11 true fun _ => ?_; refine rP 12 false fun _ => ?_; refine rP 13 false fun _ => ?_; refine rP 14 false fun _ => ?_; refine rP 15 true fun _ => ?_; refine rP 16 false fun _ => ?_; refine rP 17 false fun _ => ?_; refine rP 18 false fun _ => ?_; refine rP 19 true fun _ => ?_; refine rP 20 false fun _ => ?_; refine rO 21 fun _ _ _ _ _ => ?_; refine sX fun _ => ?_; refine rE ?_) | (refine rD (id := 10) anyW [] ?_; refine rP 0 false fun _ => ?_; refine rP 1 true fun _ => ?_; refine rP 2 false fun _ => ?_; refine rP 3 false fun _ => ?_; refine rG 4 false fun _ => ?_; refine rG 5 true fun _ => ?_; refine rG 6 false fun _ => ?_; refine rP 7 false fun _ => ?_; refine rP 8 false fun _ => ?_; refine rG 9 false fun _ => ?_; refine rG 10 true fun _ => ?_; refine rG 11 false fun _ => ?_; refine rG 12 false fun _ => ?_; refine rG 13 false fun _ => ?_; refine rG 14 true fun _ => ?_; refine rG 15 false fun _ => ?_; refine rG 16 false fun _ => ?_; refine rP 17 false fun _ => ?_; refine rP 18 false fun _ => ?_; refine rG 19 false fun _ => ?_; refine rG 20 true fun _ => ?_; refine rG 21 false fun _ => ?_; refine rG 22 false fun _ => ?_; refine rP 23 false fun _ => ?_; refine rP 24 false fun _ => ?_; refine rG 25 false fun _ => ?_; refine rG 26 false fun _ => ?_; refine rG 27 false fun _ => ?_; refine rG 28 true fun _ => ?_; refine rG 29 false fun _ => ?_; refine rG 30 false fun _ => ?_; refine rP 31 false fun _ => ?_; refine rE ?_) | (refine rD (id := 12) anyW [12, 15] ?_; refine rP 0 false fun _ => ?_; refine rP 1 false fun _ => ?_; refine rP 2 false fun _ => ?_; refine rP 3 false fun _ => ?_; refine rP 4 true fun _ => ?_; refine rP 5 false fun _ => ?_; refine rP 6 true fun _ => ?_; refine rP 7 false fun _ => ?_; refine rP 8 true fun _ => ?_; refine rO 9 fun _ _ _ _ _ => ?_; refine k1 false [] c84 ?_; refine k2 l1Bytes_ok ?_; refine rP 10 false fun _ => ?_; refine rO 11 fun _ _ _ _ _ => ?_; refine sX fun _ => ?_; refine rO 12 fun _ _ _ _ _ => ?_; refine sX fun _ => ?_; refine rP 13 false fun _ => ?_; refine rP 14 false fun _ => ?_; refine rO 15 fun _ _ _ _ _ => ?_; refine sX fun _ => ?_; refine rE ?_) | refine zI ?_ ?_ | (intro hb; (try simp [-List.getD_eq_getElem?_getD] at hb); (try (exfalso; omega))))
    (refine hF 1000000 0 0 ?_; refine hF 1000000 0 1 ?_)
    exact rT
theorem spDo_ok {a : DiskA} {o : OpA} {db b : Bool} (h : totDisk a < 2 ^ 40) (ho : o.Data.length < 2 ^ 40) (hPd : db = true ↔ diskOk a) (hP : b = true ↔ doOk a o) :
    TSpec Try.prog 63 [] [.ag (fDisk a), .ag (fOp o)] false [] (.tu [.ag (oDisk (if db && b then doA a o else a)), .pl (.bool (db && b))]) := by
  simp only [fDisk, fOp, oDisk]
  have htot : totDisk a = (a.Safe.length + sumN List.length a.Safe) + (a.Pending.length + sumN totPend a.Pending) := rfl
  cases db with
  | false =>
    rw [Bool.false_and, if_neg (by simp)]
    have hD := dN0
    refine sT 18 [.cell 4 35, .tmp 5] Try.func63 fun w0 S0 ρ0 φ0 => ?_
    repeat' (first | apply W.seq | apply W.skip | apply W.region | apply W.block | apply N.code | apply N.blk | apply Sl.nil | apply W.exit | apply W.ret | apply E.hit | apply E.code | apply E.fin | refine zM ?_ | apply O.i | refine sP ?_ | refine sQ fun _ => ?_ | refine sX fun _ => ?_ | (refine k1 false [] c136 ?_; refine k2 (l1Copy_ok (a := a)) ?_) | (refine k1 false [] c67 ?_; refine k2 (spDiskOk_ok h hPd) ?_) | (refine k1 false [(1000000, 0, none)] c140 ?_; refine k2 hdo ?_) | (refine lF 6 0 0 ?_; refine lF 6 0 1 ?_; refine k1 false [(1000000, 0, none)] c140 ?_; refine k2 hdo ?_) | refine zI ?_ ?_ | (intro hb; (try simp [-List.getD_eq_getElem?_getD] at hb); (try (exfalso; omega))))
    exact rT
  | true =>
    have hdo := l1Do_ok (a := a) (o := o) h ho (diskOk_inR (hPd.mp rfl)) hP
    obtain ⟨a', ha'⟩ : ∃ a', a' = if b then doA a o else a := ⟨_, rfl⟩
    rw [← ha'] at hdo
    rw [Bool.true_and, ← ha']
    simp only [fOp, oDisk] at hdo
    have hD := dN0
    refine sT 18 [.cell 4 35, .tmp 5] Try.func63 fun w0 S0 ρ0 φ0 => ?_
    repeat' (first | apply W.seq | apply W.skip | refine W.region (id := 0) ?_ | refine W.region (id := 1) ?_ | refine W.region (id := 2) ?_ | refine W.region (id := 3) ?_ | refine W.region (id := 4) ?_ | apply W.block | apply N.code | apply N.blk | apply Sl.nil | apply W.exit | apply W.ret | apply E.hit | apply E.code | apply E.fin | refine zM ?_ | apply O.i | refine sP ?_ | refine sQ fun _ => ?_ | refine sX fun _ => ?_ | (refine k1 false [] c136 ?_; refine k2 (l1Copy_ok (a := a)) ?_) | (refine k1 false [] c67 ?_; refine k2 (spDiskOk_ok h hPd) ?_) | (refine k1 false [(1000000, 0, none)] c140 ?_; refine k2 hdo ?_) | (refine lF 6 0 0 ?_; refine lF 6 0 1 ?_; refine k1 false [(1000000, 0, none)] c140 ?_; refine k2 hdo ?_) | refine zI ?_ ?_ | (intro hb; (try simp [-List.getD_eq_getElem?_getD] at hb); (try (exfalso; omega))))
    (refine gU 6 0 0 2000000 ?_; refine gU 6 0 1 2000001 ?_)
    repeat' (first | apply W.seq | apply W.skip | apply W.region | apply W.block | apply N.code | apply N.blk | apply Sl.nil | apply W.exit | apply W.ret | apply E.hit | apply E.code | apply E.fin | refine zM ?_ | apply O.i | refine sP ?_ | refine sQ fun _ => ?_ | refine sX fun _ => ?_ | (refine k1 false [] c136 ?_; refine k2 (l1Copy_ok (a := a)) ?_) | (refine k1 false [] c67 ?_; refine k2 (spDiskOk_ok h hPd) ?_) | (refine k1 false [(1000000, 0, none)] c140 ?_; refine k2 hdo ?_) | (refine lF 6 0 0 ?_; refine lF 6 0 1 ?_; refine k1 false [(1000000, 0, none)] c140 ?_; refine k2 hdo ?_) | refine zI ?_ ?_ | (intro hb; (try simp [-List.getD_eq_getElem?_getD] at hb); (try (exfalso; omega))))
    exact rT
/-! ## The law -/
theorem sumN_bound {α : Type} [Inhabited α] (f : α → Nat) (c : Nat) : ∀ xs : List α, (∀ i, i < xs.length → f (xs.getD i default) ≤ c) → sumN f xs ≤ c * xs.length
  | [], _ => by simp [sumN]
  | x :: xs, h => by
    have h0 := h 0 (by simp)
    have ih := sumN_bound f c xs fun i hi => by simpa using h (i + 1) (by simpa using hi)
    simp only [List.getD_cons_zero] at h0
    rw [sumN, List.length_cons, Nat.mul_succ]
    omega
theorem diskOk_tot {a : DiskA} (h : diskOk a) : totDisk a ≤ 600000 := by
  have htot : totDisk a = (a.Safe.length + sumN List.length a.Safe) + (a.Pending.length + sumN totPend a.Pending) := rfl
  have h1 := sumN_bound List.length 64 a.Safe fun i hi => Nat.le_of_eq (h.2.2.2.1 i hi)
  have h2 := sumN_bound totPend 64 a.Pending fun i hi => Nat.le_of_eq (h.2.2.2.2 i hi).2.2
  have h3 := h.2.1
  have h4 := h.2.2.1
  omega
theorem nowN_safe {a : DiskA} (h : diskOk a) : ∀ k, k ≤ a.Pending.length → ∀ i, i < a.Safe.length → ((nowN a k).getD i default).length = 64
  | 0, _, i, hi => h.2.2.2.1 i hi
  | k + 1, hk, i, hi => by
    have ih := nowN_safe h k (by omega) i hi
    rw [nowN, List.getD_eq_getElem?_getD, List.getElem?_set]
    have hp := h.2.2.2.2 k (by omega)
    split
    · rw [if_pos (by rw [nowN_len]; have := hp.2.1; have := hp.1; omega)]
      exact hp.2.2
    · rw [← List.getD_eq_getElem?_getD]
      exact ih
theorem doA_ok {a : DiskA} {o : OpA} (h : diskOk a) (hp : doOk a o) : diskOk (doA a o) := by
  unfold doA
  split
  · rename_i hk
    have hp2 : 0 ≤ o.At ∧ o.At < a.Safe.length ∧ o.Data.length = 64 ∧ a.Pending.length < 5000 := by
      unfold doOk at hp
      omega
    refine ⟨h.1, h.2.1, by rw [List.length_append]; simp; omega, h.2.2.2.1, fun i hi => ?_⟩
    rw [List.length_append] at hi
    unfold pendOk
    by_cases e : i < a.Pending.length
    · have := h.2.2.2.2 i e
      unfold pendOk at this
      rw [show ((a.Pending ++ [(⟨o.At, o.Data⟩ : PendA)]).getD i default) = a.Pending.getD i default by rw [List.getD_eq_getElem?_getD, List.getElem?_append_left e, ← List.getD_eq_getElem?_getD]]
      exact this
    · have e2 : i = a.Pending.length := by simp at hi; omega
      subst e2
      rw [show ((a.Pending ++ [(⟨o.At, o.Data⟩ : PendA)]).getD a.Pending.length default) = ⟨o.At, o.Data⟩ by rw [List.getD_eq_getElem?_getD, List.getElem?_append_right (Nat.le_refl _)]; simp]
      exact ⟨hp2.1, hp2.2.1, hp2.2.2.1⟩
  · refine ⟨by rw [nowN_len]; exact h.1, by rw [nowN_len]; exact h.2.1, Nat.zero_le _, fun i hi => ?_, fun i hi => absurd hi (Nat.not_lt_zero i)⟩
    rw [nowN_len] at hi
    exact nowN_safe h _ (Nat.le_refl _) i hi
theorem decP (p : Prop) : ∃ b : Bool, b = true ↔ p := by
  by_cases e : p
  · exact ⟨true, by simp [e]⟩
  · exact ⟨false, by simp [e]⟩
end Go.Proofs.Ytfmbifnbmlhhjaa

