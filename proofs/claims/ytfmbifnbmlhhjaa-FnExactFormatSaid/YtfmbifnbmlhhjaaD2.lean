import Derived.Test.YtfmbifnbmlhhjaaD1
import Derived.Test.YtfmbifnbmlhhjaaUc
namespace Go.Proofs.Ytfmbifnbmlhhjaa
open Go Go.Vcg Go.IntWalk
set_option maxRecDepth 100000
set_option maxHeartbeats 20000000
set_option linter.unusedSimpArgs false
set_option linter.unusedVariables false
theorem c87 : CallOk Try.prog 87 := ⟨_, Try.func87, rfl, by kernel_rfl⟩
theorem c141 : CallOk Try.prog 141 := ⟨_, Try.func141, rfl, by kernel_rfl⟩
theorem c97 : CallOk Try.prog 97 := ⟨_, Try.func97, rfl, by kernel_rfl⟩
theorem c68 : CallOk Try.prog 68 := ⟨_, Try.func68, rfl, by kernel_rfl⟩
/-- The number of the last pending write of each sector, as the device keeps it. -/
def lastN (ps : List PendA) : Nat → List (Int × Int)
  | 0 => []
  | k + 1 => aputI (lastN ps k) (ps.getD k default).At k
def devR (m : Int) (s p l : SV) : List SV := [.pl (.int .i32 m), .pl (.int .u32 0), s, p, l]
attribute [go_sem] devR
theorem lastN_zero (ps : List PendA) : mII (lastN ps 0) = [] := rfl
theorem deviceOf_ok {a : DiskA} (h : totDisk a < 2 ^ 40 := by exact pm) : TSpec Try.prog 87 [] [.ag (fDisk a)] true [] (.bo (devR 0 (.pd (encL fB a.Safe)) (.pd (encL fPend a.Pending)) (.mo (mII (lastN a.Pending a.Pending.length))))) := by
  simp only [fDisk, devR]
  have htot : totDisk a = (a.Safe.length + sumN List.length a.Safe) + (a.Pending.length + sumN totPend a.Pending) := rfl
  have hD := dN0
  refine sT 27 [.tmp 2] Try.func87 fun w0 S0 ρ0 φ0 => ?_
  repeat' (first | apply W.seq | apply W.skip | apply W.region | apply W.block | apply N.code | apply N.blk | apply Sl.nil | apply W.exit | apply W.ret | apply E.hit | apply E.code | apply E.fin | refine zM ?_ | apply O.i | refine sP ?_ | refine sQ fun _ => ?_ | refine sX fun _ => ?_ | refine sMm ?_ | (refine rD (id := 5) anyW [7] ?_; refine rP 0 false fun _ => ?_; refine rP 1 false fun _ => ?_; refine rP 2 false fun _ => ?_; refine rP 3 true fun _ => ?_; refine rP 4 false fun _ => ?_; refine rP 5 true fun _ => ?_; refine rP 6 false fun _ => ?_; refine rO 7 fun _ _ _ _ _ => ?_; refine sMu fun _ => ?_; refine rE ?_) | refine zI ?_ ?_ | (intro hb; (try simp [-List.getD_eq_getElem?_getD] at hb); (try (exfalso; omega))))
  have hD := @lastN_zero
  refine W.iter (fun k => ⟨27, [(1, .pt 1 0 0), (3, .pt 9 0 0), (11, .pd (encL fPend a.Pending)), (12, .pl (.int .i64 a.Pending.length)), (13, .pl (.int .i64 k))], [(1, .c 2 [[.pd (encL fB a.Safe), .pd (encL fPend a.Pending)]]), (9, .c 5 [[.pl (.int .i32 0), .pl (.int .u32 0), .pd (encL fB a.Safe), .pd (encL fPend a.Pending), .mr 7]]), (7, .m (mII (lastN a.Pending k)))], []⟩) (fun k => True) (a.Pending.length) (Weak.to (by first | rfl | (simp only [virtAt_n, virt_n]; rfl)) ?s1 ?b1 (by exact dfe)) ?h1 (fun k hk hH => ?body1)
  (try case' s1 => first | exact to1 | (simp +decide only [go_sem]; (try simp (disch := first | exact ds | fail) only [go_sem, Nat.reduceAdd, Nat.reduceMul, Nat.reduceSub, Int.reduceToNat, Int.reduceNeg, Nat.reduceLeDiff, hD]); (try simp only [SV.pl.injEq, SV.sl.injEq, Value.int.injEq, Bk.c.injEq, encI_inj, true_and]); (try omega))); (try case' b1 => first | exact to1 | (simp +decide only [go_sem]; (try simp (disch := first | exact ds | fail) only [go_sem, Nat.reduceAdd, Nat.reduceMul, Nat.reduceSub, Int.reduceToNat, Int.reduceNeg, Nat.reduceLeDiff, hD]); (try simp only [SV.pl.injEq, SV.sl.injEq, Value.int.injEq, Bk.c.injEq, encI_inj, true_and]); (try omega))); (try case' h1 => first | exact to1 | (simp +decide only [go_sem]; (try simp (disch := first | exact ds | fail) only [go_sem, Nat.reduceAdd, Nat.reduceMul, Nat.reduceSub, Int.reduceToNat, Int.reduceNeg, Nat.reduceLeDiff, hD]); (try simp only [SV.pl.injEq, SV.sl.injEq, Value.int.injEq, Bk.c.injEq, encI_inj, true_and]); (try omega)))
  have hD := dN0
  repeat' (first | apply W.seq | apply W.skip | apply W.region | apply W.block | apply N.code | apply N.blk | apply Sl.nil | apply W.exit | apply W.ret | apply E.hit | apply E.code | apply E.fin | refine zM ?_ | apply O.i | refine sP ?_ | refine sQ fun _ => ?_ | refine sX fun _ => ?_ | refine sMm ?_ | (refine rD (id := 5) anyW [7] ?_; refine rP 0 false fun _ => ?_; refine rP 1 false fun _ => ?_; refine rP 2 false fun _ => ?_; refine rP 3 true fun _ => ?_; refine rP 4 false fun _ => ?_; refine rP 5 true fun _ => ?_; refine rP 6 false fun _ => ?_; refine rO 7 fun _ _ _ _ _ => ?_; refine sMu fun _ => ?_; refine rE ?_) | refine zI ?_ ?_ | (intro hb; (try simp [-List.getD_eq_getElem?_getD] at hb); (try (exfalso; omega))))
  · have hst : aputI (lastN a.Pending k) (a.Pending.getD k default).At k = lastN a.Pending (k + 1) := rfl
    have hD := (hst)
    (refine N.fin ⟨by omega, ?h2, ?w2⟩; case' w2 => (refine Weak.to (by first | rfl | (simp only [virtAt_n, virt_n]; rfl)) ?s2 ?b2 (by exact dfe)))
    (try case' s2 => first | exact to1 | (simp +decide only [go_sem]; (try simp (disch := first | exact ds | fail) only [go_sem, Nat.reduceAdd, Nat.reduceMul, Nat.reduceSub, Int.reduceToNat, Int.reduceNeg, Nat.reduceLeDiff, hD]); (try simp only [SV.pl.injEq, SV.sl.injEq, Value.int.injEq, Bk.c.injEq, encI_inj, true_and]); (try omega))); (try case' b2 => first | exact to1 | (simp +decide only [go_sem]; (try simp (disch := first | exact ds | fail) only [go_sem, Nat.reduceAdd, Nat.reduceMul, Nat.reduceSub, Int.reduceToNat, Int.reduceNeg, Nat.reduceLeDiff, hD]); (try simp only [SV.pl.injEq, SV.sl.injEq, Value.int.injEq, Bk.c.injEq, encI_inj, true_and]); (try omega))); (try case' h2 => first | exact to1 | (simp +decide only [go_sem]; (try simp (disch := first | exact ds | fail) only [go_sem, Nat.reduceAdd, Nat.reduceMul, Nat.reduceSub, Int.reduceToNat, Int.reduceNeg, Nat.reduceLeDiff, hD]); (try simp only [SV.pl.injEq, SV.sl.injEq, Value.int.injEq, Bk.c.injEq, encI_inj, true_and]); (try omega)))
  obtain rfl : k = a.Pending.length := by omega
  (refine hF 9 0 4 ?_)
  exact rS
/-- What a sector holds, found by way of the numbers l of the last pending writes. -/
def secV (a : DiskA) (l : List (Int × Int)) (k : Int) : List Int := if 0 ≤ k ∧ k < a.Safe.length then (match agetI l k with
  | some i => (a.Pending.getD i.toNat default).Data
  | none => a.Safe.getD k.toNat default) else []
def devB (m : Int) (a : DiskA) : Bk := .c 5 [devR m (.pd (encL fB a.Safe)) (.pd (encL fPend a.Pending)) (.mr 1000001)]
attribute [go_sem] devB
theorem sector_ok {a : DiskA} {k : Int} {l : List (Int × Int)} (h : totDisk a < 2 ^ 40) (hl : ∀ i, agetI l k = some i → 0 ≤ i ∧ i < a.Pending.length) :
    TSpec Try.prog 141 [(1000000, devB 0 a), (1000001, .m (mII l))] [.pt 1000000 0 0, .pl (.int .i64 k)] true [(1000000, devB 0 a), (1000001, .m (mII l))] (.tu [.pd (encI .u8 (secV a l k)), .pl (.bool (decide (0 ≤ k ∧ k < a.Safe.length)))]) := by
  simp only [devB, devR]
  have htot : totDisk a = (a.Safe.length + sumN List.length a.Safe) + (a.Pending.length + sumN totPend a.Pending) := rfl
  by_cases hk : 0 ≤ k ∧ k < a.Safe.length
  · rw [show decide (0 ≤ k ∧ k < a.Safe.length) = true from decide_eq_true hk]
    rcases hx : agetI l k with _ | i
    · have h1 : (agetI l k).isSome = false := by rw [hx]; rfl
      rw [show secV a l k = a.Safe.getD k.toNat default by unfold secV; rw [if_pos hk, hx]]
      have hD := (h1)
      have hD := (h1)
      refine sTD 54 [.tmp 4, .tmp 5] Try.func141 fun w0 S0 ρ0 φ0 => ?_
      repeat' (first | apply W.seq | apply W.skip | apply W.region | apply W.block | apply N.code | apply N.blk | apply Sl.nil | apply W.exit | apply W.ret | apply E.hit | apply E.code | apply E.fin | refine zM ?_ | apply O.i | refine sP ?_ | refine sQ fun _ => ?_ | refine zg fun _ => ?_ | refine sMl fun _ => ?_ | refine sDf ?_ | refine sL ?_ | refine zI ?_ ?_ | (intro hb; (try simp [-List.getD_eq_getElem?_getD] at hb); (try (exfalso; omega))))
      (refine rU ?_; exact rQ rS)
    · obtain ⟨hi0, hi1⟩ := hl i hx
      obtain ⟨j, rfl⟩ : ∃ j : Nat, i = j := ⟨i.toNat, by omega⟩
      have h1 : (agetI l k).isSome = true := by rw [hx]; rfl
      have h2 : (agetI l k).getD 0 = j := by rw [hx]; rfl
      rw [show secV a l k = (a.Pending.getD j default).Data by unfold secV; rw [if_pos hk, hx]; rfl]
      have hD := And.intro (h1) ((h2))
      have hD := And.intro (h1) ((h2))
      refine sTD 54 [.tmp 4, .tmp 5] Try.func141 fun w0 S0 ρ0 φ0 => ?_
      repeat' (first | apply W.seq | apply W.skip | apply W.region | apply W.block | apply N.code | apply N.blk | apply Sl.nil | apply W.exit | apply W.ret | apply E.hit | apply E.code | apply E.fin | refine zM ?_ | apply O.i | refine sP ?_ | refine sQ fun _ => ?_ | refine zg fun _ => ?_ | refine sMl fun _ => ?_ | refine sDf ?_ | refine sL ?_ | refine zI ?_ ?_ | (intro hb; (try simp [-List.getD_eq_getElem?_getD] at hb); (try (exfalso; omega))))
      (refine rU ?_; exact rQ rS)
  · rw [show decide (0 ≤ k ∧ k < a.Safe.length) = false from decide_eq_false hk, show secV a l k = [] from if_neg hk]
    have hD := dN0
    have hD := dN0
    refine sTD 54 [.tmp 4, .tmp 5] Try.func141 fun w0 S0 ρ0 φ0 => ?_
    repeat' (first | apply W.seq | apply W.skip | apply W.region | apply W.block | apply N.code | apply N.blk | apply Sl.nil | apply W.exit | apply W.ret | apply E.hit | apply E.code | apply E.fin | refine zM ?_ | apply O.i | refine sP ?_ | refine sQ fun _ => ?_ | refine zg fun _ => ?_ | refine sMl fun _ => ?_ | refine sDf ?_ | refine sL ?_ | refine zI ?_ ?_ | (intro hb; (try simp [-List.getD_eq_getElem?_getD] at hb); (try (exfalso; omega))))
    (refine rU ?_; exact rQ rS)
theorem dataLen (a : DiskA) (i : Nat) : (a.Pending.getD i default).Data.length ≤ totDisk a := by
  have htot : totDisk a = (a.Safe.length + sumN List.length a.Safe) + (a.Pending.length + sumN totPend a.Pending) := rfl
  by_cases hi : i < a.Pending.length
  · have := sumN_get totPend a.Pending i hi
    have e : totPend (a.Pending.getD i default) = (a.Pending.getD i default).Data.length := rfl
    omega
  · rw [List.getD_eq_getElem?_getD, List.getElem?_eq_none (by omega)]
    exact Nat.zero_le _
theorem safeLen (a : DiskA) (i : Nat) : (a.Safe.getD i default).length ≤ totDisk a := by
  have htot : totDisk a = (a.Safe.length + sumN List.length a.Safe) + (a.Pending.length + sumN totPend a.Pending) := rfl
  by_cases hi : i < a.Safe.length
  · have := sumN_get List.length a.Safe i hi
    omega
  · rw [List.getD_eq_getElem?_getD, List.getElem?_eq_none (by omega)]
    exact Nat.zero_le _
theorem secV_len (a : DiskA) (l : List (Int × Int)) (k : Int) : (secV a l k).length ≤ totDisk a := by
  unfold secV
  split
  · split
    · exact dataLen a _
    · exact safeLen a _
  · exact Nat.zero_le _
/-- What a sector holds. -/
def nowV (a : DiskA) (k : Int) : List Int := secV a (lastN a.Pending a.Pending.length) k
theorem imReadSector_ok {a : DiskA} {k : Int} {db : Bool} (h : totDisk a < 2 ^ 40) (hP : db = true ↔ diskOk a) (hl : ∀ i, agetI (lastN a.Pending a.Pending.length) k = some i → 0 ≤ i ∧ i < a.Pending.length) :
    TSpec Try.prog 68 [] [.ag (fDisk a), .pl (.int .i64 k)] false [] (.tu [.ow 1 (encI .u8 (if db then nowV a k else [])), .pl (.bool (db && decide (0 ≤ k ∧ k < a.Safe.length)))]) := by
  simp only [fDisk]
  have htot : totDisk a = (a.Safe.length + sumN List.length a.Safe) + (a.Pending.length + sumN totPend a.Pending) := rfl
  cases db with
  | false =>
    rw [if_neg (by simp), Bool.false_and]
    have hD := dN0
    refine sT 21 [.tmp 4, .tmp 5] Try.func68 fun w0 S0 ρ0 φ0 => ?_
    repeat' (first | apply W.seq | apply W.skip | apply W.region | apply W.block | apply N.code | apply N.blk | apply Sl.nil | apply W.exit | apply W.ret | apply E.hit | apply E.code | apply E.fin | refine zM ?_ | apply O.i | refine sP ?_ | refine sQ fun _ => ?_ | refine sX fun _ => ?_ | (refine k1 false [] c66 ?_; refine k2 (imDiskOk_ok h hP) ?_) | (refine k1 true [] c87 ?_; refine k2 (deviceOf_ok (a := a)) ?_) | (refine k1 true [(1000000, 0, none), (1000001, 0, some 2000000)] c141 ?_; refine k2 (sector_ok (a := a) h hl) ?_) | (refine lU (nmR 13) 0 4 2000000 ?_; refine k1 true [(1000000, 0, none), (1000001, 0, some 2000000)] c141 ?_; refine k2 (sector_ok (a := a) h hl) ?_) | (refine k1 false [] c142 ?_; refine k2 sClone_ok ?_) | refine zI ?_ ?_ | (intro hb; (try simp [-List.getD_eq_getElem?_getD] at hb); (try (exfalso; omega))))
    exact rT
  | true =>
    rw [if_pos rfl, Bool.true_and]
    have hlen := Nat.lt_of_le_of_lt (secV_len a (lastN a.Pending a.Pending.length) k) h
    have hD := dN0
    refine sT 21 [.tmp 4, .tmp 5] Try.func68 fun w0 S0 ρ0 φ0 => ?_
    repeat' (first | apply W.seq | apply W.skip | apply W.region | apply W.block | apply N.code | apply N.blk | apply Sl.nil | apply W.exit | apply W.ret | apply E.hit | apply E.code | apply E.fin | refine zM ?_ | apply O.i | refine sP ?_ | refine sQ fun _ => ?_ | refine sX fun _ => ?_ | (refine k1 false [] c66 ?_; refine k2 (imDiskOk_ok h hP) ?_) | (refine k1 true [] c87 ?_; refine k2 (deviceOf_ok (a := a)) ?_) | (refine k1 true [(1000000, 0, none), (1000001, 0, some 2000000)] c141 ?_; refine k2 (sector_ok (a := a) h hl) ?_) | (refine lU (nmR 13) 0 4 2000000 ?_; refine k1 true [(1000000, 0, none), (1000001, 0, some 2000000)] c141 ?_; refine k2 (sector_ok (a := a) h hl) ?_) | (refine k1 false [] c142 ?_; refine k2 sClone_ok ?_) | refine zI ?_ ?_ | (intro hb; (try simp [-List.getD_eq_getElem?_getD] at hb); (try (exfalso; omega))))
    unfold nowV
    exact rT
/-! ## The reference: what all sectors hold -/
def nowN (a : DiskA) : Nat → List (List Int)
  | 0 => a.Safe
  | k + 1 => (nowN a k).set (a.Pending.getD k default).At.toNat (a.Pending.getD k default).Data
theorem nowN_len (a : DiskA) (k : Nat) : (nowN a k).length = a.Safe.length := by
  induction k with
  | zero => rfl
  | succ k ih => rw [nowN, List.length_set, ih]
theorem agetI_put (l : List (Int × Int)) (k v k' : Int) : agetI (aputI l k v) k' = if k' = k then some v else agetI l k' := by
  induction l with
  | nil =>
    unfold agetI aputI
    by_cases e : k' = k
    · simp [e]
    · simp [e]
  | cons p l ih =>
    unfold aputI
    by_cases e : k = p.1
    · rw [if_pos e]
      unfold agetI
      by_cases e2 : k' = k
      · simp [e2]
      · have e3 : ¬ k' = p.1 := fun q => e2 (q.trans e.symm)
        simp [e2, e3]
    · rw [if_neg e]
      by_cases e2 : k' = p.1
      · have e3 : ¬ k' = k := fun q => e (q.symm.trans e2)
        rw [if_neg e3]
        unfold agetI
        simp [e2]
      · have : ∀ l : List (Int × Int), agetI (p :: l) k' = agetI l k' := fun l => by unfold agetI; simp [e2]
        rw [this, this, ih]
theorem lastN_get (ps : List PendA) (k : Int) : ∀ (n : Nat) (i : Int), agetI (lastN ps n) k = some i → 0 ≤ i ∧ i < n ∧ (ps.getD i.toNat default).At = k
  | 0, i, h => by cases h
  | n + 1, i, h => by
    rw [lastN, agetI_put] at h
    by_cases e : k = (ps.getD n default).At
    · rw [if_pos e] at h
      obtain rfl := Option.some.inj h
      exact ⟨by omega, by omega, by rw [Int.toNat_natCast]; exact e.symm⟩
    · rw [if_neg e] at h
      obtain ⟨h1, h2, h3⟩ := lastN_get ps k n i h
      exact ⟨h1, by omega, h3⟩
/-- Both ways to find what a sector holds. -/
theorem now_eq (a : DiskA) (hd : ∀ i, i < a.Pending.length → 0 ≤ (a.Pending.getD i default).At) (k : Nat) (hk : k < a.Safe.length) : ∀ n, n ≤ a.Pending.length → (nowN a n).getD k default = (match agetI (lastN a.Pending n) k with
    | some i => (a.Pending.getD i.toNat default).Data
    | none => a.Safe.getD k default)
  | 0, _ => rfl
  | n + 1, hn => by
    have ih := now_eq a hd k hk n (by omega)
    rw [nowN, lastN, agetI_put, List.getD_eq_getElem?_getD, List.getElem?_set, nowN_len]
    have h0 := hd n (by omega)
    by_cases e : (k : Int) = (a.Pending.getD n default).At
    · rw [if_pos (by omega), if_pos (by omega), if_pos e]
      simp
    · rw [if_neg (by omega), if_neg e, ← List.getD_eq_getElem?_getD, ih]
theorem secV_now {a : DiskA} (hd : diskOk a) (k : Nat) (hk : k < a.Safe.length) : nowV a k = (nowN a a.Pending.length).getD k default := by
  rw [now_eq a (fun i hi => (hd.2.2.2.2 i hi).1) k hk _ (Nat.le_refl _)]
  unfold nowV secV
  rw [if_pos (by omega)]
  simp only [Int.toNat_natCast]
theorem setB_step (xs : List (List Int)) (i : Nat) (y : List Int) : (encL fB xs).set i [.pd (encI .u8 y)] = encL fB (xs.set i y) := by
  unfold encL
  rw [List.map_set]
  rfl
theorem fB_dup (xs : List (List Int)) : dupRows (encL fB xs) = true := by
  unfold dupRows encL
  rw [List.all_map]
  exact List.all_eq_true.mpr fun x _ => rfl
theorem fB_rl (xs : List (List Int)) : RowsLen (encL fB xs) 1 = True := encL_rowsLen fB (fun _ => rfl) xs
theorem fB_clo (xs : List (List Int)) : cloRows (encL fB xs) = true := encL_clo _ (fun x => by simp [fB, cloRow, SV.clo, SV.clo0]) xs
attribute [go_sem] fB_dup fB_rl fB_clo
theorem nowN_zero (a : DiskA) : nowN a 0 = a.Safe := rfl
theorem l1Now_ok {a : DiskA} (h : totDisk a < 2 ^ 40 := by exact pm) (hd : diskOk a := by exact pm) : TSpec Try.prog 97 [] [.ag (fDisk a)] true [] (.ow 1 (encL fB (nowN a a.Pending.length))) := by
  simp only [fDisk]
  have htot : totDisk a = (a.Safe.length + sumN List.length a.Safe) + (a.Pending.length + sumN totPend a.Pending) := rfl
  have hlb := nowN_len a
  have hD := dN0
  refine sT 32 [.tmp 2] Try.func97 fun w0 S0 ρ0 φ0 => ?_
  repeat' (first | apply W.seq | apply W.skip | apply W.region | apply W.block | apply N.code | apply N.blk | apply Sl.nil | apply W.exit | apply W.ret | apply E.hit | apply E.code | apply E.fin | refine zM ?_ | apply O.i | refine sP ?_ | refine sQ fun _ => ?_ | refine sX fun _ => ?_ | (refine rD (id := 6) anyW [14] ?_; refine rP 0 false fun _ => ?_; refine rP 1 false fun _ => ?_; refine rP 2 true fun _ => ?_; refine rP 3 false fun _ => ?_; refine rP 4 false fun _ => ?_; refine rP 5 false fun _ => ?_; refine rP 6 true fun _ => ?_; refine rP 7 false fun _ => ?_; refine rP 8 true fun _ => ?_; refine rP 9 false fun _ => ?_; refine rP 10 false fun _ => ?_; refine rP 11 false fun _ => ?_; refine rP 12 true fun _ => ?_; refine rP 13 false fun _ => ?_; refine rO 14 fun _ _ _ _ _ => ?_; refine sX fun _ => ?_; refine rE ?_) | refine zI ?_ ?_ | (intro hb; (try simp [-List.getD_eq_getElem?_getD] at hb); (try (exfalso; omega))))
  have hD := @nowN_zero
  refine W.iter (fun k => ⟨32, [(1, .pt 1 0 0), (3, .sl 9 0 a.Safe.length), (4, .pl (.int .i64 k))], [(1, .c 2 [[.pd (encL fB a.Safe), .pd (encL fPend a.Pending)]]), (9, .c 1 (encL fB (nowN a k)))], []⟩) (fun k => True) (a.Pending.length) (Weak.to (by first | rfl | (simp only [virtAt_n, virt_n]; rfl)) ?s3 ?b3 (by exact dfe)) ?h3 (fun k hk hH => ?body3)
  (try case' s3 => first | exact to1 | (simp +decide only [go_sem]; (try simp (disch := first | exact ds | fail) only [go_sem, Nat.reduceAdd, Nat.reduceMul, Nat.reduceSub, Int.reduceToNat, Int.reduceNeg, Nat.reduceLeDiff, hD]); (try simp only [SV.pl.injEq, SV.sl.injEq, Value.int.injEq, Bk.c.injEq, encI_inj, true_and]); (try omega))); (try case' b3 => first | exact to1 | (simp +decide only [go_sem]; (try simp (disch := first | exact ds | fail) only [go_sem, Nat.reduceAdd, Nat.reduceMul, Nat.reduceSub, Int.reduceToNat, Int.reduceNeg, Nat.reduceLeDiff, hD]); (try simp only [SV.pl.injEq, SV.sl.injEq, Value.int.injEq, Bk.c.injEq, encI_inj, true_and]); (try omega))); (try case' h3 => first | exact to1 | (simp +decide only [go_sem]; (try simp (disch := first | exact ds | fail) only [go_sem, Nat.reduceAdd, Nat.reduceMul, Nat.reduceSub, Int.reduceToNat, Int.reduceNeg, Nat.reduceLeDiff, hD]); (try simp only [SV.pl.injEq, SV.sl.injEq, Value.int.injEq, Bk.c.injEq, encI_inj, true_and]); (try omega)))
  have hlk := nowN_len a k
  have hD := (hlk)
  repeat' (first | apply W.seq | apply W.skip | refine W.region (id := 0) ?_ | refine W.region (id := 1) ?_ | refine W.region (id := 2) ?_ | refine W.region (id := 3) ?_ | refine W.region (id := 4) ?_ | refine W.region (id := 5) ?_ | refine W.region (id := 7) ?_ | apply W.block | apply N.code | apply N.blk | apply Sl.nil | apply W.exit | apply W.ret | apply E.hit | apply E.code | apply E.fin | refine zM ?_ | apply O.i | refine sP ?_ | refine sQ fun _ => ?_ | refine sX fun _ => ?_ | refine zI ?_ ?_ | (intro hb; (try simp [-List.getD_eq_getElem?_getD] at hb); (try (exfalso; omega))))
  · have hp := hd.2.2.2.2 k hb
    unfold pendOk at hp
    have hst : (encL fB (nowN a k)).set (a.Pending.getD k default).At.toNat [.pd (encI .u8 (a.Pending.getD k default).Data)] = encL fB (nowN a (k + 1)) := setB_step _ _ _
    have hD := And.intro (hlk) ((hst))
    repeat' (first | apply W.seq | apply W.skip | apply W.region | apply W.block | apply N.code | apply N.blk | apply Sl.nil | apply W.exit | apply W.ret | apply E.hit | apply E.code | apply E.fin | refine zM ?_ | apply O.i | refine sP ?_ | refine sQ fun _ => ?_ | refine sX fun _ => ?_ | (refine rD (id := 6) anyW [14] ?_; refine rP 0 false fun _ => ?_; refine rP 1 false fun _ => ?_; refine rP 2 true fun _ => ?_; refine rP 3 false fun _ => ?_; refine rP 4 false fun _ => ?_; refine rP 5 false fun _ => ?_; refine rP 6 true fun _ => ?_; refine rP 7 false fun _ => ?_; refine rP 8 true fun _ => ?_; refine rP 9 false fun _ => ?_; refine rP 10 false fun _ => ?_; refine rP 11 false fun _ => ?_; refine rP 12 true fun _ => ?_; refine rP 13 false fun _ => ?_; refine rO 14 fun _ _ _ _ _ => ?_; refine sX fun _ => ?_; refine rE ?_) | refine zI ?_ ?_ | (intro hb; (try simp [-List.getD_eq_getElem?_getD] at hb); (try (exfalso; omega))))
    (refine N.fin ⟨by omega, ?h4, ?w4⟩; case' w4 => (refine Weak.to (by first | rfl | (simp only [virtAt_n, virt_n]; rfl)) ?s4 ?b4 (by exact dfe)))
    (try case' s4 => first | exact to1 | (simp +decide only [go_sem]; (try simp (disch := first | exact ds | fail) only [go_sem, Nat.reduceAdd, Nat.reduceMul, Nat.reduceSub, Int.reduceToNat, Int.reduceNeg, Nat.reduceLeDiff, hD]); (try simp only [SV.pl.injEq, SV.sl.injEq, Value.int.injEq, Bk.c.injEq, encI_inj, true_and]); (try omega))); (try case' b4 => first | exact to1 | (simp +decide only [go_sem]; (try simp (disch := first | exact ds | fail) only [go_sem, Nat.reduceAdd, Nat.reduceMul, Nat.reduceSub, Int.reduceToNat, Int.reduceNeg, Nat.reduceLeDiff, hD]); (try simp only [SV.pl.injEq, SV.sl.injEq, Value.int.injEq, Bk.c.injEq, encI_inj, true_and]); (try omega))); (try case' h4 => first | exact to1 | (simp +decide only [go_sem]; (try simp (disch := first | exact ds | fail) only [go_sem, Nat.reduceAdd, Nat.reduceMul, Nat.reduceSub, Int.reduceToNat, Int.reduceNeg, Nat.reduceLeDiff, hD]); (try simp only [SV.pl.injEq, SV.sl.injEq, Value.int.injEq, Bk.c.injEq, encI_inj, true_and]); (try omega)))
  obtain rfl : k = a.Pending.length := by omega
  exact rS
end Go.Proofs.Ytfmbifnbmlhhjaa

