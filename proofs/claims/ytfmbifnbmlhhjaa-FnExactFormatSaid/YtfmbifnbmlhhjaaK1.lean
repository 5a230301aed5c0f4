import Derived.Test.YtfmbifnbmlhhjaaP2
import Derived.Test.YtfmbifnbmlhhjaaD6
import Derived.Test.YtfmbifnbmlhhjaaUc
namespace Go.Proofs.Ytfmbifnbmlhhjaa
open Go Go.Vcg Go.IntWalk
set_option maxRecDepth 100000
set_option maxHeartbeats 20000000
set_option linter.unusedSimpArgs false
set_option linter.unusedVariables false
theorem c20 : CallOk Try.prog 20 := ⟨_, Try.func20, rfl, by kernel_rfl⟩
theorem c19 : CallOk Try.prog 19 := ⟨_, Try.func19, rfl, by kernel_rfl⟩
/-- The first superblock, the ops that write it. -/
def sup1 : SuperA := ⟨1, 0, 2, 0⟩
def opsF : List OpA := opsP 1 (encPage 1 1 (superB sup1))
def opsG : List OpA := opsF ++ [⟨2, 0, []⟩]
def fmtA (n : Int) : DiskA := if 8 ≤ n ∧ n ≤ 1024 then playA (newDisk (4 * n)) opsG 5 else ⟨[], []⟩
theorem sup1_ok : superOk sup1 := by
  unfold superOk plOk sup1
  simp
theorem opsF_len : opsF.length = 4 := opsP_length _ _
theorem opsG_len : opsG.length = 5 := by unfold opsG; rw [List.length_append, opsF_len]; rfl
theorem pageF_len : (encPage 1 1 (superB sup1)).length = 256 := encPage_length 1 1 _ (by rw [superB_length]; omega)
theorem opsF_get (i : Nat) (h : i < 4) : opsF.getD i default = ⟨1, 4 * 1 + i, ((encPage 1 1 (superB sup1)).drop (64 * i)).take 64⟩ := opsP_getD 1 _ i h
theorem opsG_get (i : Nat) (h : i < 4) : opsG.getD i default = ⟨1, 4 * 1 + i, ((encPage 1 1 (superB sup1)).drop (64 * i)).take 64⟩ := by
  rw [← opsF_get i h]
  unfold opsG
  rw [List.getD_eq_getElem?_getD, List.getElem?_append_left (by rw [opsF_len]; exact h), ← List.getD_eq_getElem?_getD]
theorem opsG_4 : opsG.getD 4 default = ⟨2, 0, []⟩ := by
  unfold opsG
  rw [List.getD_eq_getElem?_getD, List.getElem?_append_right (by rw [opsF_len]; exact Nat.le_refl _), opsF_len]
  rfl
theorem newDisk_eq {n : Int} (h : 8 ≤ n ∧ n ≤ 1024) : newDisk (4 * n) = ⟨newSafe (4 * n).toNat, []⟩ := by
  unfold newDisk
  rw [if_pos (by omega)]
theorem newDisk_ok {n : Int} (h : 8 ≤ n ∧ n ≤ 1024) : diskOk (newDisk (4 * n)) := by
  rw [newDisk_eq h]
  refine ⟨?_, ?_, Nat.zero_le _, fun i hi => ?_, fun i hi => absurd hi (Nat.not_lt_zero i)⟩
  · show 1 ≤ (newSafe _).length
    rw [newSafe_len]
    omega
  · show (newSafe _).length ≤ 4096
    rw [newSafe_len]
    omega
  · unfold safeOk
    show ((newSafe _).getD i default).length = 64
    have : i < (4 * n).toNat := by
      have h2 : i < (newSafe (4 * n).toNat).length := hi
      rwa [newSafe_len] at h2
    unfold newSafe
    rw [List.getD_eq_getElem?_getD, List.getElem?_replicate, if_pos this]
    simp
theorem play_keep (a : DiskA) (ops : List OpA) : ∀ k, (playA a ops k).Safe.length = a.Safe.length
  | 0 => rfl
  | k + 1 => by
    rw [playA, ← play_keep a ops k]
    unfold doA
    split
    · rfl
    · exact nowN_len _ _
theorem play_pend {n : Int} (h : 8 ≤ n ∧ n ≤ 1024) : ∀ k, k ≤ 4 → (playA (newDisk (4 * n)) opsG k).Pending.length = k
  | 0, _ => by rw [newDisk_eq h]; rfl
  | k + 1, hk => by
    rw [playA, opsG_get k (by omega)]
    unfold doA
    rw [if_pos rfl]
    simp only [List.length_append, play_pend h k (by omega), List.length_cons, List.length_nil]
theorem opsG_do {n : Int} (h : 8 ≤ n ∧ n ≤ 1024) (k : Nat) (hk : k < 5) : doOk (playA (newDisk (4 * n)) opsG k) (opsG.getD k default) := by
  rcases Nat.lt_or_ge k 4 with e | e
  · rw [opsG_get k e]
    refine .inl ⟨rfl, ?_, ?_, ?_, ?_⟩
    · show 0 ≤ (4 * 1 + (k : Int))
      omega
    · rw [play_keep, newDisk_eq h]
      show (4 * 1 + (k : Int)) < ((newSafe _).length : Nat)
      rw [newSafe_len]
      omega
    · show (((encPage 1 1 (superB sup1)).drop (64 * k)).take 64).length = 64
      rw [List.length_take, List.length_drop, pageF_len]
      omega
    · rw [play_pend h k (by omega)]
      omega
  · obtain rfl : k = 4 := by omega
    rw [opsG_4]
    exact .inr ⟨rfl, rfl, rfl⟩
theorem playG {n : Int} (h : 8 ≤ n ∧ n ≤ 1024) : PlayN (newDisk (4 * n)) opsG 5 5 := ⟨by rw [opsG_len]; exact Nat.le_refl _, .inr (by omega), opsG_do h, .inl opsG_len.symm⟩
theorem opsG_row : encL oOp opsF ++ [[.pl (.int .i64 2), .pl (.int .i64 0), .ow 1 []]] = encL oOp opsG := (encL_append oOp opsF [⟨2, 0, []⟩])
theorem opsG_data (k : Nat) : (opsG.getD k default).Data.length < 2 ^ 40 := by
  rcases Nat.lt_or_ge k 4 with e | e
  · rw [opsG_get k e]
    show (((encPage 1 1 (superB sup1)).drop (64 * k)).take 64).length < 2 ^ 40
    rw [List.length_take]
    omega
  · rcases Nat.lt_or_ge k 5 with e2 | e2
    · obtain rfl : k = 4 := by omega
      rw [opsG_4]
      exact Nat.two_pow_pos 40
    · rw [List.getD_eq_getElem?_getD, List.getElem?_eq_none (by rw [opsG_len]; omega)]
      exact Nat.two_pow_pos 40
theorem imFormat_ok {n : Int} : TSpec Try.prog 20 [] [.pl (.int .i64 n)] false [] (.tu [.ag (oDisk (fmtA n)), .pl (.bool (decide (8 ≤ n ∧ n ≤ 1024)))]) := by
  simp only [oDisk]
  by_cases hn : 8 ≤ n ∧ n ≤ 1024
  · rw [decide_eq_true hn, show fmtA n = playA (newDisk (4 * n)) opsG 5 from if_pos hn]
    have hso := imSuperOps_ok (a := sup1) (b := true) ⟨fun _ => sup1_ok, fun _ => rfl⟩
    rw [if_pos rfl, show sup1.Gen % 2 = 1 from rfl] at hso
    have hso : TSpec Try.prog 51 [] [.ag (fSuper sup1)] false [] (.tu [.ow 3 (encL oOp opsF), .pl (.bool true)]) := hso
    have hgl := opsG_len
    have hfl := opsF_len
    have hnd := newDisk_ok hn
    have hnw := imNewDisk_ok (n := 4 * n)
    rw [decide_eq_true (show 1 ≤ 4 * n ∧ 4 * n ≤ 4096 by omega)] at hnw
    have htt := diskOk_tot hnd
    have hdo5 := opsG_do hn
    have hpok := playA_ok hnd hdo5
    have hnp : (newDisk (4 * n)).Pending = [] := by rw [newDisk_eq hn]
    generalize newDisk (4 * n) = nd at *
    simp only [oDisk, hnp, encL_nil] at hnw
    have htot : totDisk nd = (nd.Safe.length + sumN List.length nd.Safe) + (nd.Pending.length + sumN totPend nd.Pending) := rfl
    simp only [fSuper, sup1] at hso
    have hst := opsG_row
    have hdv := deviceOfO_ok (a := nd) (by omega)
    simp only [hnp, encL_nil, List.length_nil, devR] at hdv
    have hD := And.intro (hfl) ((hst))
    have hD := And.intro (hfl) ((hst))
    refine sT 48 [.cell 2 35, .tmp 3] Try.func20 fun w0 S0 ρ0 φ0 => ?_
    repeat' (first | apply W.seq | apply W.skip | apply W.region | apply W.block | apply N.code | apply N.blk | apply Sl.nil | apply W.exit | apply W.ret | apply E.hit | apply E.code | apply E.fin | refine zM ?_ | apply O.i | refine sP ?_ | refine sQ fun _ => ?_ | refine zg fun _ => ?_ | refine sX fun _ => ?_ | refine sPf ?_ | refine sPt ?_ | (refine k1 false [] c86 ?_; refine k2 hnw ?_) | (refine k1 false [] c51 ?_; refine k2 hso ?_) | (refine k1 false [(1000000, 0, some 0), (1000001, 0, some 1)] c87 ?_; refine k2 hdv ?_) | (refine k1 false [(1000000, 0, none)] c88 ?_; refine k2 hdo ?_) | refine zI ?_ ?_ | (intro hb; (try simp [-List.getD_eq_getElem?_getD] at hb); (try (exfalso; omega))))
    (refine gA 34 4 2 2000010 1 ?_)
    (refine gF 34 4 2 ?_)
    (refine gZ 34 ?_)
    obtain ⟨L, hL⟩ : ∃ L : Nat → List (Int × Int), L = playL nd [] opsG := ⟨_, rfl⟩
    obtain ⟨A, hA⟩ : ∃ A : Nat → DiskA, A = playA nd opsG := ⟨_, rfl⟩
    have hL0 : lastN [] 0 = L 0 := by rw [hL]; rfl
    have hA1 : (A 0).Safe = nd.Safe := by rw [hA]; rfl
    have hA2 : (A 0).Pending = [] := by rw [hA, ← hnp]; rfl
    have hAs : ∀ k, A (k + 1) = doA (A k) (opsG.getD k default) := fun k => by rw [hA]; rfl
    have hLs : ∀ k, L (k + 1) = doL (A k) (L k) (opsG.getD k default) := fun k => by rw [hA, hL]; rfl
    rw [← hA] at hdo5 hpok ⊢
    clear hA hL
    have hD := And.intro (hgl) (And.intro (hL0) (And.intro (hA1) (And.intro (hA2) (@encL_nil))))
    refine W.iter (fun k => ⟨48, [(2, .pt 2 0 0), (8, .pt (nmR 30) 0 0), (34, .pd (encL fOp opsG)), (35, .pl (.int .i64 5)), (36, .pl (.int .i64 k))], [(2, .c 2 [[.nl, .nl]]), (nmR 30, .c 5 [[.pl (.int .i32 0), .pl (.int .u32 0), .ow 1 (encL oB (A k).Safe), .ow 2 (encL oPend (A k).Pending), .mo (mII (L k))]])], []⟩) (fun k => True) (5) (Weak.to (by first | rfl | (simp only [virtAt_n, virt_n]; rfl)) ?s1 ?b1 (by exact dfe)) ?h1 (fun k hk hH => ?body1)
    (try case' s1 => first | exact to1 | (simp +decide only [go_sem]; (try simp (disch := first | exact ds | fail) only [go_sem, Nat.reduceAdd, Nat.reduceMul, Nat.reduceSub, Int.reduceToNat, Int.reduceNeg, Nat.reduceLeDiff, hD]); (try simp only [SV.pl.injEq, SV.sl.injEq, Value.int.injEq, Bk.c.injEq, encI_inj, true_and]); (try omega))); (try case' b1 => first | exact to1 | (simp +decide only [go_sem]; (try simp (disch := first | exact ds | fail) only [go_sem, Nat.reduceAdd, Nat.reduceMul, Nat.reduceSub, Int.reduceToNat, Int.reduceNeg, Nat.reduceLeDiff, hD]); (try simp only [SV.pl.injEq, SV.sl.injEq, Value.int.injEq, Bk.c.injEq, encI_inj, true_and]); (try omega))); (try case' h1 => first | exact to1 | (simp +decide only [go_sem]; (try simp (disch := first | exact ds | fail) only [go_sem, Nat.reduceAdd, Nat.reduceMul, Nat.reduceSub, Int.reduceToNat, Int.reduceNeg, Nat.reduceLeDiff, hD]); (try simp only [SV.pl.injEq, SV.sl.injEq, Value.int.injEq, Bk.c.injEq, encI_inj, true_and]); (try omega)))
    by_cases hk5 : k < 5
    · have hdo := do_ok (a := A k) (l := L k) (o := opsG.getD k default) (b := true) (Nat.lt_of_le_of_lt (diskOk_tot (hpok k hk)) (by omega)) (opsG_data k) (diskOk_inR (hpok k hk)) ⟨fun _ => hdo5 k hk5, fun _ => rfl⟩
      rw [if_pos rfl, if_pos rfl, ← hAs, ← hLs] at hdo
      simp only [devO, devR, fOp] at hdo
      have hD := (hgl)
      repeat' (first | apply W.seq | apply W.skip | apply W.region | apply W.block | apply N.code | apply N.blk | apply Sl.nil | apply W.exit | apply W.ret | apply E.hit | apply E.code | apply E.fin | refine zM ?_ | apply O.i | refine sP ?_ | refine sQ fun _ => ?_ | refine zg fun _ => ?_ | refine sX fun _ => ?_ | refine sPf ?_ | refine sPt ?_ | (refine k1 false [] c86 ?_; refine k2 hnw ?_) | (refine k1 false [] c51 ?_; refine k2 hso ?_) | (refine k1 false [(1000000, 0, some 0), (1000001, 0, some 1)] c87 ?_; refine k2 hdv ?_) | (refine k1 false [(1000000, 0, none)] c88 ?_; refine k2 hdo ?_) | refine zI ?_ ?_ | (intro hb; (try simp [-List.getD_eq_getElem?_getD] at hb); (try (exfalso; omega))))
      (refine N.fin ⟨by omega, ?h2, ?w2⟩; case' w2 => (refine Weak.to (by first | rfl | (simp only [virtAt_n, virt_n]; rfl)) ?s2 ?b2 (by exact dfe)))
      (try case' s2 => first | exact to1 | (simp +decide only [go_sem]; (try simp (disch := first | exact ds | fail) only [go_sem, Nat.reduceAdd, Nat.reduceMul, Nat.reduceSub, Int.reduceToNat, Int.reduceNeg, Nat.reduceLeDiff, hD]); (try simp only [SV.pl.injEq, SV.sl.injEq, Value.int.injEq, Bk.c.injEq, encI_inj, true_and]); (try omega))); (try case' b2 => first | exact to1 | (simp +decide only [go_sem]; (try simp (disch := first | exact ds | fail) only [go_sem, Nat.reduceAdd, Nat.reduceMul, Nat.reduceSub, Int.reduceToNat, Int.reduceNeg, Nat.reduceLeDiff, hD]); (try simp only [SV.pl.injEq, SV.sl.injEq, Value.int.injEq, Bk.c.injEq, encI_inj, true_and]); (try omega))); (try case' h2 => first | exact to1 | (simp +decide only [go_sem]; (try simp (disch := first | exact ds | fail) only [go_sem, Nat.reduceAdd, Nat.reduceMul, Nat.reduceSub, Int.reduceToNat, Int.reduceNeg, Nat.reduceLeDiff, hD]); (try simp only [SV.pl.injEq, SV.sl.injEq, Value.int.injEq, Bk.c.injEq, encI_inj, true_and]); (try omega)))
    obtain rfl : k = 5 := by omega
    have hdo := hk5
    have hD := (hgl)
    repeat' (first | apply W.seq | apply W.skip | refine W.region (id := 0) ?_ | refine W.region (id := 1) ?_ | refine W.region (id := 2) ?_ | refine W.region (id := 3) ?_ | refine W.region (id := 4) ?_ | refine W.region (id := 5) ?_ | refine W.region (id := 6) ?_ | refine W.region (id := 7) ?_ | refine W.region (id := 8) ?_ | refine W.region (id := 9) ?_ | refine W.region (id := 10) ?_ | apply W.block | apply N.code | apply N.blk | apply Sl.nil | apply W.exit | apply W.ret | apply E.hit | apply E.code | apply E.fin | refine zM ?_ | apply O.i | refine sP ?_ | refine sQ fun _ => ?_ | refine zg fun _ => ?_ | refine sX fun _ => ?_ | refine sPf ?_ | refine sPt ?_ | (refine k1 false [] c86 ?_; refine k2 hnw ?_) | (refine k1 false [] c51 ?_; refine k2 hso ?_) | (refine k1 false [(1000000, 0, some 0), (1000001, 0, some 1)] c87 ?_; refine k2 hdv ?_) | (refine k1 false [(1000000, 0, none)] c88 ?_; refine k2 hdo ?_) | refine zI ?_ ?_ | (intro hb; (try simp [-List.getD_eq_getElem?_getD] at hb); (try (exfalso; omega))))
    (refine gU (nmR 30) 0 2 2000000 ?_; refine gU (nmR 30) 0 3 2000001 ?_)
    repeat' (first | apply W.seq | apply W.skip | apply W.region | apply W.block | apply N.code | apply N.blk | apply Sl.nil | apply W.exit | apply W.ret | apply E.hit | apply E.code | apply E.fin | refine zM ?_ | apply O.i | refine sP ?_ | refine sQ fun _ => ?_ | refine zg fun _ => ?_ | refine sX fun _ => ?_ | refine sPf ?_ | refine sPt ?_ | (refine k1 false [] c86 ?_; refine k2 hnw ?_) | (refine k1 false [] c51 ?_; refine k2 hso ?_) | (refine k1 false [(1000000, 0, some 0), (1000001, 0, some 1)] c87 ?_; refine k2 hdv ?_) | (refine k1 false [(1000000, 0, none)] c88 ?_; refine k2 hdo ?_) | refine zI ?_ ?_ | (intro hb; (try simp [-List.getD_eq_getElem?_getD] at hb); (try (exfalso; omega))))
    exact rT
  · rw [decide_eq_false hn, show fmtA n = ⟨[], []⟩ from if_neg hn]
    have hso := hn
    have hnw := hn
    have hdv := hn
    have hdo := hn
    have hD := @encL_nil
    have hD := @encL_nil
    refine sT 48 [.cell 2 35, .tmp 3] Try.func20 fun w0 S0 ρ0 φ0 => ?_
    repeat' (first | apply W.seq | apply W.skip | refine W.region (id := 0) ?_ | refine W.region (id := 1) ?_ | refine W.region (id := 2) ?_ | refine W.region (id := 4) ?_ | refine W.region (id := 5) ?_ | refine W.region (id := 6) ?_ | refine W.region (id := 7) ?_ | refine W.region (id := 8) ?_ | refine W.region (id := 9) ?_ | refine W.region (id := 10) ?_ | refine W.region (id := 11) ?_ | apply W.block | apply N.code | apply N.blk | apply Sl.nil | apply W.exit | apply W.ret | apply E.hit | apply E.code | apply E.fin | refine zM ?_ | apply O.i | refine sP ?_ | refine sQ fun _ => ?_ | refine zg fun _ => ?_ | refine sX fun _ => ?_ | refine sPf ?_ | refine sPt ?_ | (refine k1 false [] c86 ?_; refine k2 hnw ?_) | (refine k1 false [] c51 ?_; refine k2 hso ?_) | (refine k1 false [(1000000, 0, some 0), (1000001, 0, some 1)] c87 ?_; refine k2 hdv ?_) | (refine k1 false [(1000000, 0, none)] c88 ?_; refine k2 hdo ?_) | refine zI ?_ ?_ | (intro hb; (try simp [-List.getD_eq_getElem?_getD] at hb); (try (exfalso; omega))))
    exact rT
end Go.Proofs.Ytfmbifnbmlhhjaa

