import Derived.Test.YtfmbifnbmlhhjaaD5
import Derived.Test.YtfmbifnbmlhhjaaUc
namespace Go.Proofs.Ytfmbifnbmlhhjaa
open Go Go.Vcg Go.IntWalk
set_option maxRecDepth 100000
set_option maxHeartbeats 20000000
set_option linter.unusedSimpArgs false
set_option linter.unusedVariables false
theorem c53 : CallOk Try.prog 53 := ⟨_, Try.func53, rfl, by kernel_rfl⟩
theorem c85 : CallOk Try.prog 85 := ⟨_, Try.func85, rfl, by kernel_rfl⟩
/-- The disk behind k ops, the numbers of its last pending writes. -/
def playA (a : DiskA) (ops : List OpA) : Nat → DiskA
  | 0 => a
  | k + 1 => doA (playA a ops k) (ops.getD k default)
def playL (a : DiskA) (l : List (Int × Int)) (ops : List OpA) : Nat → List (Int × Int)
  | 0 => l
  | k + 1 => doL (playA a ops k) (playL a l ops k) (ops.getD k default)
/-- n ops are done, of at most m. -/
structure PlayN (a : DiskA) (ops : List OpA) (m : Int) (n : Nat) : Prop where
  le : n ≤ ops.length
  lt : n = 0 ∨ (n : Int) ≤ m
  ok : ∀ k, k < n → doOk (playA a ops k) (ops.getD k default)
  stop : n = ops.length ∨ m ≤ n ∨ ¬ doOk (playA a ops n) (ops.getD n default)
theorem playN_ex (a : DiskA) (ops : List OpA) (m : Int) : ∃ n, PlayN a ops m n := by
  have key : ∀ j, j ≤ ops.length → (∃ n, PlayN a ops m n) ∨ ((j : Int) ≤ m ∨ j = 0) ∧ ∀ k, k < j → doOk (playA a ops k) (ops.getD k default) := by
    intro j
    induction j with
    | zero => exact fun _ => .inr ⟨.inr rfl, fun k hk => absurd hk (Nat.not_lt_zero k)⟩
    | succ j ih =>
      intro hj
      rcases ih (by omega) with h | ⟨h1, h2⟩
      · exact .inl h
      · by_cases e : m ≤ j
        · exact .inl ⟨j, by omega, by omega, h2, .inr (.inl e)⟩
        · by_cases e2 : doOk (playA a ops j) (ops.getD j default)
          · refine .inr ⟨.inl (by omega), fun k hk => ?_⟩
            by_cases e3 : k = j
            · subst e3; exact e2
            · exact h2 k (by omega)
          · exact .inl ⟨j, by omega, by omega, h2, .inr (.inr e2)⟩
  rcases key ops.length (Nat.le_refl _) with h | ⟨h1, h2⟩
  · exact h
  · exact ⟨ops.length, Nat.le_refl _, by omega, h2, .inl rfl⟩
theorem playA_ok {a : DiskA} {ops : List OpA} (ha : diskOk a) {n : Nat} (h : ∀ k, k < n → doOk (playA a ops k) (ops.getD k default)) : ∀ k, k ≤ n → diskOk (playA a ops k)
  | 0, _ => ha
  | k + 1, hk => doA_ok (playA_ok ha h k (by omega)) (h k (by omega))
theorem imPlay_ok {a : DiskA} {ops : List OpA} {m : Int} {db : Bool} {n : Nat} (h : totDisk a < 2 ^ 40) (ho : totOpS ops < 2 ^ 40) (hPd : db = true ↔ diskOk a ∧ ops.length ≤ 5000) (hN : PlayN a ops m n) :
    TSpec Try.prog 53 [] [.ag (fDisk a), .pd (encL fOp ops), .pl (.int .i64 m)] false [] (.tu [.ag (oDisk (if db then playA a ops n else a)), .pl (.int .i64 (if db then n else 0))]) := by
  simp only [fDisk, oDisk]
  have htot : totDisk a = (a.Safe.length + sumN List.length a.Safe) + (a.Pending.length + sumN totPend a.Pending) := rfl
  obtain ⟨d0, hd0⟩ := decP (diskOk a)
  cases db with
  | false =>
    rw [if_neg (by simp), if_neg (by simp)]
    have hno : d0 = false ∨ 5000 < ops.length := by
      rcases Nat.lt_or_ge 5000 ops.length with e | e
      · exact .inr e
      · refine .inl (Bool.eq_false_iff.mpr fun q => ?_)
        have := hPd.mpr ⟨hd0.mp q, e⟩
        cases this
    have hPd := hd0
    rcases hno with rfl | hno
    · have hD := dN0
      refine sT 46 [.cell 6 35, .tmp 7] Try.func53 fun w0 S0 ρ0 φ0 => ?_
      repeat' (first | apply W.seq | apply W.skip | refine W.region (id := 0) ?_ | refine W.region (id := 1) ?_ | refine W.region (id := 2) ?_ | refine W.region (id := 4) ?_ | refine W.region (id := 5) ?_ | refine W.region (id := 6) ?_ | refine W.region (id := 7) ?_ | apply W.block | apply N.code | apply N.blk | apply Sl.nil | apply W.exit | apply W.ret | apply E.hit | apply E.code | apply E.fin | refine zM ?_ | apply O.i | refine sP ?_ | refine sQ fun _ => ?_ | refine zg fun _ => ?_ | refine sX fun _ => ?_ | refine sPf ?_ | refine sPt ?_ | (refine k1 false [] c130 ?_; refine k2 (clone_ok (a := a)) ?_) | (refine k1 false [(1000000, 0, some 0), (1000001, 0, some 1)] c87 ?_; refine k2 (deviceOfO_ok (a := a)) ?_) | (refine k1 false [] c66 ?_; refine k2 (imDiskOk_ok h hPd) ?_) | (refine k1 false [(1000000, 0, none)] c88 ?_; refine k2 hdo ?_) | (focus (refine zs ?_ ?_; all_goals (intro hg; first | (exfalso; ((try simp [-List.getD_eq_getElem?_getD] at hg) <;> omega)) | ((first | subst hg | rw [hg] | skip); (focus (refine zj ?_ ?_; all_goals (intro hb; first | (exfalso; revert hb; decide) | ((try refine sA 32 ?_); (try refine sA 36 ?_); refine k1 false [(1000000, 0, none)] c88 ?_; refine k2 hdo ?_) | refine Sl.weak (Weak.refl _ _) ?_))))))) | refine zI ?_ ?_ | (intro hb; (try simp [-List.getD_eq_getElem?_getD] at hb); (try (exfalso; omega))))
      (refine gU (nmR 12) 0 2 2000000 ?_; refine gU (nmR 12) 0 3 2000001 ?_)
      repeat' (first | apply W.seq | apply W.skip | apply W.region | apply W.block | apply N.code | apply N.blk | apply Sl.nil | apply W.exit | apply W.ret | apply E.hit | apply E.code | apply E.fin | refine zM ?_ | apply O.i | refine sP ?_ | refine sQ fun _ => ?_ | refine zg fun _ => ?_ | refine sX fun _ => ?_ | refine sPf ?_ | refine sPt ?_ | (refine k1 false [] c130 ?_; refine k2 (clone_ok (a := a)) ?_) | (refine k1 false [(1000000, 0, some 0), (1000001, 0, some 1)] c87 ?_; refine k2 (deviceOfO_ok (a := a)) ?_) | (refine k1 false [] c66 ?_; refine k2 (imDiskOk_ok h hPd) ?_) | (refine k1 false [(1000000, 0, none)] c88 ?_; refine k2 hdo ?_) | (focus (refine zs ?_ ?_; all_goals (intro hg; first | (exfalso; ((try simp [-List.getD_eq_getElem?_getD] at hg) <;> omega)) | ((first | subst hg | rw [hg] | skip); (focus (refine zj ?_ ?_; all_goals (intro hb; first | (exfalso; revert hb; decide) | ((try refine sA 32 ?_); (try refine sA 36 ?_); refine k1 false [(1000000, 0, none)] c88 ?_; refine k2 hdo ?_) | refine Sl.weak (Weak.refl _ _) ?_))))))) | refine zI ?_ ?_ | (intro hb; (try simp [-List.getD_eq_getElem?_getD] at hb); (try (exfalso; omega))))
      exact rT
    · cases d0
      · have hD := dN0
        refine sT 46 [.cell 6 35, .tmp 7] Try.func53 fun w0 S0 ρ0 φ0 => ?_
        repeat' (first | apply W.seq | apply W.skip | refine W.region (id := 0) ?_ | refine W.region (id := 1) ?_ | refine W.region (id := 2) ?_ | refine W.region (id := 4) ?_ | refine W.region (id := 5) ?_ | refine W.region (id := 6) ?_ | refine W.region (id := 7) ?_ | apply W.block | apply N.code | apply N.blk | apply Sl.nil | apply W.exit | apply W.ret | apply E.hit | apply E.code | apply E.fin | refine zM ?_ | apply O.i | refine sP ?_ | refine sQ fun _ => ?_ | refine zg fun _ => ?_ | refine sX fun _ => ?_ | refine sPf ?_ | refine sPt ?_ | (refine k1 false [] c130 ?_; refine k2 (clone_ok (a := a)) ?_) | (refine k1 false [(1000000, 0, some 0), (1000001, 0, some 1)] c87 ?_; refine k2 (deviceOfO_ok (a := a)) ?_) | (refine k1 false [] c66 ?_; refine k2 (imDiskOk_ok h hPd) ?_) | (refine k1 false [(1000000, 0, none)] c88 ?_; refine k2 hdo ?_) | (focus (refine zs ?_ ?_; all_goals (intro hg; first | (exfalso; ((try simp [-List.getD_eq_getElem?_getD] at hg) <;> omega)) | ((first | subst hg | rw [hg] | skip); (focus (refine zj ?_ ?_; all_goals (intro hb; first | (exfalso; revert hb; decide) | ((try refine sA 32 ?_); (try refine sA 36 ?_); refine k1 false [(1000000, 0, none)] c88 ?_; refine k2 hdo ?_) | refine Sl.weak (Weak.refl _ _) ?_))))))) | refine zI ?_ ?_ | (intro hb; (try simp [-List.getD_eq_getElem?_getD] at hb); (try (exfalso; omega))))
        (refine gU (nmR 12) 0 2 2000000 ?_; refine gU (nmR 12) 0 3 2000001 ?_)
        repeat' (first | apply W.seq | apply W.skip | apply W.region | apply W.block | apply N.code | apply N.blk | apply Sl.nil | apply W.exit | apply W.ret | apply E.hit | apply E.code | apply E.fin | refine zM ?_ | apply O.i | refine sP ?_ | refine sQ fun _ => ?_ | refine zg fun _ => ?_ | refine sX fun _ => ?_ | refine sPf ?_ | refine sPt ?_ | (refine k1 false [] c130 ?_; refine k2 (clone_ok (a := a)) ?_) | (refine k1 false [(1000000, 0, some 0), (1000001, 0, some 1)] c87 ?_; refine k2 (deviceOfO_ok (a := a)) ?_) | (refine k1 false [] c66 ?_; refine k2 (imDiskOk_ok h hPd) ?_) | (refine k1 false [(1000000, 0, none)] c88 ?_; refine k2 hdo ?_) | (focus (refine zs ?_ ?_; all_goals (intro hg; first | (exfalso; ((try simp [-List.getD_eq_getElem?_getD] at hg) <;> omega)) | ((first | subst hg | rw [hg] | skip); (focus (refine zj ?_ ?_; all_goals (intro hb; first | (exfalso; revert hb; decide) | ((try refine sA 32 ?_); (try refine sA 36 ?_); refine k1 false [(1000000, 0, none)] c88 ?_; refine k2 hdo ?_) | refine Sl.weak (Weak.refl _ _) ?_))))))) | refine zI ?_ ?_ | (intro hb; (try simp [-List.getD_eq_getElem?_getD] at hb); (try (exfalso; omega))))
        exact rT
      · have hD := dN0
        refine sT 46 [.cell 6 35, .tmp 7] Try.func53 fun w0 S0 ρ0 φ0 => ?_
        repeat' (first | apply W.seq | apply W.skip | refine W.region (id := 0) ?_ | refine W.region (id := 1) ?_ | refine W.region (id := 2) ?_ | refine W.region (id := 4) ?_ | refine W.region (id := 5) ?_ | refine W.region (id := 6) ?_ | refine W.region (id := 7) ?_ | apply W.block | apply N.code | apply N.blk | apply Sl.nil | apply W.exit | apply W.ret | apply E.hit | apply E.code | apply E.fin | refine zM ?_ | apply O.i | refine sP ?_ | refine sQ fun _ => ?_ | refine zg fun _ => ?_ | refine sX fun _ => ?_ | refine sPf ?_ | refine sPt ?_ | (refine k1 false [] c130 ?_; refine k2 (clone_ok (a := a)) ?_) | (refine k1 false [(1000000, 0, some 0), (1000001, 0, some 1)] c87 ?_; refine k2 (deviceOfO_ok (a := a)) ?_) | (refine k1 false [] c66 ?_; refine k2 (imDiskOk_ok h hPd) ?_) | (refine k1 false [(1000000, 0, none)] c88 ?_; refine k2 hdo ?_) | (focus (refine zs ?_ ?_; all_goals (intro hg; first | (exfalso; ((try simp [-List.getD_eq_getElem?_getD] at hg) <;> omega)) | ((first | subst hg | rw [hg] | skip); (focus (refine zj ?_ ?_; all_goals (intro hb; first | (exfalso; revert hb; decide) | ((try refine sA 32 ?_); (try refine sA 36 ?_); refine k1 false [(1000000, 0, none)] c88 ?_; refine k2 hdo ?_) | refine Sl.weak (Weak.refl _ _) ?_))))))) | refine zI ?_ ?_ | (intro hb; (try simp [-List.getD_eq_getElem?_getD] at hb); (try (exfalso; omega))))
        (refine gU (nmR 12) 0 2 2000000 ?_; refine gU (nmR 12) 0 3 2000001 ?_)
        repeat' (first | apply W.seq | apply W.skip | apply W.region | apply W.block | apply N.code | apply N.blk | apply Sl.nil | apply W.exit | apply W.ret | apply E.hit | apply E.code | apply E.fin | refine zM ?_ | apply O.i | refine sP ?_ | refine sQ fun _ => ?_ | refine zg fun _ => ?_ | refine sX fun _ => ?_ | refine sPf ?_ | refine sPt ?_ | (refine k1 false [] c130 ?_; refine k2 (clone_ok (a := a)) ?_) | (refine k1 false [(1000000, 0, some 0), (1000001, 0, some 1)] c87 ?_; refine k2 (deviceOfO_ok (a := a)) ?_) | (refine k1 false [] c66 ?_; refine k2 (imDiskOk_ok h hPd) ?_) | (refine k1 false [(1000000, 0, none)] c88 ?_; refine k2 hdo ?_) | (focus (refine zs ?_ ?_; all_goals (intro hg; first | (exfalso; ((try simp [-List.getD_eq_getElem?_getD] at hg) <;> omega)) | ((first | subst hg | rw [hg] | skip); (focus (refine zj ?_ ?_; all_goals (intro hb; first | (exfalso; revert hb; decide) | ((try refine sA 32 ?_); (try refine sA 36 ?_); refine k1 false [(1000000, 0, none)] c88 ?_; refine k2 hdo ?_) | refine Sl.weak (Weak.refl _ _) ?_))))))) | refine zI ?_ ?_ | (intro hb; (try simp [-List.getD_eq_getElem?_getD] at hb); (try (exfalso; omega))))
        exact rT
  | true =>
    rw [if_pos rfl, if_pos rfl]
    obtain ⟨hd, hol⟩ := hPd.mp rfl
    obtain rfl : d0 = true := hd0.mpr hd
    have hPd := hd0
    have hln : lastN a.Pending a.Pending.length = playL a (lastN a.Pending a.Pending.length) ops 0 := rfl
    obtain ⟨L, hL⟩ : ∃ L : Nat → List (Int × Int), L = playL a (lastN a.Pending a.Pending.length) ops := ⟨_, rfl⟩
    obtain ⟨A, hA⟩ : ∃ A : Nat → DiskA, A = playA a ops := ⟨_, rfl⟩
    have hL0 : lastN a.Pending a.Pending.length = L 0 := by rw [hL]; rfl
    have hA1 : a.Safe = (A 0).Safe := by rw [hA]; rfl
    have hA2 : a.Pending = (A 0).Pending := by rw [hA]; rfl
    have hAs : ∀ k, A (k + 1) = doA (A k) (ops.getD k default) := fun k => by rw [hA]; rfl
    have hLs : ∀ k, L (k + 1) = doL (A k) (L k) (ops.getD k default) := fun k => by rw [hA, hL]; rfl
    have hAok : ∀ k, k ≤ n → diskOk (A k) := fun k hk => by rw [hA]; exact playA_ok hd hN.ok k hk
    have hle := hN.le
    have hlt := hN.lt
    have hok := hN.ok
    have hstop := hN.stop
    rw [← hA] at hok hstop ⊢
    have hopl : ∀ k, (ops.getD k default).Data.length < 2 ^ 40 := fun k => by
      by_cases e : k < ops.length
      · have h1 := sumN_get totOp ops k e
        have h2 : totOp (ops.getD k default) = (ops.getD k default).Data.length := rfl
        have h3 : totOpS ops = ops.length + sumN totOp ops := rfl
        omega
      · rw [List.getD_eq_getElem?_getD, List.getElem?_eq_none (by omega)]
        exact Nat.two_pow_pos 40
    have hD := (hL0)
    have hD := (hL0)
    refine sT 46 [.cell 6 35, .tmp 7] Try.func53 fun w0 S0 ρ0 φ0 => ?_
    repeat' (first | apply W.seq | apply W.skip | apply W.region | apply W.block | apply N.code | apply N.blk | apply Sl.nil | apply W.exit | apply W.ret | apply E.hit | apply E.code | apply E.fin | refine zM ?_ | apply O.i | refine sP ?_ | refine sQ fun _ => ?_ | refine zg fun _ => ?_ | refine sX fun _ => ?_ | refine sPf ?_ | refine sPt ?_ | (refine k1 false [] c130 ?_; refine k2 (clone_ok (a := a)) ?_) | (refine k1 false [(1000000, 0, some 0), (1000001, 0, some 1)] c87 ?_; refine k2 (deviceOfO_ok (a := a)) ?_) | (refine k1 false [] c66 ?_; refine k2 (imDiskOk_ok h hPd) ?_) | (refine k1 false [(1000000, 0, none)] c88 ?_; refine k2 hdo ?_) | (focus (refine zs ?_ ?_; all_goals (intro hg; first | (exfalso; ((try simp [-List.getD_eq_getElem?_getD] at hg) <;> omega)) | ((first | subst hg | rw [hg] | skip); (focus (refine zj ?_ ?_; all_goals (intro hb; first | (exfalso; revert hb; decide) | ((try refine sA 32 ?_); (try refine sA 36 ?_); refine k1 false [(1000000, 0, none)] c88 ?_; refine k2 hdo ?_) | refine Sl.weak (Weak.refl _ _) ?_))))))) | refine zI ?_ ?_ | (intro hb; (try simp [-List.getD_eq_getElem?_getD] at hb); (try (exfalso; omega))))
    have hD := And.intro (hA1.symm) ((hA2.symm))
    refine W.iter (fun k => ⟨46, [(1, .pd (encL fOp ops)), (2, .pl (.int .i64 m)), (6, .pt 6 0 0), (8, .pt (nmR 12) 0 0), (9, .pl (.int .i64 k))], [(6, .c 2 [[.nl, .nl]]), (nmR 12, .c 5 [[.pl (.int .i32 0), .pl (.int .u32 0), .ow 1 (encL oB (A k).Safe), .ow 2 (encL oPend (A k).Pending), .mo (mII (L k))]])], []⟩) (fun k => True) (n) (Weak.to (by first | rfl | (simp only [virtAt_n, virt_n]; rfl)) ?s1 ?b1 (by exact dfe)) ?h1 (fun k hk hH => ?body1)
    (try case' s1 => first | exact to1 | (simp +decide only [go_sem]; (try simp (disch := first | exact ds | fail) only [go_sem, Nat.reduceAdd, Nat.reduceMul, Nat.reduceSub, Int.reduceToNat, Int.reduceNeg, Nat.reduceLeDiff, hD]); (try simp only [SV.pl.injEq, SV.sl.injEq, Value.int.injEq, Bk.c.injEq, encI_inj, true_and]); (try omega))); (try case' b1 => first | exact to1 | (simp +decide only [go_sem]; (try simp (disch := first | exact ds | fail) only [go_sem, Nat.reduceAdd, Nat.reduceMul, Nat.reduceSub, Int.reduceToNat, Int.reduceNeg, Nat.reduceLeDiff, hD]); (try simp only [SV.pl.injEq, SV.sl.injEq, Value.int.injEq, Bk.c.injEq, encI_inj, true_and]); (try omega))); (try case' h1 => first | exact to1 | (simp +decide only [go_sem]; (try simp (disch := first | exact ds | fail) only [go_sem, Nat.reduceAdd, Nat.reduceMul, Nat.reduceSub, Int.reduceToNat, Int.reduceNeg, Nat.reduceLeDiff, hD]); (try simp only [SV.pl.injEq, SV.sl.injEq, Value.int.injEq, Bk.c.injEq, encI_inj, true_and]); (try omega)))
    by_cases hkn : k < n
    · have hdo := do_ok (a := A k) (l := L k) (o := ops.getD k default) (b := true) (Nat.lt_of_le_of_lt (diskOk_tot (hAok k hk)) (by omega)) (hopl k) (diskOk_inR (hAok k hk)) ⟨fun _ => hok k hkn, fun _ => rfl⟩
      rw [if_pos rfl, if_pos rfl, ← hAs, ← hLs] at hdo
      simp only [devO, devR, fOp] at hdo
      have hD := dN0
      repeat' (first | apply W.seq | apply W.skip | apply W.region | apply W.block | apply N.code | apply N.blk | apply Sl.nil | apply W.exit | apply W.ret | apply E.hit | apply E.code | apply E.fin | refine zM ?_ | apply O.i | refine sP ?_ | refine sQ fun _ => ?_ | refine zg fun _ => ?_ | refine sX fun _ => ?_ | refine sPf ?_ | refine sPt ?_ | (refine k1 false [] c130 ?_; refine k2 (clone_ok (a := a)) ?_) | (refine k1 false [(1000000, 0, some 0), (1000001, 0, some 1)] c87 ?_; refine k2 (deviceOfO_ok (a := a)) ?_) | (refine k1 false [] c66 ?_; refine k2 (imDiskOk_ok h hPd) ?_) | (refine k1 false [(1000000, 0, none)] c88 ?_; refine k2 hdo ?_) | (focus (refine zs ?_ ?_; all_goals (intro hg; first | (exfalso; ((try simp [-List.getD_eq_getElem?_getD] at hg) <;> omega)) | ((first | subst hg | rw [hg] | skip); (focus (refine zj ?_ ?_; all_goals (intro hb; first | (exfalso; revert hb; decide) | ((try refine sA 32 ?_); (try refine sA 36 ?_); refine k1 false [(1000000, 0, none)] c88 ?_; refine k2 hdo ?_) | refine Sl.weak (Weak.refl _ _) ?_))))))) | refine zI ?_ ?_ | (intro hb; (try simp [-List.getD_eq_getElem?_getD] at hb); (try (exfalso; omega))))
      (refine N.fin ⟨by omega, ?h2, ?w2⟩; case' w2 => (refine Weak.to (by first | rfl | (simp only [virtAt_n, virt_n]; rfl)) ?s2 ?b2 (by exact dfe)))
      (try case' s2 => first | exact to1 | (simp +decide only [go_sem]; (try simp (disch := first | exact ds | fail) only [go_sem, Nat.reduceAdd, Nat.reduceMul, Nat.reduceSub, Int.reduceToNat, Int.reduceNeg, Nat.reduceLeDiff, hD]); (try simp only [SV.pl.injEq, SV.sl.injEq, Value.int.injEq, Bk.c.injEq, encI_inj, true_and]); (try omega))); (try case' b2 => first | exact to1 | (simp +decide only [go_sem]; (try simp (disch := first | exact ds | fail) only [go_sem, Nat.reduceAdd, Nat.reduceMul, Nat.reduceSub, Int.reduceToNat, Int.reduceNeg, Nat.reduceLeDiff, hD]); (try simp only [SV.pl.injEq, SV.sl.injEq, Value.int.injEq, Bk.c.injEq, encI_inj, true_and]); (try omega))); (try case' h2 => first | exact to1 | (simp +decide only [go_sem]; (try simp (disch := first | exact ds | fail) only [go_sem, Nat.reduceAdd, Nat.reduceMul, Nat.reduceSub, Int.reduceToNat, Int.reduceNeg, Nat.reduceLeDiff, hD]); (try simp only [SV.pl.injEq, SV.sl.injEq, Value.int.injEq, Bk.c.injEq, encI_inj, true_and]); (try omega)))
    · obtain rfl : k = n := by omega
      by_cases hbn : k < ops.length ∧ (k : Int) < m
      · have hno : ¬ doOk (A k) (ops.getD k default) := by
          rcases hstop with e | e | e
          · omega
          · omega
          · exact e
        have hdo := do_ok (a := A k) (l := L k) (o := ops.getD k default) (b := false) (Nat.lt_of_le_of_lt (diskOk_tot (hAok k hk)) (by omega)) (hopl k) (diskOk_inR (hAok k hk)) ⟨fun e => (by cases e), fun e => absurd e hno⟩
        rw [if_neg (by simp), if_neg (by simp)] at hdo
        simp only [devO, devR, fOp] at hdo
        have hD := dN0
        repeat' (first | apply W.seq | apply W.skip | refine W.region (id := 0) ?_ | refine W.region (id := 1) ?_ | refine W.region (id := 2) ?_ | refine W.region (id := 3) ?_ | refine W.region (id := 4) ?_ | refine W.region (id := 5) ?_ | refine W.region (id := 6) ?_ | apply W.block | apply N.code | apply N.blk | apply Sl.nil | apply W.exit | apply W.ret | apply E.hit | apply E.code | apply E.fin | refine zM ?_ | apply O.i | refine sP ?_ | refine sQ fun _ => ?_ | refine zg fun _ => ?_ | refine sX fun _ => ?_ | refine sPf ?_ | refine sPt ?_ | (refine k1 false [] c130 ?_; refine k2 (clone_ok (a := a)) ?_) | (refine k1 false [(1000000, 0, some 0), (1000001, 0, some 1)] c87 ?_; refine k2 (deviceOfO_ok (a := a)) ?_) | (refine k1 false [] c66 ?_; refine k2 (imDiskOk_ok h hPd) ?_) | (refine k1 false [(1000000, 0, none)] c88 ?_; refine k2 hdo ?_) | (focus (refine zs ?_ ?_; all_goals (intro hg; first | (exfalso; ((try simp [-List.getD_eq_getElem?_getD] at hg) <;> omega)) | ((first | subst hg | rw [hg] | skip); (focus (refine zj ?_ ?_; all_goals (intro hb; first | (exfalso; revert hb; decide) | ((try refine sA 32 ?_); (try refine sA 36 ?_); refine k1 false [(1000000, 0, none)] c88 ?_; refine k2 hdo ?_) | refine Sl.weak (Weak.refl _ _) ?_))))))) | refine zI ?_ ?_ | (intro hb; (try simp [-List.getD_eq_getElem?_getD] at hb); (try (exfalso; omega))))
        (refine gU (nmR 12) 0 2 2000000 ?_; refine gU (nmR 12) 0 3 2000001 ?_)
        repeat' (first | apply W.seq | apply W.skip | apply W.region | apply W.block | apply N.code | apply N.blk | apply Sl.nil | apply W.exit | apply W.ret | apply E.hit | apply E.code | apply E.fin | refine zM ?_ | apply O.i | refine sP ?_ | refine sQ fun _ => ?_ | refine zg fun _ => ?_ | refine sX fun _ => ?_ | refine sPf ?_ | refine sPt ?_ | (refine k1 false [] c130 ?_; refine k2 (clone_ok (a := a)) ?_) | (refine k1 false [(1000000, 0, some 0), (1000001, 0, some 1)] c87 ?_; refine k2 (deviceOfO_ok (a := a)) ?_) | (refine k1 false [] c66 ?_; refine k2 (imDiskOk_ok h hPd) ?_) | (refine k1 false [(1000000, 0, none)] c88 ?_; refine k2 hdo ?_) | (focus (refine zs ?_ ?_; all_goals (intro hg; first | (exfalso; ((try simp [-List.getD_eq_getElem?_getD] at hg) <;> omega)) | ((first | subst hg | rw [hg] | skip); (focus (refine zj ?_ ?_; all_goals (intro hb; first | (exfalso; revert hb; decide) | ((try refine sA 32 ?_); (try refine sA 36 ?_); refine k1 false [(1000000, 0, none)] c88 ?_; refine k2 hdo ?_) | refine Sl.weak (Weak.refl _ _) ?_))))))) | refine zI ?_ ?_ | (intro hb; (try simp [-List.getD_eq_getElem?_getD] at hb); (try (exfalso; omega))))
        exact rT
      · have hdo := hbn
        have hD := dN0
        repeat' (first | apply W.seq | apply W.skip | refine W.region (id := 0) ?_ | refine W.region (id := 1) ?_ | refine W.region (id := 2) ?_ | refine W.region (id := 3) ?_ | refine W.region (id := 4) ?_ | refine W.region (id := 5) ?_ | refine W.region (id := 6) ?_ | apply W.block | apply N.code | apply N.blk | apply Sl.nil | apply W.exit | apply W.ret | apply E.hit | apply E.code | apply E.fin | refine zM ?_ | apply O.i | refine sP ?_ | refine sQ fun _ => ?_ | refine zg fun _ => ?_ | refine sX fun _ => ?_ | refine sPf ?_ | refine sPt ?_ | (refine k1 false [] c130 ?_; refine k2 (clone_ok (a := a)) ?_) | (refine k1 false [(1000000, 0, some 0), (1000001, 0, some 1)] c87 ?_; refine k2 (deviceOfO_ok (a := a)) ?_) | (refine k1 false [] c66 ?_; refine k2 (imDiskOk_ok h hPd) ?_) | (refine k1 false [(1000000, 0, none)] c88 ?_; refine k2 hdo ?_) | (focus (refine zs ?_ ?_; all_goals (intro hg; first | (exfalso; ((try simp [-List.getD_eq_getElem?_getD] at hg) <;> omega)) | ((first | subst hg | rw [hg] | skip); (focus (refine zj ?_ ?_; all_goals (intro hb; first | (exfalso; revert hb; decide) | ((try refine sA 32 ?_); (try refine sA 36 ?_); refine k1 false [(1000000, 0, none)] c88 ?_; refine k2 hdo ?_) | refine Sl.weak (Weak.refl _ _) ?_))))))) | refine zI ?_ ?_ | (intro hb; (try simp [-List.getD_eq_getElem?_getD] at hb); (try (exfalso; omega))))
        (refine gU (nmR 12) 0 2 2000000 ?_; refine gU (nmR 12) 0 3 2000001 ?_)
        repeat' (first | apply W.seq | apply W.skip | apply W.region | apply W.block | apply N.code | apply N.blk | apply Sl.nil | apply W.exit | apply W.ret | apply E.hit | apply E.code | apply E.fin | refine zM ?_ | apply O.i | refine sP ?_ | refine sQ fun _ => ?_ | refine zg fun _ => ?_ | refine sX fun _ => ?_ | refine sPf ?_ | refine sPt ?_ | (refine k1 false [] c130 ?_; refine k2 (clone_ok (a := a)) ?_) | (refine k1 false [(1000000, 0, some 0), (1000001, 0, some 1)] c87 ?_; refine k2 (deviceOfO_ok (a := a)) ?_) | (refine k1 false [] c66 ?_; refine k2 (imDiskOk_ok h hPd) ?_) | (refine k1 false [(1000000, 0, none)] c88 ?_; refine k2 hdo ?_) | (focus (refine zs ?_ ?_; all_goals (intro hg; first | (exfalso; ((try simp [-List.getD_eq_getElem?_getD] at hg) <;> omega)) | ((first | subst hg | rw [hg] | skip); (focus (refine zj ?_ ?_; all_goals (intro hb; first | (exfalso; revert hb; decide) | ((try refine sA 32 ?_); (try refine sA 36 ?_); refine k1 false [(1000000, 0, none)] c88 ?_; refine k2 hdo ?_) | refine Sl.weak (Weak.refl _ _) ?_))))))) | refine zI ?_ ?_ | (intro hb; (try simp [-List.getD_eq_getElem?_getD] at hb); (try (exfalso; omega))))
        exact rT
/-! ## The reference -/
theorem spPlay_ok {a : DiskA} {ops : List OpA} {m : Int} {db : Bool} {n : Nat} (h : totDisk a < 2 ^ 40) (ho : totOpS ops < 2 ^ 40) (hPd : db = true ↔ diskOk a ∧ ops.length ≤ 5000) (hN : PlayN a ops m n) :
    TSpec Try.prog 85 [] [.ag (fDisk a), .pd (encL fOp ops), .pl (.int .i64 m)] false [] (.tu [.ag (oDisk (if db then playA a ops n else a)), .pl (.int .i64 (if db then n else 0))]) := by
  simp only [fDisk, oDisk]
  have htot : totDisk a = (a.Safe.length + sumN List.length a.Safe) + (a.Pending.length + sumN totPend a.Pending) := rfl
  obtain ⟨d0, hd0⟩ := decP (diskOk a)
  obtain ⟨A, hA⟩ : ∃ A : Nat → DiskA, A = playA a ops := ⟨_, rfl⟩
  cases db with
  | false =>
    rw [if_neg (by simp), if_neg (by simp)]
    have hno : d0 = false ∨ 5000 < ops.length := by
      rcases Nat.lt_or_ge 5000 ops.length with e | e
      · exact .inr e
      · refine .inl (Bool.eq_false_iff.mpr fun q => ?_)
        have := hPd.mpr ⟨hd0.mp q, e⟩
        cases this
    have hPd := hd0
    rcases hno with rfl | hno
    · have hD := dN0
      refine sT 42 [.cell 6 35, .tmp 7] Try.func85 fun w0 S0 ρ0 φ0 => ?_
      repeat' (first | apply W.seq | apply W.skip | apply W.region | apply W.block | apply N.code | apply N.blk | apply Sl.nil | apply W.exit | apply W.ret | apply E.hit | apply E.code | apply E.fin | refine zM ?_ | apply O.i | refine sP ?_ | refine sQ fun _ => ?_ | refine zg fun _ => ?_ | refine sX fun _ => ?_ | refine sPf ?_ | refine sPt ?_ | (refine k1 false [] c136 ?_; (first | refine k2 hcp ?_ | refine k2 (l1Copy_ok (a := a)) ?_)) | (refine k1 false [] c67 ?_; refine k2 (spDiskOk_ok h hPd) ?_) | (refine k1 false [(1000000, 0, none)] c140 ?_; refine k2 hdo ?_) | (focus (refine zs ?_ ?_; all_goals (intro hg; first | (exfalso; ((try simp [-List.getD_eq_getElem?_getD] at hg) <;> omega)) | ((first | subst hg | rw [hg] | skip); (focus (refine zj ?_ ?_; all_goals (intro hb; first | (exfalso; revert hb; decide) | ((try refine sA 8 ?_); (try refine sA 34 ?_); refine k1 false [(1000000, 0, none)] c140 ?_; refine k2 hdo ?_) | refine Sl.weak (Weak.refl _ _) ?_))))))) | refine zI ?_ ?_ | (intro hb; (try simp [-List.getD_eq_getElem?_getD] at hb); (try (exfalso; omega))))
      exact rT
    · cases d0
      · have hD := dN0
        refine sT 42 [.cell 6 35, .tmp 7] Try.func85 fun w0 S0 ρ0 φ0 => ?_
        repeat' (first | apply W.seq | apply W.skip | apply W.region | apply W.block | apply N.code | apply N.blk | apply Sl.nil | apply W.exit | apply W.ret | apply E.hit | apply E.code | apply E.fin | refine zM ?_ | apply O.i | refine sP ?_ | refine sQ fun _ => ?_ | refine zg fun _ => ?_ | refine sX fun _ => ?_ | refine sPf ?_ | refine sPt ?_ | (refine k1 false [] c136 ?_; (first | refine k2 hcp ?_ | refine k2 (l1Copy_ok (a := a)) ?_)) | (refine k1 false [] c67 ?_; refine k2 (spDiskOk_ok h hPd) ?_) | (refine k1 false [(1000000, 0, none)] c140 ?_; refine k2 hdo ?_) | (focus (refine zs ?_ ?_; all_goals (intro hg; first | (exfalso; ((try simp [-List.getD_eq_getElem?_getD] at hg) <;> omega)) | ((first | subst hg | rw [hg] | skip); (focus (refine zj ?_ ?_; all_goals (intro hb; first | (exfalso; revert hb; decide) | ((try refine sA 8 ?_); (try refine sA 34 ?_); refine k1 false [(1000000, 0, none)] c140 ?_; refine k2 hdo ?_) | refine Sl.weak (Weak.refl _ _) ?_))))))) | refine zI ?_ ?_ | (intro hb; (try simp [-List.getD_eq_getElem?_getD] at hb); (try (exfalso; omega))))
        exact rT
      · have hD := dN0
        refine sT 42 [.cell 6 35, .tmp 7] Try.func85 fun w0 S0 ρ0 φ0 => ?_
        repeat' (first | apply W.seq | apply W.skip | apply W.region | apply W.block | apply N.code | apply N.blk | apply Sl.nil | apply W.exit | apply W.ret | apply E.hit | apply E.code | apply E.fin | refine zM ?_ | apply O.i | refine sP ?_ | refine sQ fun _ => ?_ | refine zg fun _ => ?_ | refine sX fun _ => ?_ | refine sPf ?_ | refine sPt ?_ | (refine k1 false [] c136 ?_; (first | refine k2 hcp ?_ | refine k2 (l1Copy_ok (a := a)) ?_)) | (refine k1 false [] c67 ?_; refine k2 (spDiskOk_ok h hPd) ?_) | (refine k1 false [(1000000, 0, none)] c140 ?_; refine k2 hdo ?_) | (focus (refine zs ?_ ?_; all_goals (intro hg; first | (exfalso; ((try simp [-List.getD_eq_getElem?_getD] at hg) <;> omega)) | ((first | subst hg | rw [hg] | skip); (focus (refine zj ?_ ?_; all_goals (intro hb; first | (exfalso; revert hb; decide) | ((try refine sA 8 ?_); (try refine sA 34 ?_); refine k1 false [(1000000, 0, none)] c140 ?_; refine k2 hdo ?_) | refine Sl.weak (Weak.refl _ _) ?_))))))) | refine zI ?_ ?_ | (intro hb; (try simp [-List.getD_eq_getElem?_getD] at hb); (try (exfalso; omega))))
        exact rT
  | true =>
    rw [if_pos rfl, if_pos rfl]
    obtain ⟨hd, hol⟩ := hPd.mp rfl
    obtain rfl : d0 = true := hd0.mpr hd
    have hPd := hd0
    have hA1 : a.Safe = (A 0).Safe := by rw [hA]; rfl
    have hA2 : a.Pending = (A 0).Pending := by rw [hA]; rfl
    have hAs : ∀ k, A (k + 1) = doA (A k) (ops.getD k default) := fun k => by rw [hA]; rfl
    have hAok : ∀ k, k ≤ n → diskOk (A k) := fun k hk => by rw [hA]; exact playA_ok hd hN.ok k hk
    have hle := hN.le
    have hlt := hN.lt
    have hok := hN.ok
    have hstop := hN.stop
    rw [← hA] at hok hstop ⊢
    have hopl : ∀ k, (ops.getD k default).Data.length < 2 ^ 40 := fun k => by
      by_cases e : k < ops.length
      · have h1 := sumN_get totOp ops k e
        have h2 : totOp (ops.getD k default) = (ops.getD k default).Data.length := rfl
        have h3 : totOpS ops = ops.length + sumN totOp ops := rfl
        omega
      · rw [List.getD_eq_getElem?_getD, List.getElem?_eq_none (by omega)]
        exact Nat.two_pow_pos 40
    have htn : totDisk (A n) < 2 ^ 40 := Nat.lt_of_le_of_lt (diskOk_tot (hAok n (Nat.le_refl _))) (by omega)
    have hcp := l1Copy_ok htn
    simp only [fDisk, oDisk] at hcp
    have hD := dN0
    have hD := dN0
    refine sT 42 [.cell 6 35, .tmp 7] Try.func85 fun w0 S0 ρ0 φ0 => ?_
    repeat' (first | apply W.seq | apply W.skip | apply W.region | apply W.block | apply N.code | apply N.blk | apply Sl.nil | apply W.exit | apply W.ret | apply E.hit | apply E.code | apply E.fin | refine zM ?_ | apply O.i | refine sP ?_ | refine sQ fun _ => ?_ | refine zg fun _ => ?_ | refine sX fun _ => ?_ | refine sPf ?_ | refine sPt ?_ | (refine k1 false [] c136 ?_; (first | refine k2 hcp ?_ | refine k2 (l1Copy_ok (a := a)) ?_)) | (refine k1 false [] c67 ?_; refine k2 (spDiskOk_ok h hPd) ?_) | (refine k1 false [(1000000, 0, none)] c140 ?_; refine k2 hdo ?_) | (focus (refine zs ?_ ?_; all_goals (intro hg; first | (exfalso; ((try simp [-List.getD_eq_getElem?_getD] at hg) <;> omega)) | ((first | subst hg | rw [hg] | skip); (focus (refine zj ?_ ?_; all_goals (intro hb; first | (exfalso; revert hb; decide) | ((try refine sA 8 ?_); (try refine sA 34 ?_); refine k1 false [(1000000, 0, none)] c140 ?_; refine k2 hdo ?_) | refine Sl.weak (Weak.refl _ _) ?_))))))) | refine zI ?_ ?_ | (intro hb; (try simp [-List.getD_eq_getElem?_getD] at hb); (try (exfalso; omega))))
    (refine gF 8 0 0 ?_; refine gF 8 0 1 ?_)
    have hD := And.intro (hA1.symm) ((hA2.symm))
    refine W.iter (fun k => ⟨42, [(1, .pd (encL fOp ops)), (2, .pl (.int .i64 m)), (6, .pt 6 0 0), (8, .pt 8 0 0), (9, .pl (.int .i64 k))], [(6, .c 2 [[.nl, .nl]]), (8, .c 2 [[.ow 1 (encL oB (A k).Safe), .ow 2 (encL oPend (A k).Pending)]])], []⟩) (fun k => True) (n) (Weak.to (by first | rfl | (simp only [virtAt_n, virt_n]; rfl)) ?s3 ?b3 (by exact dfe)) ?h3 (fun k hk hH => ?body3)
    (try case' s3 => first | exact to1 | (simp +decide only [go_sem]; (try simp (disch := first | exact ds | fail) only [go_sem, Nat.reduceAdd, Nat.reduceMul, Nat.reduceSub, Int.reduceToNat, Int.reduceNeg, Nat.reduceLeDiff, hD]); (try simp only [SV.pl.injEq, SV.sl.injEq, Value.int.injEq, Bk.c.injEq, encI_inj, true_and]); (try omega))); (try case' b3 => first | exact to1 | (simp +decide only [go_sem]; (try simp (disch := first | exact ds | fail) only [go_sem, Nat.reduceAdd, Nat.reduceMul, Nat.reduceSub, Int.reduceToNat, Int.reduceNeg, Nat.reduceLeDiff, hD]); (try simp only [SV.pl.injEq, SV.sl.injEq, Value.int.injEq, Bk.c.injEq, encI_inj, true_and]); (try omega))); (try case' h3 => first | exact to1 | (simp +decide only [go_sem]; (try simp (disch := first | exact ds | fail) only [go_sem, Nat.reduceAdd, Nat.reduceMul, Nat.reduceSub, Int.reduceToNat, Int.reduceNeg, Nat.reduceLeDiff, hD]); (try simp only [SV.pl.injEq, SV.sl.injEq, Value.int.injEq, Bk.c.injEq, encI_inj, true_and]); (try omega)))
    by_cases hkn : k < n
    · have hdo := l1Do_ok (a := A k) (o := ops.getD k default) (b := true) (Nat.lt_of_le_of_lt (diskOk_tot (hAok k hk)) (by omega)) (hopl k) (diskOk_inR (hAok k hk)) ⟨fun _ => hok k hkn, fun _ => rfl⟩
      rw [if_pos rfl, ← hAs] at hdo
      simp only [oDisk, fOp] at hdo
      have hD := dN0
      repeat' (first | apply W.seq | apply W.skip | apply W.region | apply W.block | apply N.code | apply N.blk | apply Sl.nil | apply W.exit | apply W.ret | apply E.hit | apply E.code | apply E.fin | refine zM ?_ | apply O.i | refine sP ?_ | refine sQ fun _ => ?_ | refine zg fun _ => ?_ | refine sX fun _ => ?_ | refine sPf ?_ | refine sPt ?_ | (refine k1 false [] c136 ?_; (first | refine k2 hcp ?_ | refine k2 (l1Copy_ok (a := a)) ?_)) | (refine k1 false [] c67 ?_; refine k2 (spDiskOk_ok h hPd) ?_) | (refine k1 false [(1000000, 0, none)] c140 ?_; refine k2 hdo ?_) | (focus (refine zs ?_ ?_; all_goals (intro hg; first | (exfalso; ((try simp [-List.getD_eq_getElem?_getD] at hg) <;> omega)) | ((first | subst hg | rw [hg] | skip); (focus (refine zj ?_ ?_; all_goals (intro hb; first | (exfalso; revert hb; decide) | ((try refine sA 8 ?_); (try refine sA 34 ?_); refine k1 false [(1000000, 0, none)] c140 ?_; refine k2 hdo ?_) | refine Sl.weak (Weak.refl _ _) ?_))))))) | refine zI ?_ ?_ | (intro hb; (try simp [-List.getD_eq_getElem?_getD] at hb); (try (exfalso; omega))))
      (refine N.fin ⟨by omega, ?h4, ?w4⟩; case' w4 => (refine Weak.to (by first | rfl | (simp only [virtAt_n, virt_n]; rfl)) ?s4 ?b4 (by exact dfe)))
      (try case' s4 => first | exact to1 | (simp +decide only [go_sem]; (try simp (disch := first | exact ds | fail) only [go_sem, Nat.reduceAdd, Nat.reduceMul, Nat.reduceSub, Int.reduceToNat, Int.reduceNeg, Nat.reduceLeDiff, hD]); (try simp only [SV.pl.injEq, SV.sl.injEq, Value.int.injEq, Bk.c.injEq, encI_inj, true_and]); (try omega))); (try case' b4 => first | exact to1 | (simp +decide only [go_sem]; (try simp (disch := first | exact ds | fail) only [go_sem, Nat.reduceAdd, Nat.reduceMul, Nat.reduceSub, Int.reduceToNat, Int.reduceNeg, Nat.reduceLeDiff, hD]); (try simp only [SV.pl.injEq, SV.sl.injEq, Value.int.injEq, Bk.c.injEq, encI_inj, true_and]); (try omega))); (try case' h4 => first | exact to1 | (simp +decide only [go_sem]; (try simp (disch := first | exact ds | fail) only [go_sem, Nat.reduceAdd, Nat.reduceMul, Nat.reduceSub, Int.reduceToNat, Int.reduceNeg, Nat.reduceLeDiff, hD]); (try simp only [SV.pl.injEq, SV.sl.injEq, Value.int.injEq, Bk.c.injEq, encI_inj, true_and]); (try omega)))
    · obtain rfl : k = n := by omega
      by_cases hbn : k < ops.length ∧ (k : Int) < m
      · have hno : ¬ doOk (A k) (ops.getD k default) := by
          rcases hstop with e | e | e
          · omega
          · omega
          · exact e
        have hdo := l1Do_ok (a := A k) (o := ops.getD k default) (b := false) (Nat.lt_of_le_of_lt (diskOk_tot (hAok k hk)) (by omega)) (hopl k) (diskOk_inR (hAok k hk)) ⟨fun e => (by cases e), fun e => absurd e hno⟩
        rw [if_neg (by simp)] at hdo
        simp only [oDisk, fOp] at hdo
        have hD := dN0
        repeat' (first | apply W.seq | apply W.skip | refine W.region (id := 0) ?_ | refine W.region (id := 1) ?_ | refine W.region (id := 2) ?_ | refine W.region (id := 3) ?_ | refine W.region (id := 4) ?_ | refine W.region (id := 5) ?_ | refine W.region (id := 6) ?_ | apply W.block | apply N.code | apply N.blk | apply Sl.nil | apply W.exit | apply W.ret | apply E.hit | apply E.code | apply E.fin | refine zM ?_ | apply O.i | refine sP ?_ | refine sQ fun _ => ?_ | refine zg fun _ => ?_ | refine sX fun _ => ?_ | refine sPf ?_ | refine sPt ?_ | (refine k1 false [] c136 ?_; (first | refine k2 hcp ?_ | refine k2 (l1Copy_ok (a := a)) ?_)) | (refine k1 false [] c67 ?_; refine k2 (spDiskOk_ok h hPd) ?_) | (refine k1 false [(1000000, 0, none)] c140 ?_; refine k2 hdo ?_) | (focus (refine zs ?_ ?_; all_goals (intro hg; first | (exfalso; ((try simp [-List.getD_eq_getElem?_getD] at hg) <;> omega)) | ((first | subst hg | rw [hg] | skip); (focus (refine zj ?_ ?_; all_goals (intro hb; first | (exfalso; revert hb; decide) | ((try refine sA 8 ?_); (try refine sA 34 ?_); refine k1 false [(1000000, 0, none)] c140 ?_; refine k2 hdo ?_) | refine Sl.weak (Weak.refl _ _) ?_))))))) | refine zI ?_ ?_ | (intro hb; (try simp [-List.getD_eq_getElem?_getD] at hb); (try (exfalso; omega))))
        (refine gU 8 0 0 2000000 ?_; refine gU 8 0 1 2000001 ?_)
        repeat' (first | apply W.seq | apply W.skip | apply W.region | apply W.block | apply N.code | apply N.blk | apply Sl.nil | apply W.exit | apply W.ret | apply E.hit | apply E.code | apply E.fin | refine zM ?_ | apply O.i | refine sP ?_ | refine sQ fun _ => ?_ | refine zg fun _ => ?_ | refine sX fun _ => ?_ | refine sPf ?_ | refine sPt ?_ | (refine k1 false [] c136 ?_; (first | refine k2 hcp ?_ | refine k2 (l1Copy_ok (a := a)) ?_)) | (refine k1 false [] c67 ?_; refine k2 (spDiskOk_ok h hPd) ?_) | (refine k1 false [(1000000, 0, none)] c140 ?_; refine k2 hdo ?_) | (focus (refine zs ?_ ?_; all_goals (intro hg; first | (exfalso; ((try simp [-List.getD_eq_getElem?_getD] at hg) <;> omega)) | ((first | subst hg | rw [hg] | skip); (focus (refine zj ?_ ?_; all_goals (intro hb; first | (exfalso; revert hb; decide) | ((try refine sA 8 ?_); (try refine sA 34 ?_); refine k1 false [(1000000, 0, none)] c140 ?_; refine k2 hdo ?_) | refine Sl.weak (Weak.refl _ _) ?_))))))) | refine zI ?_ ?_ | (intro hb; (try simp [-List.getD_eq_getElem?_getD] at hb); (try (exfalso; omega))))
        exact rT
      · have hdo := hbn
        have hD := dN0
        repeat' (first | apply W.seq | apply W.skip | refine W.region (id := 0) ?_ | refine W.region (id := 1) ?_ | refine W.region (id := 2) ?_ | refine W.region (id := 3) ?_ | refine W.region (id := 4) ?_ | refine W.region (id := 5) ?_ | refine W.region (id := 6) ?_ | apply W.block | apply N.code | apply N.blk | apply Sl.nil | apply W.exit | apply W.ret | apply E.hit | apply E.code | apply E.fin | refine zM ?_ | apply O.i | refine sP ?_ | refine sQ fun _ => ?_ | refine zg fun _ => ?_ | refine sX fun _ => ?_ | refine sPf ?_ | refine sPt ?_ | (refine k1 false [] c136 ?_; (first | refine k2 hcp ?_ | refine k2 (l1Copy_ok (a := a)) ?_)) | (refine k1 false [] c67 ?_; refine k2 (spDiskOk_ok h hPd) ?_) | (refine k1 false [(1000000, 0, none)] c140 ?_; refine k2 hdo ?_) | (focus (refine zs ?_ ?_; all_goals (intro hg; first | (exfalso; ((try simp [-List.getD_eq_getElem?_getD] at hg) <;> omega)) | ((first | subst hg | rw [hg] | skip); (focus (refine zj ?_ ?_; all_goals (intro hb; first | (exfalso; revert hb; decide) | ((try refine sA 8 ?_); (try refine sA 34 ?_); refine k1 false [(1000000, 0, none)] c140 ?_; refine k2 hdo ?_) | refine Sl.weak (Weak.refl _ _) ?_))))))) | refine zI ?_ ?_ | (intro hb; (try simp [-List.getD_eq_getElem?_getD] at hb); (try (exfalso; omega))))
        (refine gU 8 0 0 2000000 ?_; refine gU 8 0 1 2000001 ?_)
        repeat' (first | apply W.seq | apply W.skip | apply W.region | apply W.block | apply N.code | apply N.blk | apply Sl.nil | apply W.exit | apply W.ret | apply E.hit | apply E.code | apply E.fin | refine zM ?_ | apply O.i | refine sP ?_ | refine sQ fun _ => ?_ | refine zg fun _ => ?_ | refine sX fun _ => ?_ | refine sPf ?_ | refine sPt ?_ | (refine k1 false [] c136 ?_; (first | refine k2 hcp ?_ | refine k2 (l1Copy_ok (a := a)) ?_)) | (refine k1 false [] c67 ?_; refine k2 (spDiskOk_ok h hPd) ?_) | (refine k1 false [(1000000, 0, none)] c140 ?_; refine k2 hdo ?_) | (focus (refine zs ?_ ?_; all_goals (intro hg; first | (exfalso; ((try simp [-List.getD_eq_getElem?_getD] at hg) <;> omega)) | ((first | subst hg | rw [hg] | skip); (focus (refine zj ?_ ?_; all_goals (intro hb; first | (exfalso; revert hb; decide) | ((try refine sA 8 ?_); (try refine sA 34 ?_); refine k1 false [(1000000, 0, none)] c140 ?_; refine k2 hdo ?_) | refine Sl.weak (Weak.refl _ _) ?_))))))) | refine zI ?_ ?_ | (intro hb; (try simp [-List.getD_eq_getElem?_getD] at hb); (try (exfalso; omega))))
        exact rT
end Go.Proofs.Ytfmbifnbmlhhjaa

