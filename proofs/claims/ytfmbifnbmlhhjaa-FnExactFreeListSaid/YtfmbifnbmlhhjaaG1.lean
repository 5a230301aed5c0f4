import Derived.Test.YtfmbifnbmlhhjaaF4
import Derived.Test.YtfmbifnbmlhhjaaD3
import Derived.Test.YtfmbifnbmlhhjaaUc
namespace Go.Proofs.Ytfmbifnbmlhhjaa
open Go Go.Vcg Go.IntWalk
set_option maxRecDepth 100000
set_option maxHeartbeats 20000000
set_option linter.unusedSimpArgs false
set_option linter.unusedVariables false
theorem c101 : CallOk Try.prog 101 := ⟨_, Try.func101, rfl, by kernel_rfl⟩
theorem c27 : CallOk Try.prog 27 := ⟨_, Try.func27, rfl, by kernel_rfl⟩
theorem c98 : CallOk Try.prog 98 := ⟨_, Try.func98, rfl, by kernel_rfl⟩
theorem c25 : CallOk Try.prog 25 := ⟨_, Try.func25, rfl, by kernel_rfl⟩
theorem c156 : CallOk Try.prog 156 := ⟨_, Try.func156, rfl, by kernel_rfl⟩
/-- The bytes of a page: its sectors, one behind the other. -/
def pgCat (a : DiskA) (l : List (Int × Int)) (id : Int) : Nat → List Int
  | 0 => []
  | k + 1 => pgCat a l id k ++ secV a l (4 * id + k)
theorem pgCat_len (a : DiskA) (l : List (Int × Int)) (id : Int) (k : Nat) : (pgCat a l id k).length ≤ k * totDisk a := by
  induction k with
  | zero => exact Nat.zero_le _
  | succ k ih =>
    have := secV_len a l (4 * id + k)
    rw [pgCat, List.length_append, Nat.add_mul, Nat.one_mul]
    omega
theorem quo4 {n : Nat} (h : n < 2 ^ 60) : IntKind.i64.wrap ((n : Int).tdiv 4) = ((n / 4 : Nat) : Int) := by
  rw [Int.tdiv_eq_ediv_of_nonneg (by omega)]
  rw [show ((n : Int) / 4) = ((n / 4 : Nat) : Int) by omega]
  exact nWrap (by omega) (by omega)
theorem pages_ok {a : DiskA} (h : totDisk a < 2 ^ 40 := by exact pm) : TSpec Try.prog 156 [] [.ag (fDisk a)] false [] (.pl (.int .i64 (a.Safe.length / 4 : Nat))) := by
  simp only [fDisk]
  have htot : totDisk a = (a.Safe.length + sumN List.length a.Safe) + (a.Pending.length + sumN totPend a.Pending) := rfl
  have hq := quo4 (n := a.Safe.length) (by omega)
  have hD := (hq)
  have hD := (hq)
  refine sT 7 [.tmp 2] Try.func156 fun w0 S0 ρ0 φ0 => ?_
  repeat' (first | apply W.seq | apply W.skip | apply W.region | apply W.block | apply N.code | apply N.blk | apply Sl.nil | apply W.exit | apply W.ret | apply E.hit | apply E.code | apply E.fin | refine zM ?_ | apply O.i | refine sP ?_ | refine sQ fun _ => ?_ | refine sX fun _ => ?_ | refine zI ?_ ?_ | (intro hb; (try simp [-List.getD_eq_getElem?_getD] at hb); (try (exfalso; omega))))
  exact rT
theorem page1_ok {a : DiskA} {id : Int} {l : List (Int × Int)} (h : totDisk a < 2 ^ 40) (h1 : ¬ (0 ≤ id ∧ id < (a.Safe.length / 4 : Nat))) :
    TSpec Try.prog 101 [(1000000, devB 0 a), (1000001, .m (mII l))] [.pt 1000000 0 0, .pl (.int .i64 id)] true [(1000000, devB 0 a), (1000001, .m (mII l))] (.tu [.ag [.pl (.int .i64 0), .pl (.int .i64 0), .pl (.int .i64 0), .nl], .ifc 117 (.pl (.string sNoPage))]) := by
  simp only [devB, devR]
  by_cases h0 : 0 ≤ id
  · have h2 : ¬ id < (a.Safe.length / 4 : Nat) := fun e => h1 ⟨h0, e⟩
    clear h1
    have hD := dN0
    refine sT 44 [.cell 4 109, .tmp 5] Try.func101 fun w0 S0 ρ0 φ0 => ?_
    repeat' (first | apply W.seq | apply W.skip | refine W.region (id := 0) ?_ | refine W.region (id := 1) ?_ | refine W.region (id := 2) ?_ | refine W.region (id := 3) ?_ | refine W.region (id := 5) ?_ | refine W.region (id := 6) ?_ | refine W.region (id := 7) ?_ | refine W.region (id := 8) ?_ | refine W.region (id := 9) ?_ | refine W.region (id := 10) ?_ | apply W.block | apply N.code | apply N.blk | apply Sl.nil | apply W.exit | apply W.ret | apply E.hit | apply E.code | apply E.fin | refine zM ?_ | apply O.i | refine sP ?_ | refine sQ fun _ => ?_ | refine zg fun _ => ?_ | refine sX fun _ => ?_ | refine sPf ?_ | refine sPt ?_ | (refine k1 false [] c156 ?_; refine k2 (pages_ok (a := a) h) ?_) | (focus (refine zs ?_ ?_; all_goals (intro hg; first | (exfalso; ((try simp [-List.getD_eq_getElem?_getD] at hg) <;> omega)) | ((first | subst hg | rw [hg] | skip); (focus (refine zj ?_ ?_; all_goals (intro hb; first | (exfalso; revert hb; decide) | ((try refine sA 17 ?_); refine k1 false [] c156 ?_; refine k2 (pages_ok (a := a) h) ?_) | refine Sl.weak (Weak.refl _ _) ?_))))))) | (refine k1 true [(1000000, 0, none), (1000001, 0, some 1000001)] c141 ?_; refine k2 (sector_ok (a := a) (l := l) h (hl _)) ?_) | (refine k1 true [] c79 ?_; refine k2 hp ?_) | (refine lZ 2000000 ?_; refine k1 true [] c79 ?_; refine k2 hp ?_) | refine zI ?_ ?_ | (intro hb; (try simp [-List.getD_eq_getElem?_getD] at hb); (try (exfalso; omega))))
    all_goals exact rS
  · clear h1
    have hD := dN0
    refine sT 44 [.cell 4 109, .tmp 5] Try.func101 fun w0 S0 ρ0 φ0 => ?_
    repeat' (first | apply W.seq | apply W.skip | refine W.region (id := 0) ?_ | refine W.region (id := 1) ?_ | refine W.region (id := 2) ?_ | refine W.region (id := 3) ?_ | refine W.region (id := 5) ?_ | refine W.region (id := 6) ?_ | refine W.region (id := 7) ?_ | refine W.region (id := 8) ?_ | refine W.region (id := 9) ?_ | refine W.region (id := 10) ?_ | apply W.block | apply N.code | apply N.blk | apply Sl.nil | apply W.exit | apply W.ret | apply E.hit | apply E.code | apply E.fin | refine zM ?_ | apply O.i | refine sP ?_ | refine sQ fun _ => ?_ | refine zg fun _ => ?_ | refine sX fun _ => ?_ | refine sPf ?_ | refine sPt ?_ | (refine k1 false [] c156 ?_; refine k2 (pages_ok (a := a) h) ?_) | (focus (refine zs ?_ ?_; all_goals (intro hg; first | (exfalso; ((try simp [-List.getD_eq_getElem?_getD] at hg) <;> omega)) | ((first | subst hg | rw [hg] | skip); (focus (refine zj ?_ ?_; all_goals (intro hb; first | (exfalso; revert hb; decide) | ((try refine sA 17 ?_); refine k1 false [] c156 ?_; refine k2 (pages_ok (a := a) h) ?_) | refine Sl.weak (Weak.refl _ _) ?_))))))) | (refine k1 true [(1000000, 0, none), (1000001, 0, some 1000001)] c141 ?_; refine k2 (sector_ok (a := a) (l := l) h (hl _)) ?_) | (refine k1 true [] c79 ?_; refine k2 hp ?_) | (refine lZ 2000000 ?_; refine k1 true [] c79 ?_; refine k2 hp ?_) | refine zI ?_ ?_ | (intro hb; (try simp [-List.getD_eq_getElem?_getD] at hb); (try (exfalso; omega))))
    all_goals exact rS
theorem page2_ok {a : DiskA} {id : Int} {l : List (Int × Int)} {s : ByteArray} (h : totDisk a < 2 ^ 40) (hl : ∀ k i, agetI l k = some i → 0 ≤ i ∧ i < a.Pending.length) (h1 : 0 ≤ id ∧ id < (a.Safe.length / 4 : Nat))
    (hp : TSpec Try.prog 79 [] [.pl (.int .i64 id), .pd (encI .u8 (pgCat a l id 4))] true [] (.tu [.ag [.pl (.int .i64 0), .pl (.int .i64 0), .pl (.int .i64 0), .nl], .ifc 117 (.pl (.string s))])) :
    TSpec Try.prog 101 [(1000000, devB 0 a), (1000001, .m (mII l))] [.pt 1000000 0 0, .pl (.int .i64 id)] true [(1000000, devB 0 a), (1000001, .m (mII l))] (.tu [.ag [.pl (.int .i64 0), .pl (.int .i64 0), .pl (.int .i64 0), .nl], .ifc 117 (.pl (.string s))]) := by
  simp only [devB, devR]
  have htot : totDisk a = (a.Safe.length + sumN List.length a.Safe) + (a.Pending.length + sumN totPend a.Pending) := rfl
  have hD := dN0
  refine sT 44 [.cell 4 109, .tmp 5] Try.func101 fun w0 S0 ρ0 φ0 => ?_
  obtain ⟨h0, h2⟩ := h1
  repeat' (first | apply W.seq | apply W.skip | apply W.region | apply W.block | apply N.code | apply N.blk | apply Sl.nil | apply W.exit | apply W.ret | apply E.hit | apply E.code | apply E.fin | refine zM ?_ | apply O.i | refine sP ?_ | refine sQ fun _ => ?_ | refine zg fun _ => ?_ | refine sX fun _ => ?_ | refine sPf ?_ | refine sPt ?_ | (refine k1 false [] c156 ?_; refine k2 (pages_ok (a := a) h) ?_) | (focus (refine zs ?_ ?_; all_goals (intro hg; first | (exfalso; ((try simp [-List.getD_eq_getElem?_getD] at hg) <;> omega)) | ((first | subst hg | rw [hg] | skip); (focus (refine zj ?_ ?_; all_goals (intro hb; first | (exfalso; revert hb; decide) | ((try refine sA 17 ?_); refine k1 false [] c156 ?_; refine k2 (pages_ok (a := a) h) ?_) | refine Sl.weak (Weak.refl _ _) ?_))))))) | (refine k1 true [(1000000, 0, none), (1000001, 0, some 1000001)] c141 ?_; refine k2 (sector_ok (a := a) (l := l) h (hl _)) ?_) | (refine k1 true [] c79 ?_; refine k2 hp ?_) | (refine lZ 2000000 ?_; refine k1 true [] c79 ?_; refine k2 hp ?_) | refine zI ?_ ?_ | (intro hb; (try simp [-List.getD_eq_getElem?_getD] at hb); (try (exfalso; omega))))
  (refine gV 6 2000000 1 ?_)
  refine W.iter (fun k => ⟨44, [(0, .pt 1000000 0 0), (1, .pl (.int .i64 id)), (4, .pt 4 0 0), (6, .sl 2000000 0 (pgCat a l id k).length), (23, .pl (.int .i64 k))], [(1000000, .c 5 [devR 0 (.pd (encL fB a.Safe)) (.pd (encL fPend a.Pending)) (.mr 1000001)]), (1000001, .m (mII l)), (4, .c 4 [[.pl (.int .i64 0), .pl (.int .i64 0), .pl (.int .i64 0), .nl]]), (2000000, .c 1 (encI .u8 (pgCat a l id k)))], []⟩) (fun k => True) (4) (Weak.to (by first | rfl | (simp only [virtAt_n, virt_n]; rfl)) ?s1 ?b1 (by exact dfe)) ?h1 (fun k hk hH => ?body1)
  (try case' s1 => first | exact to1 | (simp +decide only [go_sem]; (try simp (disch := first | exact ds | fail) only [go_sem, Nat.reduceAdd, Nat.reduceMul, Nat.reduceSub, Int.reduceToNat, Int.reduceNeg, Nat.reduceLeDiff, hD]); (try simp only [SV.pl.injEq, SV.sl.injEq, Value.int.injEq, Bk.c.injEq, encI_inj, true_and]); (try omega))); (try case' b1 => first | exact to1 | (simp +decide only [go_sem]; (try simp (disch := first | exact ds | fail) only [go_sem, Nat.reduceAdd, Nat.reduceMul, Nat.reduceSub, Int.reduceToNat, Int.reduceNeg, Nat.reduceLeDiff, hD]); (try simp only [SV.pl.injEq, SV.sl.injEq, Value.int.injEq, Bk.c.injEq, encI_inj, true_and]); (try omega))); (try case' h1 => first | exact to1 | (simp +decide only [go_sem]; (try simp (disch := first | exact ds | fail) only [go_sem, Nat.reduceAdd, Nat.reduceMul, Nat.reduceSub, Int.reduceToNat, Int.reduceNeg, Nat.reduceLeDiff, hD]); (try simp only [SV.pl.injEq, SV.sl.injEq, Value.int.injEq, Bk.c.injEq, encI_inj, true_and]); (try omega)))
  · rfl
  · rfl
  have hcl := pgCat_len a l id k
  have hsl := secV_len a l (4 * id + k)
  have hst : pgCat a l id (k + 1) = pgCat a l id k ++ secV a l (4 * id + k) := rfl
  by_cases hk4 : k < 4
  · obtain ⟨xs, hxs⟩ : ∃ xs, xs = pgCat a l id k := ⟨_, rfl⟩
    obtain ⟨ys, hys⟩ : ∃ ys, ys = secV a l (4 * id + k) := ⟨_, rfl⟩
    rw [← hys] at hst hsl
    rw [← hxs] at hst hcl ⊢
    have hkt : k * totDisk a ≤ 4 * totDisk a := Nat.mul_le_mul_right _ (by omega)
    have hcl2 : xs.length ≤ 4 * totDisk a := Nat.le_trans hcl hkt
    clear hcl hkt
    have hD := (hys.symm)
    repeat' (first | apply W.seq | apply W.skip | apply W.region | apply W.block | apply N.code | apply N.blk | apply Sl.nil | apply W.exit | apply W.ret | apply E.hit | apply E.code | apply E.fin | refine zM ?_ | apply O.i | refine sP ?_ | refine sQ fun _ => ?_ | refine zg fun _ => ?_ | refine sX fun _ => ?_ | refine sPf ?_ | refine sPt ?_ | (refine k1 false [] c156 ?_; refine k2 (pages_ok (a := a) h) ?_) | (focus (refine zs ?_ ?_; all_goals (intro hg; first | (exfalso; ((try simp [-List.getD_eq_getElem?_getD] at hg) <;> omega)) | ((first | subst hg | rw [hg] | skip); (focus (refine zj ?_ ?_; all_goals (intro hb; first | (exfalso; revert hb; decide) | ((try refine sA 17 ?_); refine k1 false [] c156 ?_; refine k2 (pages_ok (a := a) h) ?_) | refine Sl.weak (Weak.refl _ _) ?_))))))) | (refine k1 true [(1000000, 0, none), (1000001, 0, some 1000001)] c141 ?_; refine k2 (sector_ok (a := a) (l := l) h (hl _)) ?_) | (refine k1 true [] c79 ?_; refine k2 hp ?_) | (refine lZ 2000000 ?_; refine k1 true [] c79 ?_; refine k2 hp ?_) | refine zI ?_ ?_ | (intro hb; (try simp [-List.getD_eq_getElem?_getD] at hb); (try (exfalso; omega))))
    (refine N.fin ⟨by omega, ?h2, ?w2⟩; case' w2 => (refine eR 37 2000000 ?_; refine Weak.to (by first | rfl | (simp only [virtAt_n, virt_n]; rfl)) ?s2 ?b2 (by exact dfe)))
    (try case' s2 => first | exact to1 | (simp +decide only [go_sem]; (try simp (disch := first | exact ds | fail) only [go_sem, Nat.reduceAdd, Nat.reduceMul, Nat.reduceSub, Int.reduceToNat, Int.reduceNeg, Nat.reduceLeDiff, hD]); (try simp only [SV.pl.injEq, SV.sl.injEq, Value.int.injEq, Bk.c.injEq, encI_inj, true_and]); (try omega))); (try case' b2 => first | exact to1 | (simp +decide only [go_sem]; (try simp (disch := first | exact ds | fail) only [go_sem, Nat.reduceAdd, Nat.reduceMul, Nat.reduceSub, Int.reduceToNat, Int.reduceNeg, Nat.reduceLeDiff, hD]); (try simp only [SV.pl.injEq, SV.sl.injEq, Value.int.injEq, Bk.c.injEq, encI_inj, true_and]); (try omega))); (try case' h2 => first | exact to1 | (simp +decide only [go_sem]; (try simp (disch := first | exact ds | fail) only [go_sem, Nat.reduceAdd, Nat.reduceMul, Nat.reduceSub, Int.reduceToNat, Int.reduceNeg, Nat.reduceLeDiff, hD]); (try simp only [SV.pl.injEq, SV.sl.injEq, Value.int.injEq, Bk.c.injEq, encI_inj, true_and]); (try omega)))
    · rw [hst]
    · rw [hst, List.length_append]
      exact ⟨rfl, by omega⟩
  obtain rfl : k = 4 := by omega
  repeat' (first | apply W.seq | apply W.skip | apply W.region | apply W.block | apply N.code | apply N.blk | apply Sl.nil | apply W.exit | apply W.ret | apply E.hit | apply E.code | apply E.fin | refine zM ?_ | apply O.i | refine sP ?_ | refine sQ fun _ => ?_ | refine zg fun _ => ?_ | refine sX fun _ => ?_ | refine sPf ?_ | refine sPt ?_ | (refine k1 false [] c156 ?_; refine k2 (pages_ok (a := a) h) ?_) | (focus (refine zs ?_ ?_; all_goals (intro hg; first | (exfalso; ((try simp [-List.getD_eq_getElem?_getD] at hg) <;> omega)) | ((first | subst hg | rw [hg] | skip); (focus (refine zj ?_ ?_; all_goals (intro hb; first | (exfalso; revert hb; decide) | ((try refine sA 17 ?_); refine k1 false [] c156 ?_; refine k2 (pages_ok (a := a) h) ?_) | refine Sl.weak (Weak.refl _ _) ?_))))))) | (refine k1 true [(1000000, 0, none), (1000001, 0, some 1000001)] c141 ?_; refine k2 (sector_ok (a := a) (l := l) h (hl _)) ?_) | (refine k1 true [] c79 ?_; refine k2 hp ?_) | (refine lZ 2000000 ?_; refine k1 true [] c79 ?_; refine k2 hp ?_) | refine zI ?_ ?_ | (intro hb; (try simp [-List.getD_eq_getElem?_getD] at hb); (try (exfalso; omega))))
  all_goals exact rS
theorem page3_ok {a : DiskA} {id : Int} {l : List (Int × Int)} {q0 q1 q2 : Int} {xb : List Int} (h : totDisk a < 2 ^ 40) (hl : ∀ k i, agetI l k = some i → 0 ≤ i ∧ i < a.Pending.length) (h1 : 0 ≤ id ∧ id < (a.Safe.length / 4 : Nat))
    (hp : TSpec Try.prog 79 [] [.pl (.int .i64 id), .pd (encI .u8 (pgCat a l id 4))] true [] (.tu [.ag [.pl (.int .i64 q0), .pl (.int .i64 q1), .pl (.int .i64 q2), .pd (encI .u8 xb)], .pl .nilIface])) :
    TSpec Try.prog 101 [(1000000, devB 0 a), (1000001, .m (mII l))] [.pt 1000000 0 0, .pl (.int .i64 id)] true [(1000000, devB 0 a), (1000001, .m (mII l))] (.tu [.ag [.pl (.int .i64 q0), .pl (.int .i64 q1), .pl (.int .i64 q2), .pd (encI .u8 xb)], .pl .nilIface]) := by
  simp only [devB, devR]
  have htot : totDisk a = (a.Safe.length + sumN List.length a.Safe) + (a.Pending.length + sumN totPend a.Pending) := rfl
  have hD := dN0
  refine sT 44 [.cell 4 109, .tmp 5] Try.func101 fun w0 S0 ρ0 φ0 => ?_
  obtain ⟨h0, h2⟩ := h1
  repeat' (first | apply W.seq | apply W.skip | apply W.region | apply W.block | apply N.code | apply N.blk | apply Sl.nil | apply W.exit | apply W.ret | apply E.hit | apply E.code | apply E.fin | refine zM ?_ | apply O.i | refine sP ?_ | refine sQ fun _ => ?_ | refine zg fun _ => ?_ | refine sX fun _ => ?_ | refine sPf ?_ | refine sPt ?_ | (refine k1 false [] c156 ?_; refine k2 (pages_ok (a := a) h) ?_) | (focus (refine zs ?_ ?_; all_goals (intro hg; first | (exfalso; ((try simp [-List.getD_eq_getElem?_getD] at hg) <;> omega)) | ((first | subst hg | rw [hg] | skip); (focus (refine zj ?_ ?_; all_goals (intro hb; first | (exfalso; revert hb; decide) | ((try refine sA 17 ?_); refine k1 false [] c156 ?_; refine k2 (pages_ok (a := a) h) ?_) | refine Sl.weak (Weak.refl _ _) ?_))))))) | (refine k1 true [(1000000, 0, none), (1000001, 0, some 1000001)] c141 ?_; refine k2 (sector_ok (a := a) (l := l) h (hl _)) ?_) | (refine k1 true [] c79 ?_; refine k2 hp ?_) | (refine lZ 2000000 ?_; refine k1 true [] c79 ?_; refine k2 hp ?_) | refine zI ?_ ?_ | (intro hb; (try simp [-List.getD_eq_getElem?_getD] at hb); (try (exfalso; omega))))
  (refine gV 6 2000000 1 ?_)
  refine W.iter (fun k => ⟨44, [(0, .pt 1000000 0 0), (1, .pl (.int .i64 id)), (4, .pt 4 0 0), (6, .sl 2000000 0 (pgCat a l id k).length), (23, .pl (.int .i64 k))], [(1000000, .c 5 [devR 0 (.pd (encL fB a.Safe)) (.pd (encL fPend a.Pending)) (.mr 1000001)]), (1000001, .m (mII l)), (4, .c 4 [[.pl (.int .i64 0), .pl (.int .i64 0), .pl (.int .i64 0), .nl]]), (2000000, .c 1 (encI .u8 (pgCat a l id k)))], []⟩) (fun k => True) (4) (Weak.to (by first | rfl | (simp only [virtAt_n, virt_n]; rfl)) ?s3 ?b3 (by exact dfe)) ?h3 (fun k hk hH => ?body3)
  (try case' s3 => first | exact to1 | (simp +decide only [go_sem]; (try simp (disch := first | exact ds | fail) only [go_sem, Nat.reduceAdd, Nat.reduceMul, Nat.reduceSub, Int.reduceToNat, Int.reduceNeg, Nat.reduceLeDiff, hD]); (try simp only [SV.pl.injEq, SV.sl.injEq, Value.int.injEq, Bk.c.injEq, encI_inj, true_and]); (try omega))); (try case' b3 => first | exact to1 | (simp +decide only [go_sem]; (try simp (disch := first | exact ds | fail) only [go_sem, Nat.reduceAdd, Nat.reduceMul, Nat.reduceSub, Int.reduceToNat, Int.reduceNeg, Nat.reduceLeDiff, hD]); (try simp only [SV.pl.injEq, SV.sl.injEq, Value.int.injEq, Bk.c.injEq, encI_inj, true_and]); (try omega))); (try case' h3 => first | exact to1 | (simp +decide only [go_sem]; (try simp (disch := first | exact ds | fail) only [go_sem, Nat.reduceAdd, Nat.reduceMul, Nat.reduceSub, Int.reduceToNat, Int.reduceNeg, Nat.reduceLeDiff, hD]); (try simp only [SV.pl.injEq, SV.sl.injEq, Value.int.injEq, Bk.c.injEq, encI_inj, true_and]); (try omega)))
  · rfl
  · rfl
  have hcl := pgCat_len a l id k
  have hsl := secV_len a l (4 * id + k)
  have hst : pgCat a l id (k + 1) = pgCat a l id k ++ secV a l (4 * id + k) := rfl
  by_cases hk4 : k < 4
  · obtain ⟨xs, hxs⟩ : ∃ xs, xs = pgCat a l id k := ⟨_, rfl⟩
    obtain ⟨ys, hys⟩ : ∃ ys, ys = secV a l (4 * id + k) := ⟨_, rfl⟩
    rw [← hys] at hst hsl
    rw [← hxs] at hst hcl ⊢
    have hkt : k * totDisk a ≤ 4 * totDisk a := Nat.mul_le_mul_right _ (by omega)
    have hcl2 : xs.length ≤ 4 * totDisk a := Nat.le_trans hcl hkt
    clear hcl hkt
    have hD := (hys.symm)
    repeat' (first | apply W.seq | apply W.skip | apply W.region | apply W.block | apply N.code | apply N.blk | apply Sl.nil | apply W.exit | apply W.ret | apply E.hit | apply E.code | apply E.fin | refine zM ?_ | apply O.i | refine sP ?_ | refine sQ fun _ => ?_ | refine zg fun _ => ?_ | refine sX fun _ => ?_ | refine sPf ?_ | refine sPt ?_ | (refine k1 false [] c156 ?_; refine k2 (pages_ok (a := a) h) ?_) | (focus (refine zs ?_ ?_; all_goals (intro hg; first | (exfalso; ((try simp [-List.getD_eq_getElem?_getD] at hg) <;> omega)) | ((first | subst hg | rw [hg] | skip); (focus (refine zj ?_ ?_; all_goals (intro hb; first | (exfalso; revert hb; decide) | ((try refine sA 17 ?_); refine k1 false [] c156 ?_; refine k2 (pages_ok (a := a) h) ?_) | refine Sl.weak (Weak.refl _ _) ?_))))))) | (refine k1 true [(1000000, 0, none), (1000001, 0, some 1000001)] c141 ?_; refine k2 (sector_ok (a := a) (l := l) h (hl _)) ?_) | (refine k1 true [] c79 ?_; refine k2 hp ?_) | (refine lZ 2000000 ?_; refine k1 true [] c79 ?_; refine k2 hp ?_) | refine zI ?_ ?_ | (intro hb; (try simp [-List.getD_eq_getElem?_getD] at hb); (try (exfalso; omega))))
    (refine N.fin ⟨by omega, ?h4, ?w4⟩; case' w4 => (refine eR 37 2000000 ?_; refine Weak.to (by first | rfl | (simp only [virtAt_n, virt_n]; rfl)) ?s4 ?b4 (by exact dfe)))
    (try case' s4 => first | exact to1 | (simp +decide only [go_sem]; (try simp (disch := first | exact ds | fail) only [go_sem, Nat.reduceAdd, Nat.reduceMul, Nat.reduceSub, Int.reduceToNat, Int.reduceNeg, Nat.reduceLeDiff, hD]); (try simp only [SV.pl.injEq, SV.sl.injEq, Value.int.injEq, Bk.c.injEq, encI_inj, true_and]); (try omega))); (try case' b4 => first | exact to1 | (simp +decide only [go_sem]; (try simp (disch := first | exact ds | fail) only [go_sem, Nat.reduceAdd, Nat.reduceMul, Nat.reduceSub, Int.reduceToNat, Int.reduceNeg, Nat.reduceLeDiff, hD]); (try simp only [SV.pl.injEq, SV.sl.injEq, Value.int.injEq, Bk.c.injEq, encI_inj, true_and]); (try omega))); (try case' h4 => first | exact to1 | (simp +decide only [go_sem]; (try simp (disch := first | exact ds | fail) only [go_sem, Nat.reduceAdd, Nat.reduceMul, Nat.reduceSub, Int.reduceToNat, Int.reduceNeg, Nat.reduceLeDiff, hD]); (try simp only [SV.pl.injEq, SV.sl.injEq, Value.int.injEq, Bk.c.injEq, encI_inj, true_and]); (try omega)))
    · rw [hst]
    · rw [hst, List.length_append]
      exact ⟨rfl, by omega⟩
  obtain rfl : k = 4 := by omega
  repeat' (first | apply W.seq | apply W.skip | apply W.region | apply W.block | apply N.code | apply N.blk | apply Sl.nil | apply W.exit | apply W.ret | apply E.hit | apply E.code | apply E.fin | refine zM ?_ | apply O.i | refine sP ?_ | refine sQ fun _ => ?_ | refine zg fun _ => ?_ | refine sX fun _ => ?_ | refine sPf ?_ | refine sPt ?_ | (refine k1 false [] c156 ?_; refine k2 (pages_ok (a := a) h) ?_) | (focus (refine zs ?_ ?_; all_goals (intro hg; first | (exfalso; ((try simp [-List.getD_eq_getElem?_getD] at hg) <;> omega)) | ((first | subst hg | rw [hg] | skip); (focus (refine zj ?_ ?_; all_goals (intro hb; first | (exfalso; revert hb; decide) | ((try refine sA 17 ?_); refine k1 false [] c156 ?_; refine k2 (pages_ok (a := a) h) ?_) | refine Sl.weak (Weak.refl _ _) ?_))))))) | (refine k1 true [(1000000, 0, none), (1000001, 0, some 1000001)] c141 ?_; refine k2 (sector_ok (a := a) (l := l) h (hl _)) ?_) | (refine k1 true [] c79 ?_; refine k2 hp ?_) | (refine lZ 2000000 ?_; refine k1 true [] c79 ?_; refine k2 hp ?_) | refine zI ?_ ?_ | (intro hb; (try simp [-List.getD_eq_getElem?_getD] at hb); (try (exfalso; omega))))
  all_goals exact rS
end Go.Proofs.Ytfmbifnbmlhhjaa

