import Derived.Test.YtnancifnodbkdaaB32
import Derived.Test.YtnancifnodbkdaaUc
import Derived.Test.YtnancifnodbkdaaUe
namespace Go.Proofs.Ytnancifnodbkdaa
open Go Go.Vcg Go.IntWalk
set_option maxRecDepth 100000
set_option maxHeartbeats 20000000
set_option linter.unusedSimpArgs false
set_option linter.unusedVariables false
theorem c101 : CallOk Try.prog 101 := ⟨_, Try.func101, rfl, by kernel_rfl⟩
/-- The first place from k on where f holds, at most m further. -/
def stopAt (f : Nat → Bool) : Nat → Nat → Nat
  | k, 0 => k
  | k, m + 1 => if f k then k else stopAt f (k + 1) m
theorem stopAt_hit {f : Nat → Bool} {k m : Nat} (h : f k = true) : stopAt f k m = k := by
  cases m with
  | zero => rfl
  | succ m => rw [stopAt, if_pos h]
theorem stopAt_step {f : Nat → Bool} {k n : Nat} (h : f k = false) (hk : k < n) : stopAt f k (n - k) = stopAt f (k + 1) (n - (k + 1)) := by
  rw [show n - k = (n - (k + 1)) + 1 by omega, stopAt, if_neg (by rw [h]; decide)]
theorem stopAt_le (f : Nat → Bool) (m k : Nat) : stopAt f k m ≤ k + m := by
  induction m generalizing k with
  | zero => exact Nat.le_refl _
  | succ m ih =>
    rw [stopAt]
    split
    · omega
    · have := ih (k + 1); omega
/-- A byte as a number. -/
def by0 (xs : List Int) (i : Nat) : Int := xs.getD i 0
def sIns (raw : List Int) (p : Nat) (s : Bool) : Nat → List PointA × Nat × Bool
  | 0 => ([], p, s)
  | k + 1 => ((sIns raw p s k).1 ++ [⟨toH (spB raw (sIns raw p s k).2.1 (sIns raw p s k).2.2 32), by0 (spB raw (spP raw (sIns raw p s k).2.1 (sIns raw p s k).2.2 32) (spS raw (sIns raw p s k).2.1 (sIns raw p s k).2.2 32) 1) 0⟩],
    spP raw (spP raw (sIns raw p s k).2.1 (sIns raw p s k).2.2 32) (spS raw (sIns raw p s k).2.1 (sIns raw p s k).2.2 32) 1, spS raw (spP raw (sIns raw p s k).2.1 (sIns raw p s k).2.2 32) (spS raw (sIns raw p s k).2.1 (sIns raw p s k).2.2 32) 1)
def sOuts (raw : List Int) (p : Nat) (s : Bool) : Nat → List Int × Nat × Bool
  | 0 => ([], p, s)
  | k + 1 => ((sOuts raw p s k).1 ++ [(leN ((spB raw (sOuts raw p s k).2.1 (sOuts raw p s k).2.2 8).take 7) : Int)], spP raw (sOuts raw p s k).2.1 (sOuts raw p s k).2.2 8,
    (if by0 (spB raw (sOuts raw p s k).2.1 (sOuts raw p s k).2.2 8) 7 > 0 then true else spS raw (sOuts raw p s k).2.1 (sOuts raw p s k).2.2 8))
theorem sIns_len (raw : List Int) (p : Nat) (s : Bool) (k : Nat) : (sIns raw p s k).1.length = k := by
  induction k with
  | zero => rfl
  | succ k ih => simp [sIns, ih]
theorem sOuts_len (raw : List Int) (p : Nat) (s : Bool) (k : Nat) : (sOuts raw p s k).1.length = k := by
  induction k with
  | zero => rfl
  | succ k ih => simp [sOuts, ih]
theorem sIns_le {raw : List Int} {p : Nat} (h : p ≤ raw.length) (s : Bool) (k : Nat) : (sIns raw p s k).2.1 ≤ raw.length := by
  induction k with
  | zero => exact h
  | succ k ih => exact spP_le (spP_le ih _ 32) _ 1
theorem sOuts_le {raw : List Int} {p : Nat} (h : p ≤ raw.length) (s : Bool) (k : Nat) : (sOuts raw p s k).2.1 ≤ raw.length := by
  induction k with
  | zero => exact h
  | succ k ih => exact spP_le ih _ 8
def sInsF (raw : List Int) (p : Nat) (s : Bool) (n : Nat) : List PointA × Nat × Bool := sIns raw p s (stopAt (fun k => (sIns raw p s k).2.2) 0 n)
def sOutsF (raw : List Int) (p : Nat) (s : Bool) (n : Nat) : List Int × Nat × Bool := sOuts raw p s (stopAt (fun k => (sOuts raw p s k).2.2) 0 n)
def stx (raw : List Int) (p : Nat) (s : Bool) : TxA × Nat × Bool :=
  let i := sInsF raw (spP raw p s 1) (spS raw p s 1) (by0 (spB raw p s 1) 0).toNat
  let o := sOutsF raw (spP raw i.2.1 i.2.2 1) (spS raw i.2.1 i.2.2 1) (by0 (spB raw i.2.1 i.2.2 1) 0).toNat
  (⟨i.1, o.1, leN (spB raw o.2.1 o.2.2 4)⟩, spP raw o.2.1 o.2.2 4, spS raw o.2.1 o.2.2 4)
theorem by0_byte {raw : List Int} (h : okBytes raw) (p : Nat) (s : Bool) (n i : Nat) (hi : i < n) : 0 ≤ by0 (spB raw p s n) i ∧ by0 (spB raw p s n) i < 256 := okBytes_getD (spB_ok h p s n) i (by rw [spB_length]; exact hi)
theorem by0_def (xs : List Int) (i : Nat) : xs.getD i 0 = by0 xs i := rfl
theorem stx_ok {raw : List Int} {p : Nat} {s : Bool} (hl : raw.length < 2 ^ 40 := by exact pm) (ho : okBytes raw := by exact pm) (hp : p ≤ raw.length := by exact pm) : TSpec Try.prog 101 [(1000000, rdr raw p s)] [.pt 1000000 0 0] true [(1000000, rdr raw (stx raw p s).2.1 (stx raw p s).2.2)] (.ag (oTx (stx raw p s).1)) := by
  obtain ⟨hb1, hb2⟩ := by0_byte ho p s 1 0 (by omega)
  obtain ⟨n1, hn1⟩ : ∃ n1 : Nat, n1 = (by0 (spB raw p s 1) 0).toNat := ⟨_, rfl⟩
  have hc1 : IntKind.i64.wrap ((spB raw p s 1).getD 0 0) = (n1 : Int) := by rw [by0_def, wrap_int (by omega) (by omega)]; omega
  have hn1b : n1 < 256 := by omega
  have hp1 := spP_le hp s 1
  obtain ⟨p1, hp1e⟩ : ∃ p1, p1 = spP raw p s 1 := ⟨_, rfl⟩
  obtain ⟨s1, hs1e⟩ : ∃ s1, s1 = spS raw p s 1 := ⟨_, rfl⟩
  rw [← hp1e] at hp1
  clear hb1 hb2
  simp only [rdr]
  have hD := And.intro (hc1) (And.intro (hp1e.symm) (And.intro (hs1e.symm) (@spB_length)))
  have hD := And.intro (hc1) (And.intro (hp1e.symm) (And.intro (hs1e.symm) (@spB_length)))
  refine sT 78 [.cell 2 138] Try.func101 fun w0 S0 ρ0 φ0 => ?_
  repeat' (first | apply W.seq | apply W.skip | apply W.region | apply W.block | apply N.code | apply N.blk | apply Sl.nil | apply W.exit | apply W.ret | apply E.hit | apply E.code | apply E.fin | refine zM ?_ | apply O.i | refine sP ?_ | refine sQ fun _ => ?_ | refine zg fun _ => ?_ | refine sX fun _ => ?_ | refine sPf ?_ | refine sPt ?_ | (refine k1 true [(1000000, 0, none)] c100 ?_; refine k2 stake_ok ?_) | (refine k1 false [] c99 ?_; refine k2 l5Hash_ok ?_) | (refine rD (id := 6) anyW [4, 10, 12] ?_; refine rP 0 false fun _ => ?_; refine rP 3 false fun _ => ?_; (focus (refine rA [1, 2, 4] (xO (fun _ _ _ _ _ => ?_) (xO (fun _ _ _ _ _ => ?_) (xO (fun _ _ _ _ _ => ?_) RX.nil))); (focus (refine sQ fun _ => ?_; (focus (refine rA [2, 4] (xO (fun _ _ _ _ _ => ?_) (xO (fun _ _ _ _ _ => ?_) RX.nil)); (focus (refine sQ fun _ => ?_; refine rO 4 fun _ _ _ _ _ => ?_; refine k1 true [(1000000, 0, none)] c100 ?_; refine k2 stake_ok ?_; refine rP 5 false fun _ => ?_; refine rP 6 true fun _ => ?_; refine rP 7 false fun _ => ?_; refine rP 8 false fun _ => ?_; refine rO 9 fun _ _ _ _ _ => ?_; refine sX fun _ => ?_; refine rO 10 fun _ _ _ _ _ => ?_; refine sX fun _ => ?_; refine rP 11 false fun _ => ?_; refine rO 12 fun _ _ _ _ _ => ?_; refine sX fun _ => ?_; refine rE ?_)); rotate_left; (focus (refine k1 true [(1000000, 0, none)] c100 ?_; refine k2 stake_ok ?_; refine rP 2 true fun _ => ?_; refine rP 5 false fun _ => ?_; refine rP 6 true fun _ => ?_; refine rP 7 false fun _ => ?_; refine rP 8 false fun _ => ?_; refine rO 9 fun _ _ _ _ _ => ?_; refine sX fun _ => ?_; refine rO 10 fun _ _ _ _ _ => ?_; refine sX fun _ => ?_; refine rP 11 false fun _ => ?_; refine rO 12 fun _ _ _ _ _ => ?_; refine sX fun _ => ?_; refine rE ?_)); rotate_left)))); rotate_left 2; (focus (refine sQ fun _ => ?_; (focus (refine rA [1, 4] (xO (fun _ _ _ _ _ => ?_) (xO (fun _ _ _ _ _ => ?_) RX.nil)); (focus (refine sQ fun _ => ?_; refine rO 4 fun _ _ _ _ _ => ?_; refine k1 true [(1000000, 0, none)] c100 ?_; refine k2 stake_ok ?_; refine rP 5 false fun _ => ?_; refine rP 6 true fun _ => ?_; refine rP 7 false fun _ => ?_; refine rP 8 false fun _ => ?_; refine rO 9 fun _ _ _ _ _ => ?_; refine sX fun _ => ?_; refine rO 10 fun _ _ _ _ _ => ?_; refine sX fun _ => ?_; refine rP 11 false fun _ => ?_; refine rO 12 fun _ _ _ _ _ => ?_; refine sX fun _ => ?_; refine rE ?_)); rotate_left; (focus (refine k1 true [(1000000, 0, none)] c100 ?_; refine k2 stake_ok ?_; refine rP 1 true fun _ => ?_; refine rP 5 false fun _ => ?_; refine rP 6 true fun _ => ?_; refine rP 7 false fun _ => ?_; refine rP 8 false fun _ => ?_; refine rO 9 fun _ _ _ _ _ => ?_; refine sX fun _ => ?_; refine rO 10 fun _ _ _ _ _ => ?_; refine sX fun _ => ?_; refine rP 11 false fun _ => ?_; refine rO 12 fun _ _ _ _ _ => ?_; refine sX fun _ => ?_; refine rE ?_)); rotate_left)))); rotate_left 2; (focus (refine k1 true [(1000000, 0, none)] c100 ?_; refine k2 stake_ok ?_; refine rP 1 true fun _ => ?_; refine rP 2 true fun _ => ?_; refine rP 5 false fun _ => ?_; refine rP 6 true fun _ => ?_; refine rP 7 false fun _ => ?_; refine rP 8 false fun _ => ?_; refine rO 9 fun _ _ _ _ _ => ?_; refine sX fun _ => ?_; refine rO 10 fun _ _ _ _ _ => ?_; refine sX fun _ => ?_; refine rP 11 false fun _ => ?_; refine rO 12 fun _ _ _ _ _ => ?_; refine sX fun _ => ?_; refine rE ?_)); rotate_left))) | (refine rD (id := 13) anyW [6, 8] ?_; refine rP 0 false fun _ => ?_; refine rP 1 true fun _ => ?_; refine rP 2 false fun _ => ?_; refine rP 3 false fun _ => ?_; refine rO 4 fun _ _ _ _ _ => ?_; refine k1 false [] c73 ?_; refine k2 l2Low_ok ?_; refine rO 5 fun _ _ _ _ _ => ?_; refine sX fun _ => ?_; refine rO 6 fun _ _ _ _ _ => ?_; refine sX fun _ => ?_; refine rP 7 false fun _ => ?_; refine rO 8 fun _ _ _ _ _ => ?_; refine sX fun _ => ?_; refine rE ?_) | (refine k1 false [] c73 ?_; refine k2 l2Low_ok ?_) | refine zI ?_ ?_ | (intro hb; (try simp [-List.getD_eq_getElem?_getD] at hb); (try (exfalso; omega))))
  (refine gA 3 0 0 2000000 33 ?_; refine gA 3 0 1 2000001 1 ?_)
  have hD := dN0
  refine W.iter (fun k => ⟨78, [(0, .pt 1000000 0 0), (2, .pt 2 0 0), (3, .pt 3 0 0), (4, .pl (.int .i64 ((n1 : Int) - k)))], [(1000000, .c 3 [[.pd (encI .u8 raw), .pl (.int .i64 (sIns raw p1 s1 k).2.1), .pl (.bool (sIns raw p1 s1 k).2.2)]]), (2, .c 3 [[.nl, .nl, .pl (.int .i64 0)]]), (3, .c 3 [[.sl 2000000 0 k, .sl 2000001 0 0, .pl (.int .i64 0)]]), (2000000, .c 33 (encL fPoint (sIns raw p1 s1 k).1)), (2000001, .c 1 (encI .i64 []))], []⟩) (fun k => stopAt (fun k => (sIns raw p1 s1 k).2.2) 0 n1 = stopAt (fun k => (sIns raw p1 s1 k).2.2) k (n1 - k)) (n1) (Weak.to (by first | rfl | (simp only [virtAt_n]; rfl)) ?s1 ?b1 (by exact dfe)) ?h1 (fun k hk hH => ?body1)
  (try case' s1 => first | exact to1 | (simp +decide only [go_sem]; (try simp (disch := first | exact ds | fail) only [go_sem, Nat.reduceAdd, Nat.reduceMul, Nat.reduceSub, Int.reduceToNat, Int.reduceNeg, Nat.reduceLeDiff, hD]); (try simp only [SV.pl.injEq, SV.sl.injEq, Value.int.injEq, Bk.c.injEq, encI_inj, true_and]); (try omega))); (try case' b1 => first | exact to1 | (simp +decide only [go_sem]; (try simp (disch := first | exact ds | fail) only [go_sem, Nat.reduceAdd, Nat.reduceMul, Nat.reduceSub, Int.reduceToNat, Int.reduceNeg, Nat.reduceLeDiff, hD]); (try simp only [SV.pl.injEq, SV.sl.injEq, Value.int.injEq, Bk.c.injEq, encI_inj, true_and]); (try omega))); (try case' h1 => first | exact to1 | (simp +decide only [go_sem]; (try simp (disch := first | exact ds | fail) only [go_sem, Nat.reduceAdd, Nat.reduceMul, Nat.reduceSub, Int.reduceToNat, Int.reduceNeg, Nat.reduceLeDiff, hD]); (try simp only [SV.pl.injEq, SV.sl.injEq, Value.int.injEq, Bk.c.injEq, encI_inj, true_and]); (try omega)))
  · exact ⟨rfl, rfl⟩
  have hil := sIns_len raw p1 s1 k
  have hle := sIns_le hp1 s1 k
  have hst : ∀ x, x = sIns raw p1 s1 k → sIns raw p1 s1 (k + 1) = (x.1 ++ [⟨toH (spB raw x.2.1 x.2.2 32), by0 (spB raw (spP raw x.2.1 x.2.2 32) (spS raw x.2.1 x.2.2 32) 1) 0⟩], spP raw (spP raw x.2.1 x.2.2 32) (spS raw x.2.1 x.2.2 32) 1, spS raw (spP raw x.2.1 x.2.2 32) (spS raw x.2.1 x.2.2 32) 1) := fun x hx => by rw [hx]; rfl
  obtain ⟨⟨ps, pk, sk⟩, hx⟩ : ∃ x, x = sIns raw p1 s1 k := ⟨_, rfl⟩
  have hst := hst _ hx
  have hsk : (sIns raw p1 s1 k).2.2 = sk := by rw [← hx]
  rw [← hx] at hil hle ⊢
  simp only at hil hle hst ⊢
  by_cases hgo : k < n1 ∧ sk = false
  · obtain ⟨hkn, rfl⟩ := hgo
    have hH' := hH.trans (stopAt_step hsk hkn)
    have hth := toH_l (spB_length raw pk false 32) (spB_ok ho pk false 32)
    obtain ⟨hd, hhd⟩ : ∃ hd, hd = toH (spB raw pk false 32) := ⟨_, rfl⟩
    obtain ⟨p2, hp2⟩ : ∃ p2, p2 = spP raw pk false 32 := ⟨_, rfl⟩
    obtain ⟨s2, hs2⟩ : ∃ s2, s2 = spS raw pk false 32 := ⟨_, rfl⟩
    have hp2l := spP_le hle false 32
    rw [← hhd, ← hp2, ← hs2] at hst
    rw [← hhd] at hth
    rw [← hp2] at hp2l
    obtain ⟨hb1, hb2⟩ := by0_byte ho p2 s2 1 0 (by omega)
    obtain ⟨xb, hxb⟩ : ∃ xb, xb = by0 (spB raw p2 s2 1) 0 := ⟨_, rfl⟩
    have hc2 : IntKind.i64.wrap ((spB raw p2 s2 1).getD 0 0) = xb := by rw [by0_def, ← hxb, wrap_int (by omega) (by omega)]
    rw [← hxb] at hst
    clear hb1 hb2 hH hx hsk
    have hD := And.intro (hil) (And.intro (hth.symm) (And.intro (hp2.symm) (And.intro (hs2.symm) (And.intro (hc2) (And.intro @spB_length (@encP_snoc))))))
    repeat' (first | apply W.seq | apply W.skip | refine W.region (id := 0) ?_ | refine W.region (id := 1) ?_ | refine W.region (id := 2) ?_ | refine W.region (id := 3) ?_ | refine W.region (id := 5) ?_ | refine W.region (id := 4) ?_ | refine W.region (id := 7) ?_ | refine W.region (id := 8) ?_ | refine W.region (id := 10) ?_ | refine W.region (id := 11) ?_ | refine W.region (id := 12) ?_ | refine W.region (id := 9) ?_ | refine W.region (id := 14) ?_ | refine W.region (id := 15) ?_ | apply W.block | apply N.code | apply N.blk | apply Sl.nil | apply W.exit | apply W.ret | apply E.hit | apply E.code | apply E.fin | refine zM ?_ | apply O.i | refine sP ?_ | refine sQ fun _ => ?_ | refine zg fun _ => ?_ | refine sX fun _ => ?_ | refine sPf ?_ | refine sPt ?_ | (refine k1 true [(1000000, 0, none)] c100 ?_; refine k2 stake_ok ?_) | (refine k1 false [] c99 ?_; refine k2 l5Hash_ok ?_) | (refine rD (id := 13) anyW [6, 8] ?_; refine rP 0 false fun _ => ?_; refine rP 1 true fun _ => ?_; refine rP 2 false fun _ => ?_; refine rP 3 false fun _ => ?_; refine rO 4 fun _ _ _ _ _ => ?_; refine k1 false [] c73 ?_; refine k2 l2Low_ok ?_; refine rO 5 fun _ _ _ _ _ => ?_; refine sX fun _ => ?_; refine rO 6 fun _ _ _ _ _ => ?_; refine sX fun _ => ?_; refine rP 7 false fun _ => ?_; refine rO 8 fun _ _ _ _ _ => ?_; refine sX fun _ => ?_; refine rE ?_) | (refine k1 false [] c73 ?_; refine k2 l2Low_ok ?_) | refine zI ?_ ?_ | (intro hb; (try simp [-List.getD_eq_getElem?_getD] at hb); (try (exfalso; omega))))
    first | refine rDJ (id := 6) (fun b => b != 5) [4, 10, 12] ⟨78, [(0, .pt 1000000 0 0), (2, .pt 2 0 0), (3, .pt 3 0 0), (4, .pl (.int .i64 ((n1 : Int) - k)))], [(1000000, .c 3 [[.pd (encI .u8 raw), .pl (.int .i64 (spP raw p2 s2 1)), .pl (.bool (spS raw p2 s2 1))]]), (2, .c 3 [[.nl, .nl, .pl (.int .i64 0)]]), (3, .c 3 [[.sl 38 0 (k + 1), .sl 2000001 0 0, .pl (.int .i64 0)]]), (38, .c 33 (encL fPoint (ps ++ [⟨hd, xb⟩]))), (2000001, .c 1 (encI .i64 []))], []⟩ ?j2 ?k2 | refine rDJ1 (id := 6) (fun b => b != 5) [4, 10, 12] ⟨78, [(0, .pt 1000000 0 0), (2, .pt 2 0 0), (3, .pt 3 0 0), (4, .pl (.int .i64 ((n1 : Int) - k)))], [(1000000, .c 3 [[.pd (encI .u8 raw), .pl (.int .i64 (spP raw p2 s2 1)), .pl (.bool (spS raw p2 s2 1))]]), (2, .c 3 [[.nl, .nl, .pl (.int .i64 0)]]), (3, .c 3 [[.sl 38 0 (k + 1), .sl 2000001 0 0, .pl (.int .i64 0)]]), (38, .c 33 (encL fPoint (ps ++ [⟨hd, xb⟩]))), (2000001, .c 1 (encI .i64 []))], []⟩ ?j2 ?k2
    case' j2 => (refine rP 0 false fun _ => ?_; refine rP 2 false fun _ => ?_; refine rP 3 false fun _ => ?_; (focus (refine rA [1, 4] (xO (fun _ _ _ _ _ => ?_) (xO (fun _ _ _ _ _ => ?_) RX.nil)); (focus (refine sQ fun _ => ?_; refine rO 4 fun _ _ _ _ _ => ?_; refine k1 true [(1000000, 0, none)] c100 ?_; refine k2 stake_ok ?_; refine rP 5 false fun _ => ?_; refine rP 6 true fun _ => ?_; refine rP 7 false fun _ => ?_; refine rP 8 false fun _ => ?_; refine rO 9 fun _ _ _ _ _ => ?_; refine sX fun _ => ?_; refine rO 10 fun _ _ _ _ _ => ?_; refine sX fun _ => ?_; refine rP 11 false fun _ => ?_; refine rO 12 fun _ _ _ _ _ => ?_; refine sX fun _ => ?_; refine rE ?_)); rotate_left; (focus (refine k1 true [(1000000, 0, none)] c100 ?_; refine k2 stake_ok ?_; refine rP 1 true fun _ => ?_; refine rP 5 false fun _ => ?_; refine rP 6 true fun _ => ?_; refine rP 7 false fun _ => ?_; refine rP 8 false fun _ => ?_; refine rO 9 fun _ _ _ _ _ => ?_; refine sX fun _ => ?_; refine rO 10 fun _ _ _ _ _ => ?_; refine sX fun _ => ?_; refine rP 11 false fun _ => ?_; refine rO 12 fun _ _ _ _ _ => ?_; refine sX fun _ => ?_; refine rE ?_)); rotate_left)); all_goals (refine Weak.to (by first | rfl | (simp only [virtAt_n]; rfl)) ?_ ?_ (by exact dfe) <;> (first | exact to1 | (simp +decide only [go_sem]; (try simp (disch := first | exact ds | fail) only [go_sem, Nat.reduceAdd, Nat.reduceMul, Nat.reduceSub, Int.reduceToNat, Int.reduceNeg, Nat.reduceLeDiff, hD]); (try simp only [SV.pl.injEq, SV.sl.injEq, Value.int.injEq, Bk.c.injEq, encI_inj, true_and]); (try omega)))))
    repeat' (first | apply W.seq | apply W.skip | apply W.region | apply W.block | apply N.code | apply N.blk | apply Sl.nil | apply W.exit | apply W.ret | apply E.hit | apply E.code | apply E.fin | refine zM ?_ | apply O.i | refine sP ?_ | refine sQ fun _ => ?_ | refine zg fun _ => ?_ | refine sX fun _ => ?_ | refine sPf ?_ | refine sPt ?_ | (refine k1 true [(1000000, 0, none)] c100 ?_; refine k2 stake_ok ?_) | (refine k1 false [] c99 ?_; refine k2 l5Hash_ok ?_) | (refine rD (id := 6) (fun b => b != 5) [4, 10, 12] ?_; refine rP 0 false fun _ => ?_; refine rP 2 false fun _ => ?_; refine rP 3 false fun _ => ?_; (focus (refine rA [1, 4] (xO (fun _ _ _ _ _ => ?_) (xO (fun _ _ _ _ _ => ?_) RX.nil)); (focus (refine sQ fun _ => ?_; refine rO 4 fun _ _ _ _ _ => ?_; refine k1 true [(1000000, 0, none)] c100 ?_; refine k2 stake_ok ?_; refine rP 5 false fun _ => ?_; refine rP 6 true fun _ => ?_; refine rP 7 false fun _ => ?_; refine rP 8 false fun _ => ?_; refine rO 9 fun _ _ _ _ _ => ?_; refine sX fun _ => ?_; refine rO 10 fun _ _ _ _ _ => ?_; refine sX fun _ => ?_; refine rP 11 false fun _ => ?_; refine rO 12 fun _ _ _ _ _ => ?_; refine sX fun _ => ?_; refine rE ?_)); rotate_left; (focus (refine k1 true [(1000000, 0, none)] c100 ?_; refine k2 stake_ok ?_; refine rP 1 true fun _ => ?_; refine rP 5 false fun _ => ?_; refine rP 6 true fun _ => ?_; refine rP 7 false fun _ => ?_; refine rP 8 false fun _ => ?_; refine rO 9 fun _ _ _ _ _ => ?_; refine sX fun _ => ?_; refine rO 10 fun _ _ _ _ _ => ?_; refine sX fun _ => ?_; refine rP 11 false fun _ => ?_; refine rO 12 fun _ _ _ _ _ => ?_; refine sX fun _ => ?_; refine rE ?_)); rotate_left))) | (refine rD (id := 13) anyW [6, 8] ?_; refine rP 0 false fun _ => ?_; refine rP 1 true fun _ => ?_; refine rP 2 false fun _ => ?_; refine rP 3 false fun _ => ?_; refine rO 4 fun _ _ _ _ _ => ?_; refine k1 false [] c73 ?_; refine k2 l2Low_ok ?_; refine rO 5 fun _ _ _ _ _ => ?_; refine sX fun _ => ?_; refine rO 6 fun _ _ _ _ _ => ?_; refine sX fun _ => ?_; refine rP 7 false fun _ => ?_; refine rO 8 fun _ _ _ _ _ => ?_; refine sX fun _ => ?_; refine rE ?_) | (refine k1 false [] c73 ?_; refine k2 l2Low_ok ?_) | refine zI ?_ ?_ | (intro hb; (try simp [-List.getD_eq_getElem?_getD] at hb); (try (exfalso; omega))))
    (refine N.fin ⟨by omega, ?h3, ?w3⟩; case' w3 => (refine eR 38 2000000 ?_; refine Weak.to (by first | rfl | (simp only [virtAt_n]; rfl)) ?s3 ?b3 (by exact dfe)))
    (try case' s3 => first | exact to1 | (simp +decide only [go_sem]; (try simp (disch := first | exact ds | fail) only [go_sem, Nat.reduceAdd, Nat.reduceMul, Nat.reduceSub, Int.reduceToNat, Int.reduceNeg, Nat.reduceLeDiff, hD]); (try simp only [SV.pl.injEq, SV.sl.injEq, Value.int.injEq, Bk.c.injEq, encI_inj, true_and]); (try omega))); (try case' b3 => first | exact to1 | (simp +decide only [go_sem]; (try simp (disch := first | exact ds | fail) only [go_sem, Nat.reduceAdd, Nat.reduceMul, Nat.reduceSub, Int.reduceToNat, Int.reduceNeg, Nat.reduceLeDiff, hD]); (try simp only [SV.pl.injEq, SV.sl.injEq, Value.int.injEq, Bk.c.injEq, encI_inj, true_and]); (try omega))); (try case' h3 => first | exact to1 | (simp +decide only [go_sem]; (try simp (disch := first | exact ds | fail) only [go_sem, Nat.reduceAdd, Nat.reduceMul, Nat.reduceSub, Int.reduceToNat, Int.reduceNeg, Nat.reduceLeDiff, hD]); (try simp only [SV.pl.injEq, SV.sl.injEq, Value.int.injEq, Bk.c.injEq, encI_inj, true_and]); (try omega)))
    rw [hst]
    exact ⟨rfl, rfl⟩
  have hbz : (bif decide ((n1 : Int) - k > 0) then !sk else false) = false := by
    cases sk with
    | true => simp
    | false =>
      have : ¬ k < n1 := fun h => hgo ⟨h, rfl⟩
      simp
      omega
  have hend : stopAt (fun k => (sIns raw p1 s1 k).2.2) 0 n1 = k := by
    rw [hH]
    by_cases hkn : k < n1
    · have : sk = true := by cases sk with
        | true => rfl
        | false => exact absurd ⟨hkn, rfl⟩ hgo
      exact stopAt_hit (by rw [hsk, this])
    · rw [show n1 - k = 0 by omega]
      rfl
  have hF : sInsF raw p1 s1 n1 = (ps, pk, sk) := by
    unfold sInsF
    rw [hend, hx]
  obtain ⟨hb1, hb2⟩ := by0_byte ho pk sk 1 0 (by omega)
  obtain ⟨n2, hn2⟩ : ∃ n2 : Nat, n2 = (by0 (spB raw pk sk 1) 0).toNat := ⟨_, rfl⟩
  have hc3 : IntKind.i64.wrap ((spB raw pk sk 1).getD 0 0) = (n2 : Int) := by rw [by0_def, wrap_int (by omega) (by omega)]; omega
  have hn2b : n2 < 256 := by omega
  have hp2 := spP_le hle sk 1
  obtain ⟨p2, hp2e⟩ : ∃ p2, p2 = spP raw pk sk 1 := ⟨_, rfl⟩
  obtain ⟨s2, hs2e⟩ : ∃ s2, s2 = spS raw pk sk 1 := ⟨_, rfl⟩
  rw [← hp2e] at hp2
  clear hb1 hb2 hend hH hgo hsk hst hx
  have hD := And.intro (hbz) (And.intro (hil) (And.intro (hc3) (And.intro (hp2e.symm) (And.intro (hs2e.symm) (@spB_length)))))
  repeat' (first | apply W.seq | apply W.skip | apply W.region | apply W.block | apply N.code | apply N.blk | apply Sl.nil | apply W.exit | apply W.ret | apply E.hit | apply E.code | apply E.fin | refine zM ?_ | apply O.i | refine sP ?_ | refine sQ fun _ => ?_ | refine zg fun _ => ?_ | refine sX fun _ => ?_ | refine sPf ?_ | refine sPt ?_ | (refine k1 true [(1000000, 0, none)] c100 ?_; refine k2 stake_ok ?_) | (refine k1 false [] c99 ?_; refine k2 l5Hash_ok ?_) | (refine rD (id := 6) (fun b => b != 5) [4, 10, 12] ?_; refine rP 0 false fun _ => ?_; refine rP 2 false fun _ => ?_; refine rP 3 false fun _ => ?_; (focus (refine rA [1, 4] (xO (fun _ _ _ _ _ => ?_) (xO (fun _ _ _ _ _ => ?_) RX.nil)); (focus (refine sQ fun _ => ?_; refine rO 4 fun _ _ _ _ _ => ?_; refine k1 true [(1000000, 0, none)] c100 ?_; refine k2 stake_ok ?_; refine rP 5 false fun _ => ?_; refine rP 6 true fun _ => ?_; refine rP 7 false fun _ => ?_; refine rP 8 false fun _ => ?_; refine rO 9 fun _ _ _ _ _ => ?_; refine sX fun _ => ?_; refine rO 10 fun _ _ _ _ _ => ?_; refine sX fun _ => ?_; refine rP 11 false fun _ => ?_; refine rO 12 fun _ _ _ _ _ => ?_; refine sX fun _ => ?_; refine rE ?_)); rotate_left; (focus (refine k1 true [(1000000, 0, none)] c100 ?_; refine k2 stake_ok ?_; refine rP 1 true fun _ => ?_; refine rP 5 false fun _ => ?_; refine rP 6 true fun _ => ?_; refine rP 7 false fun _ => ?_; refine rP 8 false fun _ => ?_; refine rO 9 fun _ _ _ _ _ => ?_; refine sX fun _ => ?_; refine rO 10 fun _ _ _ _ _ => ?_; refine sX fun _ => ?_; refine rP 11 false fun _ => ?_; refine rO 12 fun _ _ _ _ _ => ?_; refine sX fun _ => ?_; refine rE ?_)); rotate_left))) | (refine rD (id := 13) anyW [6, 8] ?_; refine rP 0 false fun _ => ?_; refine rP 1 true fun _ => ?_; refine rP 2 false fun _ => ?_; refine rP 3 false fun _ => ?_; refine rO 4 fun _ _ _ _ _ => ?_; refine k1 false [] c73 ?_; refine k2 l2Low_ok ?_; refine rO 5 fun _ _ _ _ _ => ?_; refine sX fun _ => ?_; refine rO 6 fun _ _ _ _ _ => ?_; refine sX fun _ => ?_; refine rP 7 false fun _ => ?_; refine rO 8 fun _ _ _ _ _ => ?_; refine sX fun _ => ?_; refine rE ?_) | (refine k1 false [] c73 ?_; refine k2 l2Low_ok ?_) | refine zI ?_ ?_ | (intro hb; (try simp [-List.getD_eq_getElem?_getD] at hb); (try (exfalso; omega))))
  clear hbz
  have hD := dN0
  refine W.iter (fun j => ⟨78, [(0, .pt 1000000 0 0), (2, .pt 2 0 0), (3, .pt 3 0 0), (6, .pl (.int .i64 ((n2 : Int) - j)))], [(1000000, .c 3 [[.pd (encI .u8 raw), .pl (.int .i64 (sOuts raw p2 s2 j).2.1), .pl (.bool (sOuts raw p2 s2 j).2.2)]]), (2, .c 3 [[.nl, .nl, .pl (.int .i64 0)]]), (3, .c 3 [[.sl 2000000 0 k, .sl 2000001 0 j, .pl (.int .i64 0)]]), (2000000, .c 33 (encL fPoint ps)), (2000001, .c 1 (encI .i64 (sOuts raw p2 s2 j).1))], []⟩) (fun j => stopAt (fun k => (sOuts raw p2 s2 k).2.2) 0 n2 = stopAt (fun k => (sOuts raw p2 s2 k).2.2) j (n2 - j)) (n2) (Weak.to (by first | rfl | (simp only [virtAt_n]; rfl)) ?s4 ?b4 (by exact dfe)) ?h4 (fun j hj Hj => ?body4)
  (try case' s4 => first | exact to1 | (simp +decide only [go_sem]; (try simp (disch := first | exact ds | fail) only [go_sem, Nat.reduceAdd, Nat.reduceMul, Nat.reduceSub, Int.reduceToNat, Int.reduceNeg, Nat.reduceLeDiff, hD]); (try simp only [SV.pl.injEq, SV.sl.injEq, Value.int.injEq, Bk.c.injEq, encI_inj, true_and]); (try omega))); (try case' b4 => first | exact to1 | (simp +decide only [go_sem]; (try simp (disch := first | exact ds | fail) only [go_sem, Nat.reduceAdd, Nat.reduceMul, Nat.reduceSub, Int.reduceToNat, Int.reduceNeg, Nat.reduceLeDiff, hD]); (try simp only [SV.pl.injEq, SV.sl.injEq, Value.int.injEq, Bk.c.injEq, encI_inj, true_and]); (try omega))); (try case' h4 => first | exact to1 | (simp +decide only [go_sem]; (try simp (disch := first | exact ds | fail) only [go_sem, Nat.reduceAdd, Nat.reduceMul, Nat.reduceSub, Int.reduceToNat, Int.reduceNeg, Nat.reduceLeDiff, hD]); (try simp only [SV.pl.injEq, SV.sl.injEq, Value.int.injEq, Bk.c.injEq, encI_inj, true_and]); (try omega)))
  · exact ⟨rfl, rfl⟩
  have hilj := sOuts_len raw p2 s2 j
  have hlej := sOuts_le hp2 s2 j
  have hstj : ∀ x, x = sOuts raw p2 s2 j → sOuts raw p2 s2 (j + 1) = (x.1 ++ [(leN ((spB raw x.2.1 x.2.2 8).take 7) : Int)], spP raw x.2.1 x.2.2 8, (if by0 (spB raw x.2.1 x.2.2 8) 7 > 0 then true else spS raw x.2.1 x.2.2 8)) := fun x hx => by rw [hx]; rfl
  obtain ⟨⟨os, pj, sj⟩, hxj⟩ : ∃ x, x = sOuts raw p2 s2 j := ⟨_, rfl⟩
  have hstj := hstj _ hxj
  have hsj : (sOuts raw p2 s2 j).2.2 = sj := by rw [← hxj]
  rw [← hxj] at hilj hlej ⊢
  simp only at hilj hlej hstj ⊢
  by_cases hgo : j < n2 ∧ sj = false
  · obtain ⟨hjn, rfl⟩ := hgo
    have hH' := Hj.trans (stopAt_step hsj hjn)
    have hbo := spB_ok ho pj false 8
    have hbo7 : okBytes ((spB raw pj false 8).take 7) := okBytes_take hbo 7
    have hp3 := spP_le hlej false 8
    clear Hj hsj hxj
    by_cases hv : by0 (spB raw pj false 8) 7 > 0
    · rw [if_pos hv] at hstj
      rw [← by0_def] at hv
      have hD := And.intro (hil) (And.intro (hilj) (And.intro @spB_length (And.intro @encI_one (@encI_append))))
      repeat' (first | apply W.seq | apply W.skip | apply W.region | apply W.block | apply N.code | apply N.blk | apply Sl.nil | apply W.exit | apply W.ret | apply E.hit | apply E.code | apply E.fin | refine zM ?_ | apply O.i | refine sP ?_ | refine sQ fun _ => ?_ | refine zg fun _ => ?_ | refine sX fun _ => ?_ | refine sPf ?_ | refine sPt ?_ | (refine k1 true [(1000000, 0, none)] c100 ?_; refine k2 stake_ok ?_) | (refine k1 false [] c99 ?_; refine k2 l5Hash_ok ?_) | (refine rD (id := 6) (fun b => b != 5) [4, 10, 12] ?_; refine rP 0 false fun _ => ?_; refine rP 2 false fun _ => ?_; refine rP 3 false fun _ => ?_; (focus (refine rA [1, 4] (xO (fun _ _ _ _ _ => ?_) (xO (fun _ _ _ _ _ => ?_) RX.nil)); (focus (refine sQ fun _ => ?_; refine rO 4 fun _ _ _ _ _ => ?_; refine k1 true [(1000000, 0, none)] c100 ?_; refine k2 stake_ok ?_; refine rP 5 false fun _ => ?_; refine rP 6 true fun _ => ?_; refine rP 7 false fun _ => ?_; refine rP 8 false fun _ => ?_; refine rO 9 fun _ _ _ _ _ => ?_; refine sX fun _ => ?_; refine rO 10 fun _ _ _ _ _ => ?_; refine sX fun _ => ?_; refine rP 11 false fun _ => ?_; refine rO 12 fun _ _ _ _ _ => ?_; refine sX fun _ => ?_; refine rE ?_)); rotate_left; (focus (refine k1 true [(1000000, 0, none)] c100 ?_; refine k2 stake_ok ?_; refine rP 1 true fun _ => ?_; refine rP 5 false fun _ => ?_; refine rP 6 true fun _ => ?_; refine rP 7 false fun _ => ?_; refine rP 8 false fun _ => ?_; refine rO 9 fun _ _ _ _ _ => ?_; refine sX fun _ => ?_; refine rO 10 fun _ _ _ _ _ => ?_; refine sX fun _ => ?_; refine rP 11 false fun _ => ?_; refine rO 12 fun _ _ _ _ _ => ?_; refine sX fun _ => ?_; refine rE ?_)); rotate_left))) | (refine rD (id := 13) anyW [6, 8] ?_; refine rP 0 false fun _ => ?_; refine rP 1 true fun _ => ?_; refine rP 2 false fun _ => ?_; refine rP 3 false fun _ => ?_; refine rO 4 fun _ _ _ _ _ => ?_; refine k1 false [] c73 ?_; refine k2 l2Low_ok ?_; refine rO 5 fun _ _ _ _ _ => ?_; refine sX fun _ => ?_; refine rO 6 fun _ _ _ _ _ => ?_; refine sX fun _ => ?_; refine rP 7 false fun _ => ?_; refine rO 8 fun _ _ _ _ _ => ?_; refine sX fun _ => ?_; refine rE ?_) | (refine k1 false [] c73 ?_; refine k2 l2Low_ok ?_) | refine zI ?_ ?_ | (intro hb; (try simp [-List.getD_eq_getElem?_getD] at hb); (try (exfalso; omega))))
      (refine N.fin ⟨by omega, ?h5, ?w5⟩; case' w5 => (refine eR 71 2000001 ?_; refine Weak.to (by first | rfl | (simp only [virtAt_n]; rfl)) ?s5 ?b5 (by exact dfe)))
      (try case' s5 => first | exact to1 | (simp +decide only [go_sem]; (try simp (disch := first | exact ds | fail) only [go_sem, Nat.reduceAdd, Nat.reduceMul, Nat.reduceSub, Int.reduceToNat, Int.reduceNeg, Nat.reduceLeDiff, hD]); (try simp only [SV.pl.injEq, SV.sl.injEq, Value.int.injEq, Bk.c.injEq, encI_inj, true_and]); (try omega))); (try case' b5 => first | exact to1 | (simp +decide only [go_sem]; (try simp (disch := first | exact ds | fail) only [go_sem, Nat.reduceAdd, Nat.reduceMul, Nat.reduceSub, Int.reduceToNat, Int.reduceNeg, Nat.reduceLeDiff, hD]); (try simp only [SV.pl.injEq, SV.sl.injEq, Value.int.injEq, Bk.c.injEq, encI_inj, true_and]); (try omega))); (try case' h5 => first | exact to1 | (simp +decide only [go_sem]; (try simp (disch := first | exact ds | fail) only [go_sem, Nat.reduceAdd, Nat.reduceMul, Nat.reduceSub, Int.reduceToNat, Int.reduceNeg, Nat.reduceLeDiff, hD]); (try simp only [SV.pl.injEq, SV.sl.injEq, Value.int.injEq, Bk.c.injEq, encI_inj, true_and]); (try omega)))
      rw [hstj]
      exact ⟨rfl, rfl⟩
    · rw [if_neg hv] at hstj
      rw [← by0_def] at hv
      have hD := And.intro (hil) (And.intro (hilj) (And.intro @spB_length (And.intro @encI_one (@encI_append))))
      repeat' (first | apply W.seq | apply W.skip | apply W.region | apply W.block | apply N.code | apply N.blk | apply Sl.nil | apply W.exit | apply W.ret | apply E.hit | apply E.code | apply E.fin | refine zM ?_ | apply O.i | refine sP ?_ | refine sQ fun _ => ?_ | refine zg fun _ => ?_ | refine sX fun _ => ?_ | refine sPf ?_ | refine sPt ?_ | (refine k1 true [(1000000, 0, none)] c100 ?_; refine k2 stake_ok ?_) | (refine k1 false [] c99 ?_; refine k2 l5Hash_ok ?_) | (refine rD (id := 6) (fun b => b != 5) [4, 10, 12] ?_; refine rP 0 false fun _ => ?_; refine rP 2 false fun _ => ?_; refine rP 3 false fun _ => ?_; (focus (refine rA [1, 4] (xO (fun _ _ _ _ _ => ?_) (xO (fun _ _ _ _ _ => ?_) RX.nil)); (focus (refine sQ fun _ => ?_; refine rO 4 fun _ _ _ _ _ => ?_; refine k1 true [(1000000, 0, none)] c100 ?_; refine k2 stake_ok ?_; refine rP 5 false fun _ => ?_; refine rP 6 true fun _ => ?_; refine rP 7 false fun _ => ?_; refine rP 8 false fun _ => ?_; refine rO 9 fun _ _ _ _ _ => ?_; refine sX fun _ => ?_; refine rO 10 fun _ _ _ _ _ => ?_; refine sX fun _ => ?_; refine rP 11 false fun _ => ?_; refine rO 12 fun _ _ _ _ _ => ?_; refine sX fun _ => ?_; refine rE ?_)); rotate_left; (focus (refine k1 true [(1000000, 0, none)] c100 ?_; refine k2 stake_ok ?_; refine rP 1 true fun _ => ?_; refine rP 5 false fun _ => ?_; refine rP 6 true fun _ => ?_; refine rP 7 false fun _ => ?_; refine rP 8 false fun _ => ?_; refine rO 9 fun _ _ _ _ _ => ?_; refine sX fun _ => ?_; refine rO 10 fun _ _ _ _ _ => ?_; refine sX fun _ => ?_; refine rP 11 false fun _ => ?_; refine rO 12 fun _ _ _ _ _ => ?_; refine sX fun _ => ?_; refine rE ?_)); rotate_left))) | (refine rD (id := 13) anyW [6, 8] ?_; refine rP 0 false fun _ => ?_; refine rP 1 true fun _ => ?_; refine rP 2 false fun _ => ?_; refine rP 3 false fun _ => ?_; refine rO 4 fun _ _ _ _ _ => ?_; refine k1 false [] c73 ?_; refine k2 l2Low_ok ?_; refine rO 5 fun _ _ _ _ _ => ?_; refine sX fun _ => ?_; refine rO 6 fun _ _ _ _ _ => ?_; refine sX fun _ => ?_; refine rP 7 false fun _ => ?_; refine rO 8 fun _ _ _ _ _ => ?_; refine sX fun _ => ?_; refine rE ?_) | (refine k1 false [] c73 ?_; refine k2 l2Low_ok ?_) | refine zI ?_ ?_ | (intro hb; (try simp [-List.getD_eq_getElem?_getD] at hb); (try (exfalso; omega))))
      (refine N.fin ⟨by omega, ?h6, ?w6⟩; case' w6 => (refine eR 71 2000001 ?_; refine Weak.to (by first | rfl | (simp only [virtAt_n]; rfl)) ?s6 ?b6 (by exact dfe)))
      (try case' s6 => first | exact to1 | (simp +decide only [go_sem]; (try simp (disch := first | exact ds | fail) only [go_sem, Nat.reduceAdd, Nat.reduceMul, Nat.reduceSub, Int.reduceToNat, Int.reduceNeg, Nat.reduceLeDiff, hD]); (try simp only [SV.pl.injEq, SV.sl.injEq, Value.int.injEq, Bk.c.injEq, encI_inj, true_and]); (try omega))); (try case' b6 => first | exact to1 | (simp +decide only [go_sem]; (try simp (disch := first | exact ds | fail) only [go_sem, Nat.reduceAdd, Nat.reduceMul, Nat.reduceSub, Int.reduceToNat, Int.reduceNeg, Nat.reduceLeDiff, hD]); (try simp only [SV.pl.injEq, SV.sl.injEq, Value.int.injEq, Bk.c.injEq, encI_inj, true_and]); (try omega))); (try case' h6 => first | exact to1 | (simp +decide only [go_sem]; (try simp (disch := first | exact ds | fail) only [go_sem, Nat.reduceAdd, Nat.reduceMul, Nat.reduceSub, Int.reduceToNat, Int.reduceNeg, Nat.reduceLeDiff, hD]); (try simp only [SV.pl.injEq, SV.sl.injEq, Value.int.injEq, Bk.c.injEq, encI_inj, true_and]); (try omega)))
      rw [hstj]
      exact ⟨rfl, rfl⟩
  have hbz : (bif decide ((n2 : Int) - j > 0) then !sj else false) = false := by
    cases sj with
    | true => simp
    | false =>
      have : ¬ j < n2 := fun h => hgo ⟨h, rfl⟩
      simp
      omega
  have hend : stopAt (fun k => (sOuts raw p2 s2 k).2.2) 0 n2 = j := by
    rw [Hj]
    by_cases hjn : j < n2
    · have : sj = true := by cases sj with
        | true => rfl
        | false => exact absurd ⟨hjn, rfl⟩ hgo
      exact stopAt_hit (by rw [hsj, this])
    · rw [show n2 - j = 0 by omega]
      rfl
  have hFj : sOutsF raw p2 s2 n2 = (os, pj, sj) := by
    unfold sOutsF
    rw [hend, hxj]
  have ht : stx raw p s = (⟨ps, os, leN (spB raw pj sj 4)⟩, spP raw pj sj 4, spS raw pj sj 4) := by
    unfold stx
    simp only [← hp1e, ← hs1e, ← hn1, hF, ← hp2e, ← hs2e, ← hn2, hFj]
  have hbo := spB_ok ho pj sj 4
  rw [ht]
  clear ht hFj hend Hj hgo hsj hstj hxj hF
  simp only [oTx]
  have hD := And.intro (hbz) (And.intro (hil) (And.intro (hilj) (@spB_length)))
  repeat' (first | apply W.seq | apply W.skip | apply W.region | apply W.block | apply N.code | apply N.blk | apply Sl.nil | apply W.exit | apply W.ret | apply E.hit | apply E.code | apply E.fin | refine zM ?_ | apply O.i | refine sP ?_ | refine sQ fun _ => ?_ | refine zg fun _ => ?_ | refine sX fun _ => ?_ | refine sPf ?_ | refine sPt ?_ | (refine k1 true [(1000000, 0, none)] c100 ?_; refine k2 stake_ok ?_) | (refine k1 false [] c99 ?_; refine k2 l5Hash_ok ?_) | (refine rD (id := 6) (fun b => b != 5) [4, 10, 12] ?_; refine rP 0 false fun _ => ?_; refine rP 2 false fun _ => ?_; refine rP 3 false fun _ => ?_; (focus (refine rA [1, 4] (xO (fun _ _ _ _ _ => ?_) (xO (fun _ _ _ _ _ => ?_) RX.nil)); (focus (refine sQ fun _ => ?_; refine rO 4 fun _ _ _ _ _ => ?_; refine k1 true [(1000000, 0, none)] c100 ?_; refine k2 stake_ok ?_; refine rP 5 false fun _ => ?_; refine rP 6 true fun _ => ?_; refine rP 7 false fun _ => ?_; refine rP 8 false fun _ => ?_; refine rO 9 fun _ _ _ _ _ => ?_; refine sX fun _ => ?_; refine rO 10 fun _ _ _ _ _ => ?_; refine sX fun _ => ?_; refine rP 11 false fun _ => ?_; refine rO 12 fun _ _ _ _ _ => ?_; refine sX fun _ => ?_; refine rE ?_)); rotate_left; (focus (refine k1 true [(1000000, 0, none)] c100 ?_; refine k2 stake_ok ?_; refine rP 1 true fun _ => ?_; refine rP 5 false fun _ => ?_; refine rP 6 true fun _ => ?_; refine rP 7 false fun _ => ?_; refine rP 8 false fun _ => ?_; refine rO 9 fun _ _ _ _ _ => ?_; refine sX fun _ => ?_; refine rO 10 fun _ _ _ _ _ => ?_; refine sX fun _ => ?_; refine rP 11 false fun _ => ?_; refine rO 12 fun _ _ _ _ _ => ?_; refine sX fun _ => ?_; refine rE ?_)); rotate_left))) | (refine rD (id := 13) anyW [6, 8] ?_; refine rP 0 false fun _ => ?_; refine rP 1 true fun _ => ?_; refine rP 2 false fun _ => ?_; refine rP 3 false fun _ => ?_; refine rO 4 fun _ _ _ _ _ => ?_; refine k1 false [] c73 ?_; refine k2 l2Low_ok ?_; refine rO 5 fun _ _ _ _ _ => ?_; refine sX fun _ => ?_; refine rO 6 fun _ _ _ _ _ => ?_; refine sX fun _ => ?_; refine rP 7 false fun _ => ?_; refine rO 8 fun _ _ _ _ _ => ?_; refine sX fun _ => ?_; refine rE ?_) | (refine k1 false [] c73 ?_; refine k2 l2Low_ok ?_) | refine zI ?_ ?_ | (intro hb; (try simp [-List.getD_eq_getElem?_getD] at hb); (try (exfalso; omega))))
  exact rS
end Go.Proofs.Ytnancifnodbkdaa

