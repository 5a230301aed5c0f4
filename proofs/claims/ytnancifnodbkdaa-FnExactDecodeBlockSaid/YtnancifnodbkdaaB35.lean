import Derived.Test.YtnancifnodbkdaaB34
import Derived.Test.YtnancifnodbkdaaB33
import Derived.Test.YtnancifnodbkdaaUc
namespace Go.Proofs.Ytnancifnodbkdaa
open Go Go.Vcg Go.IntWalk
set_option maxRecDepth 100000
set_option maxHeartbeats 20000000
set_option linter.unusedSimpArgs false
set_option linter.unusedVariables false
theorem c31 : CallOk Try.prog 31 := ⟨_, Try.func31, rfl, by kernel_rfl⟩
theorem stx_b {raw : List Int} {p : Nat} (ho : okBytes raw) (hp : p ≤ raw.length) (s : Bool) : (stx raw p s).2.1 ≤ raw.length ∧ totTx (stx raw p s).1 < 512 := by
  unfold stx
  dsimp only
  obtain ⟨i, hi⟩ : ∃ i, i = sInsF raw (spP raw p s 1) (spS raw p s 1) (by0 (spB raw p s 1) 0).toNat := ⟨_, rfl⟩
  have h1 := by0_byte ho p s 1 0 (by omega)
  have h2 : i.1.length ≤ (by0 (spB raw p s 1) 0).toNat := by
    rw [hi]
    unfold sInsF
    rw [sIns_len]
    have := stopAt_le (fun k => (sIns raw (spP raw p s 1) (spS raw p s 1) k).2.2) (by0 (spB raw p s 1) 0).toNat 0
    omega
  have h3 : i.2.1 ≤ raw.length := by
    rw [hi]
    exact sIns_le (spP_le hp s 1) _ _
  rw [← hi]
  obtain ⟨o, ho2⟩ : ∃ o, o = sOutsF raw (spP raw i.2.1 i.2.2 1) (spS raw i.2.1 i.2.2 1) (by0 (spB raw i.2.1 i.2.2 1) 0).toNat := ⟨_, rfl⟩
  have h4 := by0_byte ho i.2.1 i.2.2 1 0 (by omega)
  have h5 : o.1.length ≤ (by0 (spB raw i.2.1 i.2.2 1) 0).toNat := by
    rw [ho2]
    unfold sOutsF
    rw [sOuts_len]
    have := stopAt_le (fun k => (sOuts raw (spP raw i.2.1 i.2.2 1) (spS raw i.2.1 i.2.2 1) k).2.2) (by0 (spB raw i.2.1 i.2.2 1) 0).toNat 0
    omega
  have h6 : o.2.1 ≤ raw.length := by
    rw [ho2]
    exact sOuts_le (spP_le h3 _ 1) _ _
  rw [← ho2]
  exact ⟨spP_le h6 _ 4, by show i.1.length + o.1.length < 512; omega⟩
def sTxs (raw : List Int) (p : Nat) (s : Bool) : Nat → List TxA × Nat × Bool
  | 0 => ([], p, s)
  | k + 1 => ((sTxs raw p s k).1 ++ [(stx raw (sTxs raw p s k).2.1 (sTxs raw p s k).2.2).1], (stx raw (sTxs raw p s k).2.1 (sTxs raw p s k).2.2).2.1, (stx raw (sTxs raw p s k).2.1 (sTxs raw p s k).2.2).2.2)
theorem sTxs_ok {raw : List Int} {p : Nat} (ho : okBytes raw) (hp : p ≤ raw.length) (s : Bool) (k : Nat) : (sTxs raw p s k).2.1 ≤ raw.length ∧ (sTxs raw p s k).1.length = k ∧ sumN totTx (sTxs raw p s k).1 ≤ 512 * k := by
  induction k with
  | zero => exact ⟨hp, rfl, by simp [sTxs, sumN]⟩
  | succ k ih =>
    have h1 := stx_b ho ih.1 (sTxs raw p s k).2.2
    rw [sTxs]
    dsimp only
    refine ⟨h1.1, by rw [List.length_append, ih.2.1]; rfl, ?_⟩
    rw [sumN_append]
    simp only [sumN]
    omega
def sTxsF (raw : List Int) (p : Nat) (s : Bool) (n : Nat) : List TxA × Nat × Bool := sTxs raw p s (stopAt (fun k => (sTxs raw p s k).2.2) 0 n)
/-- What the reference reads. -/
def sblk (raw : List Int) : BlockA × Bool :=
  let p1 := spP raw 0 false 32
  let s1 := spS raw 0 false 32
  let p2 := spP raw p1 s1 32
  let s2 := spS raw p1 s1 32
  let p3 := spP raw p2 s2 4
  let s3 := spS raw p2 s2 4
  let t := sTxsF raw (spP raw p3 s3 1) (spS raw p3 s3 1) (by0 (spB raw p3 s3 1) 0).toNat
  (⟨toH (spB raw 0 false 32), toH (spB raw p1 s1 32), leN (spB raw p2 s2 4), t.1⟩, t.2.2)
theorem spDecode_ok {raw : List Int} {b : Bool} (hl : raw.length < 2 ^ 40 := by exact pm) (ho : okBytes raw := by exact pm) (hb0 : b = true ↔ (sblk raw).2 = false ∧ blkOk (sblk raw).1 ∧ encBlock (sblk raw).1 = raw := by exact pm) : TSpec Try.prog 31 [] [.pd (encI .u8 raw)] false [] (.tu [.ag (oBlock (if b then (sblk raw).1 else default)), .pl (.bool b)]) := by
  obtain ⟨q1, hq1⟩ : ∃ p, p = toH (spB raw 0 false 32) := ⟨_, rfl⟩
  have hth1 := toH_l (spB_length raw 0 false 32) (spB_ok ho 0 false 32)
  rw [← hq1] at hth1
  have hp1 := spP_le (Nat.zero_le raw.length) false 32
  obtain ⟨p1, hp1e⟩ : ∃ p, p = spP raw 0 false 32 := ⟨_, rfl⟩
  obtain ⟨s1, hs1e⟩ : ∃ s, s = spS raw 0 false 32 := ⟨_, rfl⟩
  rw [← hp1e] at hp1
  obtain ⟨q2, hq2⟩ : ∃ p, p = toH (spB raw p1 s1 32) := ⟨_, rfl⟩
  have hth2 := toH_l (spB_length raw p1 s1 32) (spB_ok ho p1 s1 32)
  rw [← hq2] at hth2
  have hp2 := spP_le hp1 s1 32
  obtain ⟨p2, hp2e⟩ : ∃ p, p = spP raw p1 s1 32 := ⟨_, rfl⟩
  obtain ⟨s2, hs2e⟩ : ∃ s, s = spS raw p1 s1 32 := ⟨_, rfl⟩
  rw [← hp2e] at hp2
  have hbo := spB_ok ho p2 s2 4
  obtain ⟨h3, hh3⟩ : ∃ h, h = leN (spB raw p2 s2 4) := ⟨_, rfl⟩
  have hp3 := spP_le hp2 s2 4
  obtain ⟨p3, hp3e⟩ : ∃ p, p = spP raw p2 s2 4 := ⟨_, rfl⟩
  obtain ⟨s3, hs3e⟩ : ∃ s, s = spS raw p2 s2 4 := ⟨_, rfl⟩
  rw [← hp3e] at hp3
  obtain ⟨hb1, hb2⟩ := by0_byte ho p3 s3 1 0 (by omega)
  obtain ⟨n, hn⟩ : ∃ n : Nat, n = (by0 (spB raw p3 s3 1) 0).toNat := ⟨_, rfl⟩
  have hc1 : IntKind.i64.wrap ((spB raw p3 s3 1).getD 0 0) = (n : Int) := by rw [by0_def, wrap_int (by omega) (by omega)]; omega
  have hnb : n < 256 := by omega
  have hp4 := spP_le hp3 s3 1
  obtain ⟨p4, hp4e⟩ : ∃ p, p = spP raw p3 s3 1 := ⟨_, rfl⟩
  obtain ⟨s4, hs4e⟩ : ∃ s, s = spS raw p3 s3 1 := ⟨_, rfl⟩
  rw [← hp4e] at hp4
  have hblk : sblk raw = (⟨q1, q2, h3, (sTxsF raw p4 s4 n).1⟩, (sTxsF raw p4 s4 n).2.2) := by
    unfold sblk
    simp only [← hq1, ← hp1e, ← hs1e, ← hq2, ← hp2e, ← hs2e, ← hh3, ← hp3e, ← hs3e, ← hn, ← hp4e, ← hs4e]
  rw [hblk] at hb0 ⊢
  simp only at hb0 ⊢
  clear hb1 hb2 hblk
  have hD := And.intro (hth1.symm) (And.intro (hp1e.symm) (And.intro (hs1e.symm) (And.intro (hth2.symm) (And.intro (hp2e.symm) (And.intro (hs2e.symm) (And.intro (hh3.symm) (And.intro (hp3e.symm) (And.intro (hs3e.symm) (And.intro (hc1) (And.intro (hp4e.symm) (And.intro (hs4e.symm) (@spB_length))))))))))))
  have hD := And.intro (hth1.symm) (And.intro (hp1e.symm) (And.intro (hs1e.symm) (And.intro (hth2.symm) (And.intro (hp2e.symm) (And.intro (hs2e.symm) (And.intro (hh3.symm) (And.intro (hp3e.symm) (And.intro (hs3e.symm) (And.intro (hc1) (And.intro (hp4e.symm) (And.intro (hs4e.symm) (@spB_length))))))))))))
  refine sT 69 [.cell 2 53, .tmp 3] Try.func31 fun w0 S0 ρ0 φ0 => ?_
  repeat' (first | apply W.seq | apply W.skip | apply W.region | apply W.block | apply N.code | apply N.blk | apply Sl.nil | apply W.exit | apply W.ret | apply E.hit | apply E.code | apply E.fin | refine zM ?_ | apply O.i | refine sP ?_ | refine sQ fun _ => ?_ | refine zg fun _ => ?_ | refine sX fun _ => ?_ | refine sPf ?_ | refine sPt ?_ | (refine k1 true [(1000000, 0, none)] c100 ?_; refine k2 stake_ok ?_) | (refine k1 false [] c99 ?_; refine k2 l5Hash_ok ?_) | (refine k1 false [] c73 ?_; refine k2 l2Low_ok ?_) | (refine rD (id := 9) anyW [3, 5, 7] ?_; refine rP 0 false fun _ => ?_; refine rP 2 false fun _ => ?_; (focus (refine rA [1, 3] (xO (fun _ _ _ _ _ => ?_) (xO (fun _ _ _ _ _ => ?_) RX.nil)); (focus (refine sQ fun _ => ?_; refine rO 3 fun _ _ _ _ _ => ?_; refine k1 true [(1000000, 0, none)] c101 ?_; refine k2 hcall ?_; refine rO 4 fun _ _ _ _ _ => ?_; refine sX fun _ => ?_; refine rO 5 fun _ _ _ _ _ => ?_; refine sX fun _ => ?_; refine rP 6 false fun _ => ?_; refine rO 7 fun _ _ _ _ _ => ?_; refine sX fun _ => ?_; refine rE ?_)); rotate_left; (focus (refine k1 true [(1000000, 0, none)] c101 ?_; refine k2 hcall ?_; refine rP 1 true fun _ => ?_; refine rO 4 fun _ _ _ _ _ => ?_; refine sX fun _ => ?_; refine rO 5 fun _ _ _ _ _ => ?_; refine sX fun _ => ?_; refine rP 6 false fun _ => ?_; refine rO 7 fun _ _ _ _ _ => ?_; refine sX fun _ => ?_; refine rE ?_)); rotate_left))) | (refine k1 false [] c55 ?_; refine k2 hen ?_) | (refine k1 false [] c74 ?_; refine k2 l2Same_ok ?_) | (focus (refine zs ?_ ?_; all_goals (intro hg; first | (exfalso; ((try simp [-List.getD_eq_getElem?_getD] at hg) <;> omega)) | ((first | subst hg | rw [hg] | skip); (focus (refine zj ?_ ?_; all_goals (intro hb; first | (exfalso; revert hb; decide) | ((try refine sA 62 ?_); (try refine sA 63 ?_); refine k1 false [] c74 ?_; refine k2 l2Same_ok ?_) | refine Sl.weak (Weak.refl _ _) ?_))))))) | refine zI ?_ ?_ | (intro hb; (try simp [-List.getD_eq_getElem?_getD] at hb); (try (exfalso; omega))))
  (refine gA 5 0 65 2000000 3 ?_)
  have hD := dN0
  refine W.iter (fun k => ⟨69, [(0, .pd (encI .u8 raw)), (2, .pt 2 0 0), (4, .pt 11 0 0), (5, .pt 5 0 0), (6, .pl (.int .i64 ((n : Int) - k)))], [(2, .c 66 [encA .u8 (List.replicate 32 0) ++ (encA .u8 (List.replicate 32 0) ++ [.pl (.int .i64 0), .nl])]), (5, .c 66 [encA .u8 q1.l ++ (encA .u8 q2.l ++ [.pl (.int .i64 h3), .sl 2000000 0 k])]), (11, .c 3 [[.pd (encI .u8 raw), .pl (.int .i64 (sTxs raw p4 s4 k).2.1), .pl (.bool (sTxs raw p4 s4 k).2.2)]]), (2000000, .c 3 (encL oTx (sTxs raw p4 s4 k).1))], []⟩) (fun k => stopAt (fun k => (sTxs raw p4 s4 k).2.2) 0 n = stopAt (fun k => (sTxs raw p4 s4 k).2.2) k (n - k)) (n) (Weak.to (by first | rfl | (simp only [virtAt_n]; rfl)) ?s1 ?b1 (by exact dfe)) ?h1 (fun k hk hH => ?body1)
  (try case' s1 => first | exact to1 | (simp +decide only [go_sem]; (try simp (disch := first | exact ds | fail) only [go_sem, Nat.reduceAdd, Nat.reduceMul, Nat.reduceSub, Int.reduceToNat, Int.reduceNeg, Nat.reduceLeDiff, hD]); (try simp only [SV.pl.injEq, SV.sl.injEq, Value.int.injEq, Bk.c.injEq, encI_inj, true_and]); (try omega))); (try case' b1 => first | exact to1 | (simp +decide only [go_sem]; (try simp (disch := first | exact ds | fail) only [go_sem, Nat.reduceAdd, Nat.reduceMul, Nat.reduceSub, Int.reduceToNat, Int.reduceNeg, Nat.reduceLeDiff, hD]); (try simp only [SV.pl.injEq, SV.sl.injEq, Value.int.injEq, Bk.c.injEq, encI_inj, true_and]); (try omega))); (try case' h1 => first | exact to1 | (simp +decide only [go_sem]; (try simp (disch := first | exact ds | fail) only [go_sem, Nat.reduceAdd, Nat.reduceMul, Nat.reduceSub, Int.reduceToNat, Int.reduceNeg, Nat.reduceLeDiff, hD]); (try simp only [SV.pl.injEq, SV.sl.injEq, Value.int.injEq, Bk.c.injEq, encI_inj, true_and]); (try omega)))
  · exact ⟨rfl, rfl⟩
  obtain ⟨hle, hil, hsz⟩ := sTxs_ok ho hp4 s4 k
  have hst : ∀ x, x = sTxs raw p4 s4 k → sTxs raw p4 s4 (k + 1) = (x.1 ++ [(stx raw x.2.1 x.2.2).1], (stx raw x.2.1 x.2.2).2.1, (stx raw x.2.1 x.2.2).2.2) := fun x hx => by rw [hx]; rfl
  obtain ⟨⟨ts, pk, sk⟩, hx⟩ : ∃ x, x = sTxs raw p4 s4 k := ⟨_, rfl⟩
  have hst := hst _ hx
  have hsk : (sTxs raw p4 s4 k).2.2 = sk := by rw [← hx]
  rw [← hx] at hil hle hsz ⊢
  simp only at hil hle hsz hst ⊢
  by_cases hgo : k < n ∧ sk = false
  · obtain ⟨hkn, rfl⟩ := hgo
    have hH' := hH.trans (stopAt_step hsk hkn)
    have hcall := stx_ok (s := false) hl ho hle
    have htx := stx_b ho hle false
    obtain ⟨⟨tk, pn, sn⟩, hxn⟩ : ∃ x, x = stx raw pk false := ⟨_, rfl⟩
    rw [← hxn] at hst htx hcall
    simp only at hst htx hcall
    simp only [oTx] at hcall
    clear hH hsk hx
    have hD := And.intro (hil) (@encT_snoc)
    repeat' (first | apply W.seq | apply W.skip | refine W.region (id := 0) ?_ | refine W.region (id := 1) ?_ | refine W.region (id := 2) ?_ | refine W.region (id := 3) ?_ | refine W.region (id := 4) ?_ | refine W.region (id := 5) ?_ | refine W.region (id := 6) ?_ | refine W.region (id := 7) ?_ | refine W.region (id := 8) ?_ | refine W.region (id := 10) ?_ | refine W.region (id := 11) ?_ | refine W.region (id := 12) ?_ | refine W.region (id := 13) ?_ | apply W.block | apply N.code | apply N.blk | apply Sl.nil | apply W.exit | apply W.ret | apply E.hit | apply E.code | apply E.fin | refine zM ?_ | apply O.i | refine sP ?_ | refine sQ fun _ => ?_ | refine zg fun _ => ?_ | refine sX fun _ => ?_ | refine sPf ?_ | refine sPt ?_ | (refine k1 true [(1000000, 0, none)] c100 ?_; refine k2 stake_ok ?_) | (refine k1 false [] c99 ?_; refine k2 l5Hash_ok ?_) | (refine k1 false [] c73 ?_; refine k2 l2Low_ok ?_) | (refine k1 false [] c55 ?_; refine k2 hen ?_) | (refine k1 false [] c74 ?_; refine k2 l2Same_ok ?_) | (focus (refine zs ?_ ?_; all_goals (intro hg; first | (exfalso; ((try simp [-List.getD_eq_getElem?_getD] at hg) <;> omega)) | ((first | subst hg | rw [hg] | skip); (focus (refine zj ?_ ?_; all_goals (intro hb; first | (exfalso; revert hb; decide) | ((try refine sA 62 ?_); (try refine sA 63 ?_); refine k1 false [] c74 ?_; refine k2 l2Same_ok ?_) | refine Sl.weak (Weak.refl _ _) ?_))))))) | refine zI ?_ ?_ | (intro hb; (try simp [-List.getD_eq_getElem?_getD] at hb); (try (exfalso; omega))))
    first | refine rDJ (id := 9) anyW [3, 5, 7] ⟨69, [(0, .pd (encI .u8 raw)), (2, .pt 2 0 0), (4, .pt 11 0 0), (5, .pt 5 0 0), (6, .pl (.int .i64 ((n : Int) - k)))], [(2, .c 66 [encA .u8 (List.replicate 32 0) ++ (encA .u8 (List.replicate 32 0) ++ [.pl (.int .i64 0), .nl])]), (5, .c 66 [encA .u8 q1.l ++ (encA .u8 q2.l ++ [.pl (.int .i64 h3), .sl 46 0 (k + 1)])]), (11, .c 3 [[.pd (encI .u8 raw), .pl (.int .i64 pn), .pl (.bool sn)]]), (nmR 44, .c 33 (encL fPoint tk.Ins)), (nmR 44 + 1, .c 1 (encI .i64 tk.Outs)), (46, .c 3 (encL oTx ts ++ [[.sl (nmR 44) 0 tk.Ins.length, .sl (nmR 44 + 1) 0 tk.Outs.length, .pl (.int .i64 tk.Height)]]))], []⟩ ?j2 ?k2 | refine rDJ1 (id := 9) anyW [3, 5, 7] ⟨69, [(0, .pd (encI .u8 raw)), (2, .pt 2 0 0), (4, .pt 11 0 0), (5, .pt 5 0 0), (6, .pl (.int .i64 ((n : Int) - k)))], [(2, .c 66 [encA .u8 (List.replicate 32 0) ++ (encA .u8 (List.replicate 32 0) ++ [.pl (.int .i64 0), .nl])]), (5, .c 66 [encA .u8 q1.l ++ (encA .u8 q2.l ++ [.pl (.int .i64 h3), .sl 46 0 (k + 1)])]), (11, .c 3 [[.pd (encI .u8 raw), .pl (.int .i64 pn), .pl (.bool sn)]]), (nmR 44, .c 33 (encL fPoint tk.Ins)), (nmR 44 + 1, .c 1 (encI .i64 tk.Outs)), (46, .c 3 (encL oTx ts ++ [[.sl (nmR 44) 0 tk.Ins.length, .sl (nmR 44 + 1) 0 tk.Outs.length, .pl (.int .i64 tk.Height)]]))], []⟩ ?j2 ?k2
    case' j2 => (refine rP 0 false fun _ => ?_; refine rP 2 false fun _ => ?_; (focus (refine rA [1, 3] (xO (fun _ _ _ _ _ => ?_) (xO (fun _ _ _ _ _ => ?_) RX.nil)); (focus (refine sQ fun _ => ?_; refine rO 3 fun _ _ _ _ _ => ?_; refine k1 true [(1000000, 0, none)] c101 ?_; refine k2 hcall ?_; refine rO 4 fun _ _ _ _ _ => ?_; refine sX fun _ => ?_; refine rO 5 fun _ _ _ _ _ => ?_; refine sX fun _ => ?_; refine rP 6 false fun _ => ?_; refine rO 7 fun _ _ _ _ _ => ?_; refine sX fun _ => ?_; refine rE ?_)); rotate_left; (focus (refine k1 true [(1000000, 0, none)] c101 ?_; refine k2 hcall ?_; refine rP 1 true fun _ => ?_; refine rO 4 fun _ _ _ _ _ => ?_; refine sX fun _ => ?_; refine rO 5 fun _ _ _ _ _ => ?_; refine sX fun _ => ?_; refine rP 6 false fun _ => ?_; refine rO 7 fun _ _ _ _ _ => ?_; refine sX fun _ => ?_; refine rE ?_)); rotate_left)); all_goals (refine Weak.to (by first | rfl | (simp only [virtAt_n]; rfl)) ?_ ?_ (by exact dfe) <;> (first | exact to1 | (simp +decide only [go_sem]; (try simp (disch := first | exact ds | fail) only [go_sem, Nat.reduceAdd, Nat.reduceMul, Nat.reduceSub, Int.reduceToNat, Int.reduceNeg, Nat.reduceLeDiff, hD]); (try simp only [SV.pl.injEq, SV.sl.injEq, Value.int.injEq, Bk.c.injEq, encI_inj, true_and]); (try omega)))))
    repeat' (first | apply W.seq | apply W.skip | apply W.region | apply W.block | apply N.code | apply N.blk | apply Sl.nil | apply W.exit | apply W.ret | apply E.hit | apply E.code | apply E.fin | refine zM ?_ | apply O.i | refine sP ?_ | refine sQ fun _ => ?_ | refine zg fun _ => ?_ | refine sX fun _ => ?_ | refine sPf ?_ | refine sPt ?_ | (refine k1 true [(1000000, 0, none)] c100 ?_; refine k2 stake_ok ?_) | (refine k1 false [] c99 ?_; refine k2 l5Hash_ok ?_) | (refine k1 false [] c73 ?_; refine k2 l2Low_ok ?_) | (refine rD (id := 9) anyW [3, 5, 7] ?_; refine rP 0 false fun _ => ?_; refine rP 2 false fun _ => ?_; (focus (refine rA [1, 3] (xO (fun _ _ _ _ _ => ?_) (xO (fun _ _ _ _ _ => ?_) RX.nil)); (focus (refine sQ fun _ => ?_; refine rO 3 fun _ _ _ _ _ => ?_; refine k1 true [(1000000, 0, none)] c101 ?_; refine k2 hcall ?_; refine rO 4 fun _ _ _ _ _ => ?_; refine sX fun _ => ?_; refine rO 5 fun _ _ _ _ _ => ?_; refine sX fun _ => ?_; refine rP 6 false fun _ => ?_; refine rO 7 fun _ _ _ _ _ => ?_; refine sX fun _ => ?_; refine rE ?_)); rotate_left; (focus (refine k1 true [(1000000, 0, none)] c101 ?_; refine k2 hcall ?_; refine rP 1 true fun _ => ?_; refine rO 4 fun _ _ _ _ _ => ?_; refine sX fun _ => ?_; refine rO 5 fun _ _ _ _ _ => ?_; refine sX fun _ => ?_; refine rP 6 false fun _ => ?_; refine rO 7 fun _ _ _ _ _ => ?_; refine sX fun _ => ?_; refine rE ?_)); rotate_left))) | (refine k1 false [] c55 ?_; refine k2 hen ?_) | (refine k1 false [] c74 ?_; refine k2 l2Same_ok ?_) | (focus (refine zs ?_ ?_; all_goals (intro hg; first | (exfalso; ((try simp [-List.getD_eq_getElem?_getD] at hg) <;> omega)) | ((first | subst hg | rw [hg] | skip); (focus (refine zj ?_ ?_; all_goals (intro hb; first | (exfalso; revert hb; decide) | ((try refine sA 62 ?_); (try refine sA 63 ?_); refine k1 false [] c74 ?_; refine k2 l2Same_ok ?_) | refine Sl.weak (Weak.refl _ _) ?_))))))) | refine zI ?_ ?_ | (intro hb; (try simp [-List.getD_eq_getElem?_getD] at hb); (try (exfalso; omega))))
    (refine N.fin ⟨by omega, ?h3, ?w3⟩; case' w3 => (refine eF 46 k 0 ?_; refine eF 46 k 1 ?_; refine eR 46 2000000 ?_; refine Weak.to (by first | rfl | (simp only [virtAt_n]; rfl)) ?s3 ?b3 (by exact dfe)))
    (try case' s3 => first | exact to1 | (simp +decide only [go_sem]; (try simp (disch := first | exact ds | fail) only [go_sem, Nat.reduceAdd, Nat.reduceMul, Nat.reduceSub, Int.reduceToNat, Int.reduceNeg, Nat.reduceLeDiff, hD]); (try simp only [SV.pl.injEq, SV.sl.injEq, Value.int.injEq, Bk.c.injEq, encI_inj, true_and]); (try omega))); (try case' b3 => first | exact to1 | (simp +decide only [go_sem]; (try simp (disch := first | exact ds | fail) only [go_sem, Nat.reduceAdd, Nat.reduceMul, Nat.reduceSub, Int.reduceToNat, Int.reduceNeg, Nat.reduceLeDiff, hD]); (try simp only [SV.pl.injEq, SV.sl.injEq, Value.int.injEq, Bk.c.injEq, encI_inj, true_and]); (try omega))); (try case' h3 => first | exact to1 | (simp +decide only [go_sem]; (try simp (disch := first | exact ds | fail) only [go_sem, Nat.reduceAdd, Nat.reduceMul, Nat.reduceSub, Int.reduceToNat, Int.reduceNeg, Nat.reduceLeDiff, hD]); (try simp only [SV.pl.injEq, SV.sl.injEq, Value.int.injEq, Bk.c.injEq, encI_inj, true_and]); (try omega)))
    rw [hst]
    exact ⟨rfl, rfl⟩
  have hbz : (bif decide ((n : Int) - k > 0) then !sk else false) = false := by
    cases sk with
    | true => simp
    | false =>
      have : ¬ k < n := fun h => hgo ⟨h, rfl⟩
      simp
      omega
  have hnk : sk = false → n ≤ k := fun e => by
    have : ¬ k < n := fun h => hgo ⟨h, e⟩
    omega
  have hend : stopAt (fun k => (sTxs raw p4 s4 k).2.2) 0 n = k := by
    rw [hH]
    by_cases hkn : k < n
    · have : sk = true := by cases sk with
        | true => rfl
        | false => exact absurd ⟨hkn, rfl⟩ hgo
      exact stopAt_hit (by rw [hsk, this])
    · rw [show n - k = 0 by omega]
      rfl
  have hF : sTxsF raw p4 s4 n = (ts, pk, sk) := by
    unfold sTxsF
    rw [hend, hx]
  rw [hF] at hb0 ⊢
  simp only at hb0 ⊢
  clear hend hH hgo hsk hst hx hF
  have hts : totTxS (⟨q1, q2, h3, ts⟩ : BlockA).Txs < 2 ^ 40 := by
    show ts.length + sumN totTx ts < 2 ^ 40
    omega
  obtain ⟨bv, hP⟩ := ex_b (blkOk ⟨q1, q2, h3, ts⟩)
  have hen := spEncodeBlock_ok hts hP
  have hel := encBlockb_len hP
  obtain ⟨ys, hys⟩ : ∃ ys, ys = if bv then encBlock ⟨q1, q2, h3, ts⟩ else [] := ⟨_, rfl⟩
  rw [← hys] at hen hel
  have hb1 : b = (!sk && bv && decide (ys = raw)) := by
    rw [Bool.eq_iff_iff, hb0, ← hP, hys]
    cases sk <;> cases bv <;> simp
  simp only [fBlock] at hen
  clear hb0 hP hys
  have hdef : oBlock default = encA .u8 (List.replicate 32 0) ++ (encA .u8 (List.replicate 32 0) ++ [.pl (.int .i64 0), .ow 3 (encL oTx [])]) := rfl
  cases sk with
  | true =>
    obtain rfl : b = false := by simpa using hb1
    simp only [Bool.false_eq_true, if_false, hdef]
    have hD := And.intro (hbz) ((hil))
    repeat' (first | apply W.seq | apply W.skip | apply W.region | apply W.block | apply N.code | apply N.blk | apply Sl.nil | apply W.exit | apply W.ret | apply E.hit | apply E.code | apply E.fin | refine zM ?_ | apply O.i | refine sP ?_ | refine sQ fun _ => ?_ | refine zg fun _ => ?_ | refine sX fun _ => ?_ | refine sPf ?_ | refine sPt ?_ | (refine k1 true [(1000000, 0, none)] c100 ?_; refine k2 stake_ok ?_) | (refine k1 false [] c99 ?_; refine k2 l5Hash_ok ?_) | (refine k1 false [] c73 ?_; refine k2 l2Low_ok ?_) | (refine rD (id := 9) anyW [3, 5, 7] ?_; refine rP 0 false fun _ => ?_; refine rP 2 false fun _ => ?_; (focus (refine rA [1, 3] (xO (fun _ _ _ _ _ => ?_) (xO (fun _ _ _ _ _ => ?_) RX.nil)); (focus (refine sQ fun _ => ?_; refine rO 3 fun _ _ _ _ _ => ?_; refine k1 true [(1000000, 0, none)] c101 ?_; refine k2 hcall ?_; refine rO 4 fun _ _ _ _ _ => ?_; refine sX fun _ => ?_; refine rO 5 fun _ _ _ _ _ => ?_; refine sX fun _ => ?_; refine rP 6 false fun _ => ?_; refine rO 7 fun _ _ _ _ _ => ?_; refine sX fun _ => ?_; refine rE ?_)); rotate_left; (focus (refine k1 true [(1000000, 0, none)] c101 ?_; refine k2 hcall ?_; refine rP 1 true fun _ => ?_; refine rO 4 fun _ _ _ _ _ => ?_; refine sX fun _ => ?_; refine rO 5 fun _ _ _ _ _ => ?_; refine sX fun _ => ?_; refine rP 6 false fun _ => ?_; refine rO 7 fun _ _ _ _ _ => ?_; refine sX fun _ => ?_; refine rE ?_)); rotate_left))) | (refine k1 false [] c55 ?_; refine k2 hen ?_) | (refine k1 false [] c74 ?_; refine k2 l2Same_ok ?_) | (focus (refine zs ?_ ?_; all_goals (intro hg; first | (exfalso; ((try simp [-List.getD_eq_getElem?_getD] at hg) <;> omega)) | ((first | subst hg | rw [hg] | skip); (focus (refine zj ?_ ?_; all_goals (intro hb; first | (exfalso; revert hb; decide) | ((try refine sA 62 ?_); (try refine sA 63 ?_); refine k1 false [] c74 ?_; refine k2 l2Same_ok ?_) | refine Sl.weak (Weak.refl _ _) ?_))))))) | refine zI ?_ ?_ | (intro hb; (try simp [-List.getD_eq_getElem?_getD] at hb); (try (exfalso; omega))))
    all_goals first | (exfalso; omega) | exact rT
  | false =>
    have hnk := hnk rfl
    cases bv with
    | false =>
      obtain rfl : b = false := by simpa using hb1
      simp only [Bool.false_eq_true, if_false, hdef]
      have hD := And.intro (hbz) ((hil))
      repeat' (first | apply W.seq | apply W.skip | apply W.region | apply W.block | apply N.code | apply N.blk | apply Sl.nil | apply W.exit | apply W.ret | apply E.hit | apply E.code | apply E.fin | refine zM ?_ | apply O.i | refine sP ?_ | refine sQ fun _ => ?_ | refine zg fun _ => ?_ | refine sX fun _ => ?_ | refine sPf ?_ | refine sPt ?_ | (refine k1 true [(1000000, 0, none)] c100 ?_; refine k2 stake_ok ?_) | (refine k1 false [] c99 ?_; refine k2 l5Hash_ok ?_) | (refine k1 false [] c73 ?_; refine k2 l2Low_ok ?_) | (refine rD (id := 9) anyW [3, 5, 7] ?_; refine rP 0 false fun _ => ?_; refine rP 2 false fun _ => ?_; (focus (refine rA [1, 3] (xO (fun _ _ _ _ _ => ?_) (xO (fun _ _ _ _ _ => ?_) RX.nil)); (focus (refine sQ fun _ => ?_; refine rO 3 fun _ _ _ _ _ => ?_; refine k1 true [(1000000, 0, none)] c101 ?_; refine k2 hcall ?_; refine rO 4 fun _ _ _ _ _ => ?_; refine sX fun _ => ?_; refine rO 5 fun _ _ _ _ _ => ?_; refine sX fun _ => ?_; refine rP 6 false fun _ => ?_; refine rO 7 fun _ _ _ _ _ => ?_; refine sX fun _ => ?_; refine rE ?_)); rotate_left; (focus (refine k1 true [(1000000, 0, none)] c101 ?_; refine k2 hcall ?_; refine rP 1 true fun _ => ?_; refine rO 4 fun _ _ _ _ _ => ?_; refine sX fun _ => ?_; refine rO 5 fun _ _ _ _ _ => ?_; refine sX fun _ => ?_; refine rP 6 false fun _ => ?_; refine rO 7 fun _ _ _ _ _ => ?_; refine sX fun _ => ?_; refine rE ?_)); rotate_left))) | (refine k1 false [] c55 ?_; refine k2 hen ?_) | (refine k1 false [] c74 ?_; refine k2 l2Same_ok ?_) | (focus (refine zs ?_ ?_; all_goals (intro hg; first | (exfalso; ((try simp [-List.getD_eq_getElem?_getD] at hg) <;> omega)) | ((first | subst hg | rw [hg] | skip); (focus (refine zj ?_ ?_; all_goals (intro hb; first | (exfalso; revert hb; decide) | ((try refine sA 62 ?_); (try refine sA 63 ?_); refine k1 false [] c74 ?_; refine k2 l2Same_ok ?_) | refine Sl.weak (Weak.refl _ _) ?_))))))) | refine zI ?_ ?_ | (intro hb; (try simp [-List.getD_eq_getElem?_getD] at hb); (try (exfalso; omega))))
      all_goals first | (exfalso; omega) | exact rT
    | true =>
      by_cases he : ys = raw
      · have he2 : decide (ys = raw) = true := decide_eq_true he
        obtain rfl : b = true := by simpa [he2] using hb1
        simp only [if_true, oBlock]
        have hD := And.intro (hbz) (And.intro (hil) ((he2)))
        repeat' (first | apply W.seq | apply W.skip | apply W.region | apply W.block | apply N.code | apply N.blk | apply Sl.nil | apply W.exit | apply W.ret | apply E.hit | apply E.code | apply E.fin | refine zM ?_ | apply O.i | refine sP ?_ | refine sQ fun _ => ?_ | refine zg fun _ => ?_ | refine sX fun _ => ?_ | refine sPf ?_ | refine sPt ?_ | (refine k1 true [(1000000, 0, none)] c100 ?_; refine k2 stake_ok ?_) | (refine k1 false [] c99 ?_; refine k2 l5Hash_ok ?_) | (refine k1 false [] c73 ?_; refine k2 l2Low_ok ?_) | (refine rD (id := 9) anyW [3, 5, 7] ?_; refine rP 0 false fun _ => ?_; refine rP 2 false fun _ => ?_; (focus (refine rA [1, 3] (xO (fun _ _ _ _ _ => ?_) (xO (fun _ _ _ _ _ => ?_) RX.nil)); (focus (refine sQ fun _ => ?_; refine rO 3 fun _ _ _ _ _ => ?_; refine k1 true [(1000000, 0, none)] c101 ?_; refine k2 hcall ?_; refine rO 4 fun _ _ _ _ _ => ?_; refine sX fun _ => ?_; refine rO 5 fun _ _ _ _ _ => ?_; refine sX fun _ => ?_; refine rP 6 false fun _ => ?_; refine rO 7 fun _ _ _ _ _ => ?_; refine sX fun _ => ?_; refine rE ?_)); rotate_left; (focus (refine k1 true [(1000000, 0, none)] c101 ?_; refine k2 hcall ?_; refine rP 1 true fun _ => ?_; refine rO 4 fun _ _ _ _ _ => ?_; refine sX fun _ => ?_; refine rO 5 fun _ _ _ _ _ => ?_; refine sX fun _ => ?_; refine rP 6 false fun _ => ?_; refine rO 7 fun _ _ _ _ _ => ?_; refine sX fun _ => ?_; refine rE ?_)); rotate_left))) | (refine k1 false [] c55 ?_; refine k2 hen ?_) | (refine k1 false [] c74 ?_; refine k2 l2Same_ok ?_) | (focus (refine zs ?_ ?_; all_goals (intro hg; first | (exfalso; ((try simp [-List.getD_eq_getElem?_getD] at hg) <;> omega)) | ((first | subst hg | rw [hg] | skip); (focus (refine zj ?_ ?_; all_goals (intro hb; first | (exfalso; revert hb; decide) | ((try refine sA 62 ?_); (try refine sA 63 ?_); refine k1 false [] c74 ?_; refine k2 l2Same_ok ?_) | refine Sl.weak (Weak.refl _ _) ?_))))))) | refine zI ?_ ?_ | (intro hb; (try simp [-List.getD_eq_getElem?_getD] at hb); (try (exfalso; omega))))
        all_goals first | (exfalso; omega) | exact rT
      · have he2 : decide (ys = raw) = false := decide_eq_false he
        obtain rfl : b = false := by simpa [he2] using hb1
        simp only [Bool.false_eq_true, if_false, hdef]
        have hD := And.intro (hbz) (And.intro (hil) ((he2)))
        repeat' (first | apply W.seq | apply W.skip | apply W.region | apply W.block | apply N.code | apply N.blk | apply Sl.nil | apply W.exit | apply W.ret | apply E.hit | apply E.code | apply E.fin | refine zM ?_ | apply O.i | refine sP ?_ | refine sQ fun _ => ?_ | refine zg fun _ => ?_ | refine sX fun _ => ?_ | refine sPf ?_ | refine sPt ?_ | (refine k1 true [(1000000, 0, none)] c100 ?_; refine k2 stake_ok ?_) | (refine k1 false [] c99 ?_; refine k2 l5Hash_ok ?_) | (refine k1 false [] c73 ?_; refine k2 l2Low_ok ?_) | (refine rD (id := 9) anyW [3, 5, 7] ?_; refine rP 0 false fun _ => ?_; refine rP 2 false fun _ => ?_; (focus (refine rA [1, 3] (xO (fun _ _ _ _ _ => ?_) (xO (fun _ _ _ _ _ => ?_) RX.nil)); (focus (refine sQ fun _ => ?_; refine rO 3 fun _ _ _ _ _ => ?_; refine k1 true [(1000000, 0, none)] c101 ?_; refine k2 hcall ?_; refine rO 4 fun _ _ _ _ _ => ?_; refine sX fun _ => ?_; refine rO 5 fun _ _ _ _ _ => ?_; refine sX fun _ => ?_; refine rP 6 false fun _ => ?_; refine rO 7 fun _ _ _ _ _ => ?_; refine sX fun _ => ?_; refine rE ?_)); rotate_left; (focus (refine k1 true [(1000000, 0, none)] c101 ?_; refine k2 hcall ?_; refine rP 1 true fun _ => ?_; refine rO 4 fun _ _ _ _ _ => ?_; refine sX fun _ => ?_; refine rO 5 fun _ _ _ _ _ => ?_; refine sX fun _ => ?_; refine rP 6 false fun _ => ?_; refine rO 7 fun _ _ _ _ _ => ?_; refine sX fun _ => ?_; refine rE ?_)); rotate_left))) | (refine k1 false [] c55 ?_; refine k2 hen ?_) | (refine k1 false [] c74 ?_; refine k2 l2Same_ok ?_) | (focus (refine zs ?_ ?_; all_goals (intro hg; first | (exfalso; ((try simp [-List.getD_eq_getElem?_getD] at hg) <;> omega)) | ((first | subst hg | rw [hg] | skip); (focus (refine zj ?_ ?_; all_goals (intro hb; first | (exfalso; revert hb; decide) | ((try refine sA 62 ?_); (try refine sA 63 ?_); refine k1 false [] c74 ?_; refine k2 l2Same_ok ?_) | refine Sl.weak (Weak.refl _ _) ?_))))))) | refine zI ?_ ?_ | (intro hb; (try simp [-List.getD_eq_getElem?_getD] at hb); (try (exfalso; omega))))
        all_goals first | (exfalso; omega) | exact rT
end Go.Proofs.Ytnancifnodbkdaa

