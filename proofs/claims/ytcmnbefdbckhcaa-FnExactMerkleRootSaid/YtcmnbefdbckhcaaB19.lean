import Derived.Test.YtcmnbefdbckhcaaB18
namespace Go.Proofs.Ytcmnbefdbckhcaa
open Go Go.Vcg Go.IntWalk
set_option maxRecDepth 100000
set_option maxHeartbeats 4000000
set_option linter.unusedSimpArgs false
set_option linter.unusedVariables false
theorem c29 : CallOk Try.prog 29 := ⟨_, Try.func29, rfl, by kernel_rfl⟩
theorem c31 : CallOk Try.prog 31 := ⟨_, Try.func31, rfl, by kernel_rfl⟩
theorem c30 : CallOk Try.prog 30 := ⟨_, Try.func30, rfl, by kernel_rfl⟩
theorem c32 : CallOk Try.prog 32 := ⟨_, Try.func32, rfl, by kernel_rfl⟩
theorem c33 : CallOk Try.prog 33 := ⟨_, Try.func33, rfl, by kernel_rfl⟩
theorem c6 : CallOk Try.prog 6 := ⟨_, Try.func6, rfl, by kernel_rfl⟩
def dblH (b : List Int) : H32 := ⟨sha (sha b), sha_length _, okBytes_sha _⟩
/-- One level of the tree. -/
def lvA (ids : List H32) (j : Nat) : H32 := ids.getD (2 * j) default
def lvB (ids : List H32) (j : Nat) : H32 := ids.getD (min (2 * j + 1) (ids.length - 1)) default
def lvl (ids : List H32) : List H32 := (List.range ((ids.length + 1) / 2)).map fun j => dblH ((lvA ids j).l ++ (lvB ids j).l)
theorem lvl_length (ids : List H32) : (lvl ids).length = (ids.length + 1) / 2 := by simp [lvl]
theorem lvl_getD (ids : List H32) (j : Nat) (h : j < (ids.length + 1) / 2) : (lvl ids).getD j default = dblH ((lvA ids j).l ++ (lvB ids j).l) := by
  simp [lvl, List.getD_eq_getElem?_getD, h]
def lvN : Nat → List H32 → List H32
  | 0, ids => ids
  | k + 1, ids => lvl (lvN k ids)
/-- After N levels one hash is left. -/
def Lad : Nat → List H32 → H32 → Prop
  | 0, ids, r => ids.length = 1 ∧ r = ids.getD 0 default
  | n + 1, ids, r => 1 < ids.length ∧ Lad n (lvl ids) r
theorem lad_ex : ∀ (m : Nat) (ids : List H32), ids.length ≤ m → 1 ≤ ids.length → ∃ n r, Lad n ids r
  | 0, ids, h1, h2 => by omega
  | m + 1, ids, h1, h2 => by
    by_cases e : ids.length = 1
    · exact ⟨0, _, e, rfl⟩
    · obtain ⟨n, r, h⟩ := lad_ex m (lvl ids) (by rw [lvl_length]; omega) (by rw [lvl_length]; omega)
      exact ⟨n + 1, r, by omega, h⟩
theorem lvN_lvl (k : Nat) : ∀ ids, lvN k (lvl ids) = lvl (lvN k ids) := by
  induction k with
  | zero => intro ids; rfl
  | succ k ih => intro ids; show lvl (lvN k (lvl ids)) = _; rw [ih]; rfl
theorem lad_at (k : Nat) : ∀ (n : Nat) (ids : List H32) (r : H32), Lad n ids r → k ≤ n → Lad (n - k) (lvN k ids) r := by
  induction k with
  | zero => intro n ids r h _; exact h
  | succ k ih =>
    intro n ids r h hk
    cases n with
    | zero => omega
    | succ n =>
      have := ih n (lvl ids) r h.2 (by omega)
      rw [lvN_lvl] at this
      rwa [show n + 1 - (k + 1) = n - k by omega]
theorem lad_more {n : Nat} {ids : List H32} {r : H32} (h : Lad n ids r) : (0 < n → 1 < ids.length) ∧ (n = 0 → ids.length = 1 ∧ r = ids.getD 0 default) := by
  cases n with
  | zero => exact ⟨fun e => absurd e (by omega), fun _ => h⟩
  | succ n => exact ⟨fun _ => h.1, fun e => absurd e (by omega)⟩
theorem lvN_le (k : Nat) (ids : List H32) (m : Nat) (h : ids.length ≤ m) : (lvN k ids).length ≤ m := by
  induction k with
  | zero => exact h
  | succ k ih => show (lvl _).length ≤ m; rw [lvl_length]; omega
theorem encH_snoc (ids : List H32) (k : Nat) (h : k < ids.length) : encL hR (ids.take k) ++ [encA .u8 (ids.getD k default).l] = encL hR (ids.take (k + 1)) := by
  rw [← take_snoc default ids k h, ← encL_append]
  rfl
theorem spMerkle_ok {ids : List H32} {d : H32} (hl : ids.length < 2 ^ 40 := by exact pm) (h0 : ids.length = 0 ∨ 1000 < ids.length → d = default := by exact pm) (h1 : 1 ≤ ids.length ∧ ids.length ≤ 1000 → ∃ n, Lad n ids d := by exact pm) : TSpec Try.prog 30 [] [.pd (encL hR ids)] false [] (.ag (encA .u8 d.l)) := by
  by_cases hn : 1 ≤ ids.length ∧ ids.length ≤ 1000
  · obtain ⟨n, hlad⟩ := h1 hn
    have hD := dN0
    refine sT 55 [.cell 2 24] Try.func30 fun w0 S0 ρ0 φ0 => ?_
    repeat' (first | apply W.seq | apply W.skip | apply W.region | apply W.block | apply N.code | apply N.blk | apply Sl.nil | apply W.exit | apply W.ret | apply E.hit | apply E.code | apply E.fin | refine zM ?_ | apply O.i | refine sP ?_ | refine sQ fun _ => ?_ | refine zg fun _ => ?_ | refine sX fun _ => ?_ | (refine rD (id := 11) anyW [8, 11] ?_; refine rP 0 false fun _ => ?_; refine rP 1 false fun _ => ?_; refine rP 2 false fun _ => ?_; refine rP 3 false fun _ => ?_; refine rP 4 true fun _ => ?_; refine rP 6 true fun _ => ?_; refine rO 5 fun _ _ _ _ _ => ?_; refine k1 false [] c75 ?_; refine k2 l5Of_ok ?_; refine rO 7 fun _ _ _ _ _ => ?_; refine k1 false [] c75 ?_; refine k2 l5Of_ok ?_; refine rO 8 fun _ _ _ _ _ => ?_; refine sX fun _ => ?_; refine rO 9 fun _ _ _ _ _ => ?_; refine k1 false [] c74 ?_; refine k2 hdd ?_; refine rO 10 fun _ _ _ _ _ => ?_; refine sX fun _ => ?_; refine rO 11 fun _ _ _ _ _ => ?_; refine sX fun _ => ?_; refine rP 12 false fun _ => ?_; refine rE ?_) | refine zI ?_ ?_ | (intro hb; (try simp [-List.getD_eq_getElem?_getD] at hb); (try (exfalso; omega))))
    · exfalso
      rcases hb with hb | hb
      · rw [hb] at hn
        simp at hn
      · omega
    refine W.iter (fun k => ⟨55, [(0, .pd (encL hR (lvN k ids))), (2, .pt 2 0 0)], [(2, .c 32 [encA .u8 (List.replicate 32 0)])]⟩) (fun k => True) (n) (Weak.to rfl ?s1 ?b1) ?h1 (fun k hk hH => ?body1)
    (try case' s1 => first | exact to1 | (simp +decide only [go_sem]; (try simp (disch := first | exact ds | fail) only [go_sem, Nat.reduceAdd, Nat.reduceMul, Nat.reduceSub, Int.reduceToNat, Int.reduceNeg, Nat.reduceLeDiff, hD]); (try simp only [SV.pl.injEq, SV.sl.injEq, Value.int.injEq, Bk.c.injEq, encI_inj, true_and]); (try omega))); (try case' b1 => first | exact to1 | (simp +decide only [go_sem]; (try simp (disch := first | exact ds | fail) only [go_sem, Nat.reduceAdd, Nat.reduceMul, Nat.reduceSub, Int.reduceToNat, Int.reduceNeg, Nat.reduceLeDiff, hD]); (try simp only [SV.pl.injEq, SV.sl.injEq, Value.int.injEq, Bk.c.injEq, encI_inj, true_and]); (try omega))); (try case' h1 => first | exact to1 | (simp +decide only [go_sem]; (try simp (disch := first | exact ds | fail) only [go_sem, Nat.reduceAdd, Nat.reduceMul, Nat.reduceSub, Int.reduceToNat, Int.reduceNeg, Nat.reduceLeDiff, hD]); (try simp only [SV.pl.injEq, SV.sl.injEq, Value.int.injEq, Bk.c.injEq, encI_inj, true_and]); (try omega)))
    · rfl
    have hat := lad_at k n ids d hlad hk
    have hle := lvN_le k ids 1000 hn.2
    have hmo := lad_more hat
    have hnx : lvl (lvN k ids) = lvN (k + 1) ids := rfl
    obtain ⟨L, hL⟩ : ∃ L, L = lvN k ids := ⟨_, rfl⟩
    rw [← hL] at hat hle hmo hnx ⊢
    repeat' (first | apply W.seq | apply W.skip | apply W.region | apply W.block | apply N.code | apply N.blk | apply Sl.nil | apply W.exit | apply W.ret | apply E.hit | apply E.code | apply E.fin | refine zM ?_ | apply O.i | refine sP ?_ | refine sQ fun _ => ?_ | refine zg fun _ => ?_ | refine sX fun _ => ?_ | (refine rD (id := 11) anyW [8, 11] ?_; refine rP 0 false fun _ => ?_; refine rP 1 false fun _ => ?_; refine rP 2 false fun _ => ?_; refine rP 3 false fun _ => ?_; refine rP 4 true fun _ => ?_; refine rP 6 true fun _ => ?_; refine rO 5 fun _ _ _ _ _ => ?_; refine k1 false [] c75 ?_; refine k2 l5Of_ok ?_; refine rO 7 fun _ _ _ _ _ => ?_; refine k1 false [] c75 ?_; refine k2 l5Of_ok ?_; refine rO 8 fun _ _ _ _ _ => ?_; refine sX fun _ => ?_; refine rO 9 fun _ _ _ _ _ => ?_; refine k1 false [] c74 ?_; refine k2 hdd ?_; refine rO 10 fun _ _ _ _ _ => ?_; refine sX fun _ => ?_; refine rO 11 fun _ _ _ _ _ => ?_; refine sX fun _ => ?_; refine rP 12 false fun _ => ?_; refine rE ?_) | refine zI ?_ ?_ | (intro hb; (try simp [-List.getD_eq_getElem?_getD] at hb); (try (exfalso; omega))))
    · (refine gR 18 2000000 ?_)
      have hll := lvl_length L
      refine W.iter (fun j => ⟨55, [(0, .pd (encL hR L)), (2, .pt 2 0 0), (3, .sl 2000000 0 j), (4, .pl (.int .i64 (2 * j)))], [(2, .c 32 [encA .u8 (List.replicate 32 0)]), (2000000, .c 32 (encL hR ((lvl L).take j)))]⟩) (fun j => True) ((L.length + 1) / 2) (Weak.to rfl ?s2 ?b2) ?h2 (fun j hj Hj => ?body2)
      (try case' s2 => first | exact to1 | (simp +decide only [go_sem]; (try simp (disch := first | exact ds | fail) only [go_sem, Nat.reduceAdd, Nat.reduceMul, Nat.reduceSub, Int.reduceToNat, Int.reduceNeg, Nat.reduceLeDiff, hD]); (try simp only [SV.pl.injEq, SV.sl.injEq, Value.int.injEq, Bk.c.injEq, encI_inj, true_and]); (try omega))); (try case' b2 => first | exact to1 | (simp +decide only [go_sem]; (try simp (disch := first | exact ds | fail) only [go_sem, Nat.reduceAdd, Nat.reduceMul, Nat.reduceSub, Int.reduceToNat, Int.reduceNeg, Nat.reduceLeDiff, hD]); (try simp only [SV.pl.injEq, SV.sl.injEq, Value.int.injEq, Bk.c.injEq, encI_inj, true_and]); (try omega))); (try case' h2 => first | exact to1 | (simp +decide only [go_sem]; (try simp (disch := first | exact ds | fail) only [go_sem, Nat.reduceAdd, Nat.reduceMul, Nat.reduceSub, Int.reduceToNat, Int.reduceNeg, Nat.reduceLeDiff, hD]); (try simp only [SV.pl.injEq, SV.sl.injEq, Value.int.injEq, Bk.c.injEq, encI_inj, true_and]); (try omega)))
      have hlj : ((lvl L).take j).length = j := by rw [List.length_take]; omega
      have e1 : (2 * (j : Int)).toNat = 2 * j := by omega
      have e2 : (2 * (j : Int) + 1).toNat = 2 * j + 1 := by omega
      have hD := And.intro (hlj) (And.intro (e1) (And.intro (e2) (@encI_append)))
      repeat' (first | apply W.seq | apply W.skip | refine W.region (id := 0) ?_ | refine W.region (id := 1) ?_ | refine W.region (id := 2) ?_ | refine W.region (id := 3) ?_ | refine W.region (id := 4) ?_ | refine W.region (id := 5) ?_ | refine W.region (id := 6) ?_ | refine W.region (id := 8) ?_ | refine W.region (id := 9) ?_ | refine W.region (id := 10) ?_ | refine W.region (id := 7) ?_ | refine W.region (id := 12) ?_ | refine W.region (id := 13) ?_ | apply W.block | apply N.code | apply N.blk | apply Sl.nil | apply W.exit | apply W.ret | apply E.hit | apply E.code | apply E.fin | refine zM ?_ | apply O.i | refine sP ?_ | refine sQ fun _ => ?_ | refine zg fun _ => ?_ | refine sX fun _ => ?_ | refine zI ?_ ?_ | (intro hb; (try simp [-List.getD_eq_getElem?_getD] at hb); (try (exfalso; omega))))
      · have hA : lvA L j = L.getD (2 * j) default := rfl
        have hB : lvB L j = L.getD (2 * j + 1) default := by unfold lvB; rw [Nat.min_eq_left (by omega)]
        have hdd := l5Double_ok (b := (lvA L j).l ++ (lvB L j).l) (d := dblH ((lvA L j).l ++ (lvB L j).l)) (by simp) (okBytes_append (lvA L j).ok (lvB L j).ok) rfl
        have hst := encH_snoc (lvl L) j (by rw [hll]; omega)
        rw [lvl_getD L j (by omega)] at hst
        rw [hA, hB] at hst hdd
        have hD := And.intro (hlj) (And.intro (e1) (And.intro (e2) (And.intro @encI_append ((hst)))))
        repeat' (first | apply W.seq | apply W.skip | apply W.region | apply W.block | apply N.code | apply N.blk | apply Sl.nil | apply W.exit | apply W.ret | apply E.hit | apply E.code | apply E.fin | refine zM ?_ | apply O.i | refine sP ?_ | refine sQ fun _ => ?_ | refine zg fun _ => ?_ | refine sX fun _ => ?_ | (refine rD (id := 11) (fun b => b != 5) [8, 11] ?_; refine rP 0 false fun _ => ?_; refine rP 1 false fun _ => ?_; refine rP 2 false fun _ => ?_; refine rP 3 false fun _ => ?_; refine rP 4 true fun _ => ?_; refine rP 6 true fun _ => ?_; refine rO 5 fun _ _ _ _ _ => ?_; refine k1 false [] c75 ?_; refine k2 l5Of_ok ?_; refine rO 7 fun _ _ _ _ _ => ?_; refine k1 false [] c75 ?_; refine k2 l5Of_ok ?_; refine rO 8 fun _ _ _ _ _ => ?_; refine sX fun _ => ?_; refine rO 9 fun _ _ _ _ _ => ?_; refine k1 false [] c74 ?_; refine k2 hdd ?_; refine rO 10 fun _ _ _ _ _ => ?_; refine sX fun _ => ?_; refine rO 11 fun _ _ _ _ _ => ?_; refine sX fun _ => ?_; refine rP 12 false fun _ => ?_; refine rE ?_) | refine zI ?_ ?_ | (intro hb; (try simp [-List.getD_eq_getElem?_getD] at hb); (try (exfalso; omega))))
        all_goals (refine nF ?_; refine eR 50 2000000 ?_; exact wt)
      · have hA : lvA L j = L.getD (2 * j) default := rfl
        have hB : lvB L j = L.getD (2 * j) default := by unfold lvB; rw [show min (2 * j + 1) (L.length - 1) = 2 * j by omega]
        have hdd := l5Double_ok (b := (lvA L j).l ++ (lvB L j).l) (d := dblH ((lvA L j).l ++ (lvB L j).l)) (by simp) (okBytes_append (lvA L j).ok (lvB L j).ok) rfl
        have hst := encH_snoc (lvl L) j (by rw [hll]; omega)
        rw [lvl_getD L j (by omega)] at hst
        rw [hA, hB] at hst hdd
        have hD := And.intro (hlj) (And.intro (e1) (And.intro (e2) (And.intro @encI_append ((hst)))))
        repeat' (first | apply W.seq | apply W.skip | apply W.region | apply W.block | apply N.code | apply N.blk | apply Sl.nil | apply W.exit | apply W.ret | apply E.hit | apply E.code | apply E.fin | refine zM ?_ | apply O.i | refine sP ?_ | refine sQ fun _ => ?_ | refine zg fun _ => ?_ | refine sX fun _ => ?_ | (refine rD (id := 11) (fun b => b != 5) [8, 11] ?_; refine rP 0 false fun _ => ?_; refine rP 1 false fun _ => ?_; refine rP 2 false fun _ => ?_; refine rP 3 false fun _ => ?_; refine rP 4 true fun _ => ?_; refine rP 6 true fun _ => ?_; refine rO 5 fun _ _ _ _ _ => ?_; refine k1 false [] c75 ?_; refine k2 l5Of_ok ?_; refine rO 7 fun _ _ _ _ _ => ?_; refine k1 false [] c75 ?_; refine k2 l5Of_ok ?_; refine rO 8 fun _ _ _ _ _ => ?_; refine sX fun _ => ?_; refine rO 9 fun _ _ _ _ _ => ?_; refine k1 false [] c74 ?_; refine k2 hdd ?_; refine rO 10 fun _ _ _ _ _ => ?_; refine sX fun _ => ?_; refine rO 11 fun _ _ _ _ _ => ?_; refine sX fun _ => ?_; refine rP 12 false fun _ => ?_; refine rE ?_) | refine zI ?_ ?_ | (intro hb; (try simp [-List.getD_eq_getElem?_getD] at hb); (try (exfalso; omega))))
        all_goals (refine nF ?_; refine eR 50 2000000 ?_; exact wt)
      obtain rfl : j = (L.length + 1) / 2 := by omega
      have hta : (lvl L).take ((L.length + 1) / 2) = lvl L := List.take_of_length_le (by rw [hll]; omega)
      rw [hta]
      have hD := And.intro (hll) ((hnx))
      (refine N.fin ⟨by omega, ?h5, ?w5⟩; case' w5 => (refine eZ 2000000 ?_; refine Weak.to rfl ?s5 ?b5))
      (try case' s5 => first | exact to1 | (simp +decide only [go_sem]; (try simp (disch := first | exact ds | fail) only [go_sem, Nat.reduceAdd, Nat.reduceMul, Nat.reduceSub, Int.reduceToNat, Int.reduceNeg, Nat.reduceLeDiff, hD]); (try simp only [SV.pl.injEq, SV.sl.injEq, Value.int.injEq, Bk.c.injEq, encI_inj, true_and]); (try omega))); (try case' b5 => first | exact to1 | (simp +decide only [go_sem]; (try simp (disch := first | exact ds | fail) only [go_sem, Nat.reduceAdd, Nat.reduceMul, Nat.reduceSub, Int.reduceToNat, Int.reduceNeg, Nat.reduceLeDiff, hD]); (try simp only [SV.pl.injEq, SV.sl.injEq, Value.int.injEq, Bk.c.injEq, encI_inj, true_and]); (try omega))); (try case' h5 => first | exact to1 | (simp +decide only [go_sem]; (try simp (disch := first | exact ds | fail) only [go_sem, Nat.reduceAdd, Nat.reduceMul, Nat.reduceSub, Int.reduceToNat, Int.reduceNeg, Nat.reduceLeDiff, hD]); (try simp only [SV.pl.injEq, SV.sl.injEq, Value.int.injEq, Bk.c.injEq, encI_inj, true_and]); (try omega)))
      rw [← hnx, encL_take, List.take_of_length_le (by rw [hll]; omega)]
    · have hkn : k = n := by
        by_cases e : 0 < n - k
        · have := hmo.1 e
          omega
        · omega
      have h3 := (hmo.2 (by omega)).2
      rw [← h3]
      have hD := dN0
      exact rT
  · rw [h0 (by omega), show (default : H32).l = List.replicate 32 0 from rfl]
    have hD := dN0
    refine sT 55 [.cell 2 24] Try.func30 fun w0 S0 ρ0 φ0 => ?_
    repeat' (first | apply W.seq | apply W.skip | apply W.region | apply W.block | apply N.code | apply N.blk | apply Sl.nil | apply W.exit | apply W.ret | apply E.hit | apply E.code | apply E.fin | refine zM ?_ | apply O.i | refine sP ?_ | refine sQ fun _ => ?_ | refine zg fun _ => ?_ | refine sX fun _ => ?_ | (refine rD (id := 11) anyW [8, 11] ?_; refine rP 0 false fun _ => ?_; refine rP 1 false fun _ => ?_; refine rP 2 false fun _ => ?_; refine rP 3 false fun _ => ?_; refine rP 4 true fun _ => ?_; refine rP 6 true fun _ => ?_; refine rO 5 fun _ _ _ _ _ => ?_; refine k1 false [] c75 ?_; refine k2 l5Of_ok ?_; refine rO 7 fun _ _ _ _ _ => ?_; refine k1 false [] c75 ?_; refine k2 l5Of_ok ?_; refine rO 8 fun _ _ _ _ _ => ?_; refine sX fun _ => ?_; refine rO 9 fun _ _ _ _ _ => ?_; refine k1 false [] c74 ?_; refine k2 hdd ?_; refine rO 10 fun _ _ _ _ _ => ?_; refine sX fun _ => ?_; refine rO 11 fun _ _ _ _ _ => ?_; refine sX fun _ => ?_; refine rP 12 false fun _ => ?_; refine rE ?_) | refine zI ?_ ?_ | (intro hb; (try simp [-List.getD_eq_getElem?_getD] at hb); (try (exfalso; omega))))
    · exact rT
    · exfalso
      have := List.length_pos_iff.mpr hb.1
      omega
theorem imMerkle1_ok (n : Nat) : ∀ {ids : List H32} {d : H32} (_hl : 1 ≤ ids.length ∧ ids.length ≤ 1000) (_h : Lad n ids d), TSpec Try.prog 32 [] [.pd (encL hR ids)] false [] (.ag (encA .u8 d.l)) := by
  induction n with
  | zero =>
    intro ids d hn h
    have h1 := h.1
    rw [h.2]
    have hD := dN0
    refine sT 50 [.cell 2 24] Try.func32 fun w0 S0 ρ0 φ0 => ?_
    repeat' (first | apply W.seq | apply W.skip | apply W.region | apply W.block | apply N.code | apply N.blk | apply Sl.nil | apply W.exit | apply W.ret | apply E.hit | apply E.code | apply E.fin | refine zM ?_ | apply O.i | refine sP ?_ | refine sQ fun _ => ?_ | refine zg fun _ => ?_ | refine sX fun _ => ?_ | (refine rD (id := 9) anyW [15, 16] ?_; refine rP 0 false fun _ => ?_; refine rP 1 false fun _ => ?_; refine rP 2 false fun _ => ?_; refine rP 3 true fun _ => ?_; refine rP 4 false fun _ => ?_; refine rP 5 false fun _ => ?_; refine rP 6 false fun _ => ?_; refine rP 7 false fun _ => ?_; refine rP 8 false fun _ => ?_; refine rP 9 false fun _ => ?_; refine rP 10 false fun _ => ?_; refine rP 11 false fun _ => ?_; refine rP 12 true fun _ => ?_; (focus (refine rA [13, 14] (xO (fun _ _ _ _ _ => ?_) (xO (fun _ _ _ _ _ => ?_) RX.nil)); (focus (refine sX fun _ => ?_; refine rO 14 fun _ _ _ _ _ => ?_; refine sX fun _ => ?_; refine rO 15 fun _ _ _ _ _ => ?_; refine sX fun _ => ?_; refine rO 16 fun _ _ _ _ _ => ?_; refine sX fun _ => ?_; refine rE ?_)); rotate_left; (focus (refine sX fun _ => ?_; refine rO 13 fun _ _ _ _ _ => ?_; refine sX fun _ => ?_; refine rO 15 fun _ _ _ _ _ => ?_; refine sX fun _ => ?_; refine rO 16 fun _ _ _ _ _ => ?_; refine sX fun _ => ?_; refine rE ?_)); rotate_left))) | (refine rD (id := 10) anyW [6] ?_; refine rP 0 false fun _ => ?_; refine rP 1 false fun _ => ?_; refine rP 2 false fun _ => ?_; refine rO 3 fun _ _ _ _ _ => ?_; refine sX fun _ => ?_; refine rO 4 fun _ _ _ _ _ => ?_; refine k1 false [] c77 ?_; refine k2 hdd ?_; refine rO 5 fun _ _ _ _ _ => ?_; refine sX fun _ => ?_; refine rO 6 fun _ _ _ _ _ => ?_; refine sX fun _ => ?_; refine rP 7 false fun _ => ?_; refine rE ?_) | (refine k1 false [] c32 ?_; refine k2 hrec ?_) | refine zI ?_ ?_ | (intro hb; (try simp [-List.getD_eq_getElem?_getD] at hb); (try (exfalso; omega))))
    · exfalso
      rcases hb with hb | hb
      · rw [hb] at hn
        simp at hn
      · omega
    · exact rT
  | succ n ih =>
    intro L d hn h
    have h1 := h.1
    have hrec := ih (ids := lvl L) (d := d) (by rw [lvl_length]; omega) h.2
    have hD := dN0
    refine sT 50 [.cell 2 24] Try.func32 fun w0 S0 ρ0 φ0 => ?_
    repeat' (first | apply W.seq | apply W.skip | apply W.region | apply W.block | apply N.code | apply N.blk | apply Sl.nil | apply W.exit | apply W.ret | apply E.hit | apply E.code | apply E.fin | refine zM ?_ | apply O.i | refine sP ?_ | refine sQ fun _ => ?_ | refine zg fun _ => ?_ | refine sX fun _ => ?_ | (refine rD (id := 9) anyW [15, 16] ?_; refine rP 0 false fun _ => ?_; refine rP 1 false fun _ => ?_; refine rP 2 false fun _ => ?_; refine rP 3 true fun _ => ?_; refine rP 4 false fun _ => ?_; refine rP 5 false fun _ => ?_; refine rP 6 false fun _ => ?_; refine rP 7 false fun _ => ?_; refine rP 8 false fun _ => ?_; refine rP 9 false fun _ => ?_; refine rP 10 false fun _ => ?_; refine rP 11 false fun _ => ?_; refine rP 12 true fun _ => ?_; (focus (refine rA [13, 14] (xO (fun _ _ _ _ _ => ?_) (xO (fun _ _ _ _ _ => ?_) RX.nil)); (focus (refine sX fun _ => ?_; refine rO 14 fun _ _ _ _ _ => ?_; refine sX fun _ => ?_; refine rO 15 fun _ _ _ _ _ => ?_; refine sX fun _ => ?_; refine rO 16 fun _ _ _ _ _ => ?_; refine sX fun _ => ?_; refine rE ?_)); rotate_left; (focus (refine sX fun _ => ?_; refine rO 13 fun _ _ _ _ _ => ?_; refine sX fun _ => ?_; refine rO 15 fun _ _ _ _ _ => ?_; refine sX fun _ => ?_; refine rO 16 fun _ _ _ _ _ => ?_; refine sX fun _ => ?_; refine rE ?_)); rotate_left))) | (refine rD (id := 10) anyW [6] ?_; refine rP 0 false fun _ => ?_; refine rP 1 false fun _ => ?_; refine rP 2 false fun _ => ?_; refine rO 3 fun _ _ _ _ _ => ?_; refine sX fun _ => ?_; refine rO 4 fun _ _ _ _ _ => ?_; refine k1 false [] c77 ?_; refine k2 hdd ?_; refine rO 5 fun _ _ _ _ _ => ?_; refine sX fun _ => ?_; refine rO 6 fun _ _ _ _ _ => ?_; refine sX fun _ => ?_; refine rP 7 false fun _ => ?_; refine rE ?_) | (refine k1 false [] c32 ?_; refine k2 hrec ?_) | refine zI ?_ ?_ | (intro hb; (try simp [-List.getD_eq_getElem?_getD] at hb); (try (exfalso; omega))))
    · exfalso
      rcases hb with hb | hb
      · rw [hb] at hn
        simp at hn
      · omega
    (refine gV 3 2000000 32 ?_)
    have hll := lvl_length L
    refine W.iter (fun j => ⟨50, [(0, .pd (encL hR L)), (2, .pt 2 0 0), (3, .sl 2000000 0 j), (4, .pl (.int .i64 (2 * j)))], [(2, .c 32 [encA .u8 (List.replicate 32 0)]), (2000000, .c 32 (encL hR ((lvl L).take j)))]⟩) (fun j => True) ((L.length + 1) / 2) (Weak.to rfl ?s6 ?b6) ?h6 (fun j hj Hj => ?body6)
    (try case' s6 => first | exact to1 | (simp +decide only [go_sem]; (try simp (disch := first | exact ds | fail) only [go_sem, Nat.reduceAdd, Nat.reduceMul, Nat.reduceSub, Int.reduceToNat, Int.reduceNeg, Nat.reduceLeDiff, hD]); (try simp only [SV.pl.injEq, SV.sl.injEq, Value.int.injEq, Bk.c.injEq, encI_inj, true_and]); (try omega))); (try case' b6 => first | exact to1 | (simp +decide only [go_sem]; (try simp (disch := first | exact ds | fail) only [go_sem, Nat.reduceAdd, Nat.reduceMul, Nat.reduceSub, Int.reduceToNat, Int.reduceNeg, Nat.reduceLeDiff, hD]); (try simp only [SV.pl.injEq, SV.sl.injEq, Value.int.injEq, Bk.c.injEq, encI_inj, true_and]); (try omega))); (try case' h6 => first | exact to1 | (simp +decide only [go_sem]; (try simp (disch := first | exact ds | fail) only [go_sem, Nat.reduceAdd, Nat.reduceMul, Nat.reduceSub, Int.reduceToNat, Int.reduceNeg, Nat.reduceLeDiff, hD]); (try simp only [SV.pl.injEq, SV.sl.injEq, Value.int.injEq, Bk.c.injEq, encI_inj, true_and]); (try omega)))
    have hlj : ((lvl L).take j).length = j := by rw [List.length_take]; omega
    have e1 : (2 * (j : Int)).toNat = 2 * j := by omega
    have e2 : j < (L.length + 1) / 2 → (if (L.length : Int) - 1 < 2 * j + 1 then (L.length : Int) - 1 else 2 * j + 1).toNat = min (2 * j + 1) (L.length - 1) := fun _ => by split <;> omega
    have hD := And.intro (hlj) (And.intro (e1) (@encI_append))
    repeat' (first | apply W.seq | apply W.skip | refine W.region (id := 0) ?_ | refine W.region (id := 1) ?_ | refine W.region (id := 2) ?_ | refine W.region (id := 3) ?_ | refine W.region (id := 4) ?_ | refine W.region (id := 5) ?_ | refine W.region (id := 6) ?_ | refine W.region (id := 7) ?_ | refine W.region (id := 8) ?_ | refine W.region (id := 11) ?_ | apply W.block | apply N.code | apply N.blk | apply Sl.nil | apply W.exit | apply W.ret | apply E.hit | apply E.code | apply E.fin | refine zM ?_ | apply O.i | refine sP ?_ | refine sQ fun _ => ?_ | refine zg fun _ => ?_ | refine sX fun _ => ?_ | (refine rD (id := 10) anyW [6] ?_; refine rP 0 false fun _ => ?_; refine rP 1 false fun _ => ?_; refine rP 2 false fun _ => ?_; refine rO 3 fun _ _ _ _ _ => ?_; refine sX fun _ => ?_; refine rO 4 fun _ _ _ _ _ => ?_; refine k1 false [] c77 ?_; refine k2 hdd ?_; refine rO 5 fun _ _ _ _ _ => ?_; refine sX fun _ => ?_; refine rO 6 fun _ _ _ _ _ => ?_; refine sX fun _ => ?_; refine rP 7 false fun _ => ?_; refine rE ?_) | (refine k1 false [] c32 ?_; refine k2 hrec ?_) | refine zI ?_ ?_ | (intro hb; (try simp [-List.getD_eq_getElem?_getD] at hb); (try (exfalso; omega))))
    · have e2 := e2 (by omega)
      have hdd := double_ok (xs := [(lvA L j).l, (lvB L j).l]) (d := dblH ((lvA L j).l ++ (lvB L j).l)) (by simp) (by simp) (fun k hk => by
        have : k = 0 ∨ k = 1 := by simp at hk; omega
        rcases this with rfl | rfl
        · exact (lvA L j).ok
        · exact (lvB L j).ok) (by simp [dblH])
      have hst := encH_snoc (lvl L) j (by rw [hll]; omega)
      rw [lvl_getD L j (by omega)] at hst
      unfold lvA lvB at hst hdd
      simp only [encL_cons, encL_nil, fB] at hdd
      have hD := And.intro (hlj) (And.intro (e1) (And.intro @encI_append (And.intro (e2) ((hst)))))
      repeat' (first | apply W.seq | apply W.skip | refine W.region (id := 0) ?_ | refine W.region (id := 1) ?_ | refine W.region (id := 2) ?_ | refine W.region (id := 3) ?_ | refine W.region (id := 4) ?_ | refine W.region (id := 5) ?_ | refine W.region (id := 6) ?_ | refine W.region (id := 7) ?_ | refine W.region (id := 8) ?_ | refine W.region (id := 11) ?_ | apply W.block | apply N.code | apply N.blk | apply Sl.nil | apply W.exit | apply W.ret | apply E.hit | apply E.code | apply E.fin | refine zM ?_ | apply O.i | refine sP ?_ | refine sQ fun _ => ?_ | refine zg fun _ => ?_ | refine sX fun _ => ?_ | (refine rD (id := 9) anyW [15, 16] ?_; refine rP 0 false fun _ => ?_; refine rP 1 false fun _ => ?_; refine rP 2 false fun _ => ?_; refine rP 3 true fun _ => ?_; refine rP 4 false fun _ => ?_; refine rP 5 false fun _ => ?_; refine rP 6 false fun _ => ?_; refine rP 7 false fun _ => ?_; refine rP 8 false fun _ => ?_; refine rP 9 false fun _ => ?_; refine rP 10 false fun _ => ?_; refine rP 11 false fun _ => ?_; refine rP 12 true fun _ => ?_; (focus (refine rA [13, 14] (xO (fun _ _ _ _ _ => ?_) (xO (fun _ _ _ _ _ => ?_) RX.nil)); (focus (refine sX fun _ => ?_; refine rO 14 fun _ _ _ _ _ => ?_; refine sX fun _ => ?_; refine rO 15 fun _ _ _ _ _ => ?_; refine sX fun _ => ?_; refine rO 16 fun _ _ _ _ _ => ?_; refine sX fun _ => ?_; refine rE ?_)); rotate_left; (focus (refine sX fun _ => ?_; refine rO 13 fun _ _ _ _ _ => ?_; refine sX fun _ => ?_; refine rO 15 fun _ _ _ _ _ => ?_; refine sX fun _ => ?_; refine rO 16 fun _ _ _ _ _ => ?_; refine sX fun _ => ?_; refine rE ?_)); rotate_left))) | (refine k1 false [] c32 ?_; refine k2 hrec ?_) | refine zI ?_ ?_ | (intro hb; (try simp [-List.getD_eq_getElem?_getD] at hb); (try (exfalso; omega))))
      all_goals
        repeat' (first | apply W.seq | apply W.skip | apply W.region | apply W.block | apply N.code | apply N.blk | apply Sl.nil | apply W.exit | apply W.ret | apply E.hit | apply E.code | apply E.fin | refine zM ?_ | apply O.i | refine sP ?_ | refine sQ fun _ => ?_ | refine zg fun _ => ?_ | refine sX fun _ => ?_ | (refine rD (id := 9) anyW [15, 16] ?_; refine rP 0 false fun _ => ?_; refine rP 1 false fun _ => ?_; refine rP 2 false fun _ => ?_; refine rP 3 true fun _ => ?_; refine rP 4 false fun _ => ?_; refine rP 5 false fun _ => ?_; refine rP 6 false fun _ => ?_; refine rP 7 false fun _ => ?_; refine rP 8 false fun _ => ?_; refine rP 9 false fun _ => ?_; refine rP 10 false fun _ => ?_; refine rP 11 false fun _ => ?_; refine rP 12 true fun _ => ?_; (focus (refine rA [13, 14] (xO (fun _ _ _ _ _ => ?_) (xO (fun _ _ _ _ _ => ?_) RX.nil)); (focus (refine sX fun _ => ?_; refine rO 14 fun _ _ _ _ _ => ?_; refine sX fun _ => ?_; refine rO 15 fun _ _ _ _ _ => ?_; refine sX fun _ => ?_; refine rO 16 fun _ _ _ _ _ => ?_; refine sX fun _ => ?_; refine rE ?_)); rotate_left; (focus (refine sX fun _ => ?_; refine rO 13 fun _ _ _ _ _ => ?_; refine sX fun _ => ?_; refine rO 15 fun _ _ _ _ _ => ?_; refine sX fun _ => ?_; refine rO 16 fun _ _ _ _ _ => ?_; refine sX fun _ => ?_; refine rE ?_)); rotate_left))) | (refine rD (id := 10) anyW [6] ?_; refine rP 0 false fun _ => ?_; refine rP 1 false fun _ => ?_; refine rP 2 false fun _ => ?_; refine rO 3 fun _ _ _ _ _ => ?_; refine sX fun _ => ?_; refine rO 4 fun _ _ _ _ _ => ?_; refine k1 false [] c77 ?_; refine k2 hdd ?_; refine rO 5 fun _ _ _ _ _ => ?_; refine sX fun _ => ?_; refine rO 6 fun _ _ _ _ _ => ?_; refine sX fun _ => ?_; refine rP 7 false fun _ => ?_; refine rE ?_) | (refine k1 false [] c32 ?_; refine k2 hrec ?_) | refine zI ?_ ?_ | (intro hb; (try simp [-List.getD_eq_getElem?_getD] at hb); (try (exfalso; omega))))
      all_goals (refine nF ?_; refine eR 47 2000000 ?_; exact wt)
    obtain rfl : j = (L.length + 1) / 2 := by omega
    exact rT
theorem imMerkle_ok {ids : List H32} {d : H32} (hl : ids.length < 2 ^ 40 := by exact pm) (h0 : ids.length = 0 ∨ 1000 < ids.length → d = default := by exact pm) (h1 : 1 ≤ ids.length ∧ ids.length ≤ 1000 → ∃ n, Lad n ids d := by exact pm) : TSpec Try.prog 32 [] [.pd (encL hR ids)] false [] (.ag (encA .u8 d.l)) := by
  by_cases hn : 1 ≤ ids.length ∧ ids.length ≤ 1000
  · obtain ⟨n, h⟩ := h1 hn
    exact imMerkle1_ok n hn h
  · have h2 : ids = [] ∨ 1000 < (ids.length : Int) := by
      by_cases e : ids.length = 0
      · exact .inl (List.eq_nil_of_length_eq_zero e)
      · exact .inr (by omega)
    rw [h0 (by omega), show (default : H32).l = List.replicate 32 0 from rfl]
    have hD := dN0
    refine sT 50 [.cell 2 24] Try.func32 fun w0 S0 ρ0 φ0 => ?_
    repeat' (first | apply W.seq | apply W.skip | apply W.region | apply W.block | apply N.code | apply N.blk | apply Sl.nil | apply W.exit | apply W.ret | apply E.hit | apply E.code | apply E.fin | refine zM ?_ | apply O.i | refine sP ?_ | refine sQ fun _ => ?_ | refine zg fun _ => ?_ | refine sX fun _ => ?_ | (refine rD (id := 9) anyW [15, 16] ?_; refine rP 0 false fun _ => ?_; refine rP 1 false fun _ => ?_; refine rP 2 false fun _ => ?_; refine rP 3 true fun _ => ?_; refine rP 4 false fun _ => ?_; refine rP 5 false fun _ => ?_; refine rP 6 false fun _ => ?_; refine rP 7 false fun _ => ?_; refine rP 8 false fun _ => ?_; refine rP 9 false fun _ => ?_; refine rP 10 false fun _ => ?_; refine rP 11 false fun _ => ?_; refine rP 12 true fun _ => ?_; (focus (refine rA [13, 14] (xO (fun _ _ _ _ _ => ?_) (xO (fun _ _ _ _ _ => ?_) RX.nil)); (focus (refine sX fun _ => ?_; refine rO 14 fun _ _ _ _ _ => ?_; refine sX fun _ => ?_; refine rO 15 fun _ _ _ _ _ => ?_; refine sX fun _ => ?_; refine rO 16 fun _ _ _ _ _ => ?_; refine sX fun _ => ?_; refine rE ?_)); rotate_left; (focus (refine sX fun _ => ?_; refine rO 13 fun _ _ _ _ _ => ?_; refine sX fun _ => ?_; refine rO 15 fun _ _ _ _ _ => ?_; refine sX fun _ => ?_; refine rO 16 fun _ _ _ _ _ => ?_; refine sX fun _ => ?_; refine rE ?_)); rotate_left))) | (refine rD (id := 10) anyW [6] ?_; refine rP 0 false fun _ => ?_; refine rP 1 false fun _ => ?_; refine rP 2 false fun _ => ?_; refine rO 3 fun _ _ _ _ _ => ?_; refine sX fun _ => ?_; refine rO 4 fun _ _ _ _ _ => ?_; refine k1 false [] c77 ?_; refine k2 hdd ?_; refine rO 5 fun _ _ _ _ _ => ?_; refine sX fun _ => ?_; refine rO 6 fun _ _ _ _ _ => ?_; refine sX fun _ => ?_; refine rP 7 false fun _ => ?_; refine rE ?_) | (refine k1 false [] c32 ?_; refine k2 hrec ?_) | refine zI ?_ ?_ | (intro hb; (try simp [-List.getD_eq_getElem?_getD] at hb); (try (exfalso; omega))))
    · exact rT
    all_goals
      exfalso
      first | (have := List.length_pos_iff.mpr hb.1; omega) | (rename_i g; have := List.length_pos_iff.mpr g.1; omega)
end Go.Proofs.Ytcmnbefdbckhcaa

