import Derived.Test.YtfmbifnbmlhhjaaG2
import Derived.Test.YtfmbifnbmlhhjaaE1
namespace Go.Proofs.Ytfmbifnbmlhhjaa
open Go Go.Vcg Go.IntWalk
set_option maxRecDepth 100000
set_option maxHeartbeats 20000000
set_option linter.unusedSimpArgs false
set_option linter.unusedVariables false
theorem c5 : CallOk Try.prog 5 := ⟨_, Try.func5, rfl, by kernel_rfl⟩
/-- The bytes of a page, from what all sectors hold. -/
def vCat (xs : List (List Int)) (id : Int) : Nat → List Int
  | 0 => []
  | k + 1 => vCat xs id k ++ xs.getD (4 * id + k).toNat default
theorem vCat_zero (xs : List (List Int)) (id : Int) : vCat xs id 0 = [] := rfl
theorem vCat_len {xs : List (List Int)} (h : ∀ k, (xs.getD k default).length < 2 ^ 40) (id : Int) (k : Nat) : (vCat xs id k).length ≤ k * 2 ^ 40 := by
  induction k with
  | zero => exact Nat.zero_le _
  | succ k ih =>
    have := h (4 * id + k).toNat
    rw [vCat, List.length_append, Nat.add_mul, Nat.one_mul]
    omega
def vwOk (xs : List (List Int)) (id : Int) : Prop := (0 ≤ id ∧ id < (xs.length / 4 : Nat)) ∧ (vCat xs id 4).length = 256 ∧ pgOk id (vCat xs id 4)
theorem viewPage_ok {xs : List (List Int)} {id : Int} {c : Bool} (hn : xs.length < 2 ^ 40) (hall : ∀ k, (xs.getD k default).length < 2 ^ 40) (hin : 0 ≤ id ∧ id < (xs.length / 4 : Nat) → (vCat xs id 4).length < 2 ^ 40 ∧ okBytes (vCat xs id 4)) (hc : c = true ↔ vwOk xs id) :
    TSpec Try.prog 98 [] [.ag [.pd (encL fB xs)], .pl (.int .i64 id)] false [] (.tu [.pl (.int .i64 (if c then pgK (vCat xs id 4) else 0)), .ow 1 (encI .u8 (if c then pgB (vCat xs id 4) else [])), .pl (.bool c)]) := by
  have hq := quo4 (n := xs.length) (by omega)
  by_cases h1 : 0 ≤ id ∧ id < (xs.length / 4 : Nat)
  · obtain ⟨h4, ho⟩ := hin h1
    clear hin
    have hbq : (pgB (vCat xs id 4)).length < 2 ^ 40 := by unfold pgB; rw [List.length_take, List.length_drop]; omega
    have hsp := spDecodePage_ok (id := id) (c := c) h4 ho (hc.trans ⟨fun h => h.2, fun h => ⟨h1, h⟩⟩)
    have hcl := vCat_len hall id
    generalize (if c then pgK (vCat xs id 4) else 0) = kq at *
    obtain ⟨bq, hbd, hbl⟩ : ∃ bq, (if c then pgB (vCat xs id 4) else []) = bq ∧ bq.length < 2 ^ 40 := ⟨_, rfl, by split <;> simp [hbq]⟩
    rw [hbd] at hsp ⊢
    clear hbd hbq hc ho
    obtain ⟨h0, h2⟩ := h1
    have hD := (hq)
    have hD := (hq)
    refine sT 41 [.tmp 4, .tmp 5, .tmp 6] Try.func98 fun w0 S0 ρ0 φ0 => ?_
    repeat' (first | apply W.seq | apply W.skip | apply W.region | apply W.block | apply N.code | apply N.blk | apply Sl.nil | apply W.exit | apply W.ret | apply E.hit | apply E.code | apply E.fin | refine zM ?_ | apply O.i | refine sP ?_ | refine sQ fun _ => ?_ | refine zg fun _ => ?_ | refine sX fun _ => ?_ | (refine k1 false [] c18 ?_; refine k2 hsp ?_) | refine zI ?_ ?_ | (intro hb; (try simp [-List.getD_eq_getElem?_getD] at hb); (try (exfalso; omega))))
    have hD := And.intro (hq) (@vCat_zero)
    refine W.iter (fun k => ⟨41, [(1, .pl (.int .i64 id)), (2, .pt 2 0 0), (7, .sl 20 0 (vCat xs id k).length), (8, .pl (.int .i64 k))], [(2, .c 1 [[.pd (encL fB xs)]]), (20, .c 1 (encI .u8 (vCat xs id k)))], []⟩) (fun k => True) (4) (Weak.to (by first | rfl | (simp only [virtAt_n, virt_n]; rfl)) ?s1 ?b1 (by exact dfe)) ?h1 (fun k hk hH => ?body1)
    (try case' s1 => first | exact to1 | (simp +decide only [go_sem]; (try simp (disch := first | exact ds | fail) only [go_sem, Nat.reduceAdd, Nat.reduceMul, Nat.reduceSub, Int.reduceToNat, Int.reduceNeg, Nat.reduceLeDiff, hD]); (try simp only [SV.pl.injEq, SV.sl.injEq, Value.int.injEq, Bk.c.injEq, encI_inj, true_and]); (try omega))); (try case' b1 => first | exact to1 | (simp +decide only [go_sem]; (try simp (disch := first | exact ds | fail) only [go_sem, Nat.reduceAdd, Nat.reduceMul, Nat.reduceSub, Int.reduceToNat, Int.reduceNeg, Nat.reduceLeDiff, hD]); (try simp only [SV.pl.injEq, SV.sl.injEq, Value.int.injEq, Bk.c.injEq, encI_inj, true_and]); (try omega))); (try case' h1 => first | exact to1 | (simp +decide only [go_sem]; (try simp (disch := first | exact ds | fail) only [go_sem, Nat.reduceAdd, Nat.reduceMul, Nat.reduceSub, Int.reduceToNat, Int.reduceNeg, Nat.reduceLeDiff, hD]); (try simp only [SV.pl.injEq, SV.sl.injEq, Value.int.injEq, Bk.c.injEq, encI_inj, true_and]); (try omega)))
    have hck := hcl k
    have hst : vCat xs id (k + 1) = vCat xs id k ++ xs.getD (4 * id + k).toNat default := rfl
    have hall2 := hall (4 * id + k).toNat
    by_cases hk4 : k < 4
    · have hkt : k * 2 ^ 40 ≤ 4 * 2 ^ 40 := Nat.mul_le_mul_right _ (by omega)
      generalize vCat xs id k = us at *
      clear hcl
      have hD := dN0
      repeat' (first | apply W.seq | apply W.skip | apply W.region | apply W.block | apply N.code | apply N.blk | apply Sl.nil | apply W.exit | apply W.ret | apply E.hit | apply E.code | apply E.fin | refine zM ?_ | apply O.i | refine sP ?_ | refine sQ fun _ => ?_ | refine zg fun _ => ?_ | refine sX fun _ => ?_ | (refine k1 false [] c18 ?_; refine k2 hsp ?_) | refine zI ?_ ?_ | (intro hb; (try simp [-List.getD_eq_getElem?_getD] at hb); (try (exfalso; omega))))
      (refine N.fin ⟨by omega, ?h2, ?w2⟩; case' w2 => (refine eR 34 20 ?_; refine Weak.to (by first | rfl | (simp only [virtAt_n, virt_n]; rfl)) ?s2 ?b2 (by exact dfe)))
      (try case' s2 => first | exact to1 | (simp +decide only [go_sem]; (try simp (disch := first | exact ds | fail) only [go_sem, Nat.reduceAdd, Nat.reduceMul, Nat.reduceSub, Int.reduceToNat, Int.reduceNeg, Nat.reduceLeDiff, hD]); (try simp only [SV.pl.injEq, SV.sl.injEq, Value.int.injEq, Bk.c.injEq, encI_inj, true_and]); (try omega))); (try case' b2 => first | exact to1 | (simp +decide only [go_sem]; (try simp (disch := first | exact ds | fail) only [go_sem, Nat.reduceAdd, Nat.reduceMul, Nat.reduceSub, Int.reduceToNat, Int.reduceNeg, Nat.reduceLeDiff, hD]); (try simp only [SV.pl.injEq, SV.sl.injEq, Value.int.injEq, Bk.c.injEq, encI_inj, true_and]); (try omega))); (try case' h2 => first | exact to1 | (simp +decide only [go_sem]; (try simp (disch := first | exact ds | fail) only [go_sem, Nat.reduceAdd, Nat.reduceMul, Nat.reduceSub, Int.reduceToNat, Int.reduceNeg, Nat.reduceLeDiff, hD]); (try simp only [SV.pl.injEq, SV.sl.injEq, Value.int.injEq, Bk.c.injEq, encI_inj, true_and]); (try omega)))
      · rw [hst]
      · rw [hst, List.length_append]
        exact ⟨rfl, by omega⟩
    obtain rfl : k = 4 := by omega
    repeat' (first | apply W.seq | apply W.skip | apply W.region | apply W.block | apply N.code | apply N.blk | apply Sl.nil | apply W.exit | apply W.ret | apply E.hit | apply E.code | apply E.fin | refine zM ?_ | apply O.i | refine sP ?_ | refine sQ fun _ => ?_ | refine zg fun _ => ?_ | refine sX fun _ => ?_ | (refine k1 false [] c18 ?_; refine k2 hsp ?_) | refine zI ?_ ?_ | (intro hb; (try simp [-List.getD_eq_getElem?_getD] at hb); (try (exfalso; omega))))
    all_goals exact rT
  · obtain rfl : c = false := by cases c with
      | false => rfl
      | true => exact absurd (hc.mp rfl).1 h1
    simp only [Bool.false_eq_true, if_false]
    clear hc hin
    have hD := (hq)
    by_cases h0 : 0 ≤ id
    · have h2 : ¬ id < (xs.length / 4 : Nat) := fun e => h1 ⟨h0, e⟩
      clear h1
      have hD := (hq)
      refine sT 41 [.tmp 4, .tmp 5, .tmp 6] Try.func98 fun w0 S0 ρ0 φ0 => ?_
      repeat' (first | apply W.seq | apply W.skip | apply W.region | apply W.block | apply N.code | apply N.blk | apply Sl.nil | apply W.exit | apply W.ret | apply E.hit | apply E.code | apply E.fin | refine zM ?_ | apply O.i | refine sP ?_ | refine sQ fun _ => ?_ | refine zg fun _ => ?_ | refine sX fun _ => ?_ | (refine k1 false [] c18 ?_; refine k2 hsp ?_) | refine zI ?_ ?_ | (intro hb; (try simp [-List.getD_eq_getElem?_getD] at hb); (try (exfalso; omega))))
      all_goals exact rT
    · clear h1
      have hD := (hq)
      refine sT 41 [.tmp 4, .tmp 5, .tmp 6] Try.func98 fun w0 S0 ρ0 φ0 => ?_
      repeat' (first | apply W.seq | apply W.skip | apply W.region | apply W.block | apply N.code | apply N.blk | apply Sl.nil | apply W.exit | apply W.ret | apply E.hit | apply E.code | apply E.fin | refine zM ?_ | apply O.i | refine sP ?_ | refine sQ fun _ => ?_ | refine zg fun _ => ?_ | refine sX fun _ => ?_ | (refine k1 false [] c18 ?_; refine k2 hsp ?_) | refine zI ?_ ?_ | (intro hb; (try simp [-List.getD_eq_getElem?_getD] at hb); (try (exfalso; omega))))
      all_goals exact rT
/-! ## ReadPage -/
def okDisk (a : DiskA) : Prop := (∀ k, k < a.Safe.length → okBytes (a.Safe.getD k default)) ∧ ∀ k, k < a.Pending.length → okBytes (a.Pending.getD k default).Data
theorem okBytes_nil : okBytes [] := fun _ h => by cases h
theorem secV_ok {a : DiskA} (h : okDisk a) (l : List (Int × Int)) (k : Int) : okBytes (secV a l k) := by
  unfold secV
  split
  · split
    · rename_i i _
      by_cases hi : i.toNat < a.Pending.length
      · exact h.2 _ hi
      · rw [List.getD_eq_getElem?_getD, List.getElem?_eq_none (by omega)]
        exact okBytes_nil
    · exact h.1 _ (by omega)
  · exact okBytes_nil
theorem pgNow_ok {a : DiskA} (h : okDisk a) (id : Int) : okBytes (pgNow a id) := by
  have key : ∀ k, okBytes (pgCat a (lastN a.Pending a.Pending.length) id k) := by
    intro k
    induction k with
    | zero => exact okBytes_nil
    | succ k ih =>
      intro x hx
      rcases List.mem_append.mp hx with hx | hx
      · exact ih x hx
      · exact secV_ok h _ _ x hx
  exact key 4
/-- Both ways to read a page. -/
theorem pg_eq {a : DiskA} (hd : diskOk a) (id : Int) (h1 : 0 ≤ id ∧ id < (a.Safe.length / 4 : Nat)) : vCat (nowN a a.Pending.length) id 4 = pgNow a id := by
  have key : ∀ k : Nat, k ≤ 4 → vCat (nowN a a.Pending.length) id k = pgCat a (lastN a.Pending a.Pending.length) id k := by
    intro k
    induction k with
    | zero => intro _; rfl
    | succ k ih =>
      intro hk
      have := secV_now hd (4 * id + k).toNat (by omega)
      rw [show (((4 * id + k).toNat : Nat) : Int) = 4 * id + k by omega] at this
      unfold nowV at this
      rw [vCat, pgCat, ih (by omega), this]
  exact key 4 (Nat.le_refl _)
theorem now_all {a : DiskA} (h : totDisk a < 2 ^ 40) (hd : diskOk a) (k : Nat) : ((nowN a a.Pending.length).getD k default).length < 2 ^ 40 := by
  by_cases hk : k < a.Safe.length
  · rw [← secV_now hd k hk]
    have := secV_len a (lastN a.Pending a.Pending.length) k
    unfold nowV
    omega
  · rw [List.getD_eq_getElem?_getD, List.getElem?_eq_none (by rw [nowN_len]; omega)]
    exact Nat.lt_of_le_of_lt (Nat.zero_le _) h
theorem fB_frz (xs : List (List Int)) : frzRows (encL fB xs) = encL fB xs := encL_frz _ (fun x => by simp [fB, frzL, SV.frz, encI_frz]) xs
attribute [go_sem] fB_frz
theorem spReadPage_ok {a : DiskA} {id : Int} {db c : Bool} (h : totDisk a < 2 ^ 40) (hP : db = true ↔ diskOk a) (ho : okDisk a) (hl : ∀ k i, agetI (lastN a.Pending a.Pending.length) k = some i → 0 ≤ i ∧ i < a.Pending.length) (hc : c = true ↔ diskOk a ∧ rdOk a id (pgNow a id)) :
    TSpec Try.prog 25 [] [.ag (fDisk a), .pl (.int .i64 id)] false [] (.tu [.pl (.int .i64 (if c then pgK (pgNow a id) else 0)), .ow 1 (encI .u8 (if c then pgB (pgNow a id) else [])), .pl (.bool c)]) := by
  have htot : totDisk a = (a.Safe.length + sumN List.length a.Safe) + (a.Pending.length + sumN totPend a.Pending) := rfl
  cases db with
  | false =>
    obtain rfl : c = false := by cases c with
      | false => rfl
      | true => exact absurd (hP.mpr (hc.mp rfl).1) (by decide)
    simp only [fDisk, Bool.false_eq_true, if_false]
    have hD := dN0
    refine sT 21 [.tmp 4, .tmp 5, .tmp 6] Try.func25 fun w0 S0 ρ0 φ0 => ?_
    repeat' (first | apply W.seq | apply W.skip | apply W.region | apply W.block | apply N.code | apply N.blk | apply Sl.nil | apply W.exit | apply W.ret | apply E.hit | apply E.code | apply E.fin | refine zM ?_ | apply O.i | refine sP ?_ | refine sQ fun _ => ?_ | refine sX fun _ => ?_ | (refine k1 false [] c67 ?_; refine k2 (spDiskOk_ok h hP) ?_) | (refine k1 true [] c97 ?_; refine k2 (l1Now_ok h hd) ?_) | (refine k1 false [] c98 ?_; refine k2 hvp ?_) | refine zI ?_ ?_ | (intro hb; (try simp [-List.getD_eq_getElem?_getD] at hb); (try (exfalso; omega))))
    exact rT
  | true =>
    have hd := hP.mp rfl
    have hnl := nowN_len a a.Pending.length
    have hna := now_all h hd
    have hvp := viewPage_ok (xs := nowN a a.Pending.length) (id := id) (c := c) (by omega) hna (fun h1 => by
      rw [hnl] at h1
      rw [pg_eq hd id h1, pgNow_256 hd hl id h1]
      exact ⟨by omega, pgNow_ok ho id⟩) (by
      rw [hc]
      unfold vwOk rdOk
      rw [hnl]
      refine ⟨fun h => ⟨h.2.1, ?_⟩, fun h => ⟨hd, h.1, ?_⟩⟩
      · rw [pg_eq hd id h.2.1]
        exact h.2.2
      · rw [← pg_eq hd id h.1]
        exact h.2)
    have hq1 : (if c then pgK (vCat (nowN a a.Pending.length) id 4) else 0) = (if c then pgK (pgNow a id) else 0) := by
      split
      · rename_i e
        rw [pg_eq hd id (hc.mp e).2.1]
      · rfl
    have hq2 : (if c then pgB (vCat (nowN a a.Pending.length) id 4) else []) = (if c then pgB (pgNow a id) else []) := by
      split
      · rename_i e
        rw [pg_eq hd id (hc.mp e).2.1]
      · rfl
    have hbl : (if c then pgB (pgNow a id) else []).length < 2 ^ 40 := by
      split
      · rename_i e
        have := pgNow_256 hd hl id (hc.mp e).2.1
        unfold pgB
        rw [List.length_take, List.length_drop]
        omega
      · exact Nat.lt_of_le_of_lt (Nat.zero_le _) h
    rw [hq1, hq2] at hvp
    clear hq1 hq2 hc
    generalize (if c then pgK (pgNow a id) else 0) = kq at *
    generalize (if c then pgB (pgNow a id) else []) = bq at *
    simp only [fDisk]
    have hD := dN0
    refine sT 21 [.tmp 4, .tmp 5, .tmp 6] Try.func25 fun w0 S0 ρ0 φ0 => ?_
    repeat' (first | apply W.seq | apply W.skip | apply W.region | apply W.block | apply N.code | apply N.blk | apply Sl.nil | apply W.exit | apply W.ret | apply E.hit | apply E.code | apply E.fin | refine zM ?_ | apply O.i | refine sP ?_ | refine sQ fun _ => ?_ | refine sX fun _ => ?_ | (refine k1 false [] c67 ?_; refine k2 (spDiskOk_ok h hP) ?_) | (refine k1 true [] c97 ?_; refine k2 (l1Now_ok h hd) ?_) | (refine k1 false [] c98 ?_; refine k2 hvp ?_) | refine zI ?_ ?_ | (intro hb; (try simp [-List.getD_eq_getElem?_getD] at hb); (try (exfalso; omega))))
    exact rT
end Go.Proofs.Ytfmbifnbmlhhjaa

