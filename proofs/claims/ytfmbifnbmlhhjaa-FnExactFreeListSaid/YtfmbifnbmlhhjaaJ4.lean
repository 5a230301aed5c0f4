import Derived.Test.YtfmbifnbmlhhjaaJ3
import Derived.Test.YtfmbifnbmlhhjaaUe
import Derived.Test.YtfmbifnbmlhhjaaUc
namespace Go.Proofs.Ytfmbifnbmlhhjaa
open Go Go.Vcg Go.IntWalk
set_option maxRecDepth 100000
set_option maxHeartbeats 20000000
set_option linter.unusedSimpArgs false
set_option linter.unusedVariables false
theorem c42 : CallOk Try.prog 42 := ⟨_, Try.func42, rfl, by kernel_rfl⟩
theorem c118 : CallOk Try.prog 118 := ⟨_, Try.func118, rfl, by kernel_rfl⟩
/-- What reading a page gives, in the reference. -/
theorem vwPage_ex {a : DiskA} {id : Int} (h : totDisk a < 2 ^ 40) (hd : diskOk a) (ho : okDisk a) :
    ∃ kq bq c, TSpec Try.prog 98 [] [.ag [.pd (encL fB (nowN a a.Pending.length))], .pl (.int .i64 id)] false [] (.tu [.pl (.int .i64 kq), .ow 1 (encI .u8 bq), .pl (.bool c)]) ∧
      ((rdOk a id (pgNow a id) ∧ c = true ∧ kq = pgK (pgNow a id) ∧ bq = pgB (pgNow a id)) ∨ (¬ rdOk a id (pgNow a id) ∧ c = false ∧ bq = [])) := by
  have htot : totDisk a = (a.Safe.length + sumN List.length a.Safe) + (a.Pending.length + sumN totPend a.Pending) := rfl
  have hl := lastOk_all a
  have hnl := nowN_len a a.Pending.length
  have hna := now_all h hd
  have hin : 0 ≤ id ∧ id < ((nowN a a.Pending.length).length / 4 : Nat) → (vCat (nowN a a.Pending.length) id 4).length < 2 ^ 40 ∧ okBytes (vCat (nowN a a.Pending.length) id 4) := fun h1 => by
    rw [hnl] at h1
    rw [pg_eq hd id h1, pgNow_256 hd hl id h1]
    exact ⟨by omega, pgNow_ok ho id⟩
  by_cases h1 : 0 ≤ id ∧ id < (a.Safe.length / 4 : Nat)
  · have hpe := pg_eq hd id h1
    by_cases h2 : rdOk a id (pgNow a id)
    · have hvp := viewPage_ok (id := id) (c := true) (by omega) hna hin ⟨fun _ => ⟨by rw [hnl]; exact h1, by rw [hpe]; exact h2.2⟩, fun _ => rfl⟩
      simp only [if_true, hpe] at hvp
      exact ⟨_, _, _, hvp, .inl ⟨h2, rfl, rfl, rfl⟩⟩
    · have hvp := viewPage_ok (id := id) (c := false) (by omega) hna hin ⟨fun e => (Bool.noConfusion e), fun e => absurd ⟨h1, by rw [← hpe]; exact e.2⟩ h2⟩
      simp only [Bool.false_eq_true, if_false] at hvp
      exact ⟨_, _, _, hvp, .inr ⟨h2, rfl, rfl⟩⟩
  · have hvp := viewPage_ok (id := id) (c := false) (by omega) hna hin ⟨fun e => (Bool.noConfusion e), fun e => absurd (by rw [← hnl]; exact e.1) h1⟩
    simp only [Bool.false_eq_true, if_false] at hvp
    exact ⟨_, _, _, hvp, .inr ⟨fun e => h1 e.1, rfl, rfl⟩⟩
/-- Which of n numbers are in a list. -/
def marksB (os : List Int) (n : Nat) : List Bool := (List.range n).map fun (i : Nat) => decide ((i : Int) ∈ os)
theorem marksB_len (os : List Int) (n : Nat) : (marksB os n).length = n := by simp [marksB]
theorem marksB_nil (n : Nat) : List.replicate n false = marksB [] n := by
  unfold marksB
  apply List.ext_getElem <;> simp
theorem marksB_get (os : List Int) (n : Nat) (i : Int) (h : 0 ≤ i ∧ i < n) : (marksB os n).getD i.toNat false = decide (i ∈ os) := by
  unfold marksB
  rw [List.getD_eq_getElem?_getD, List.getElem?_map, List.getElem?_range (by omega)]
  simp only [Option.map_some, Option.getD_some]
  rw [show ((i.toNat : Nat) : Int) = i by omega]
theorem marksB_set (os : List Int) (n : Nat) (i : Int) (h : 0 ≤ i ∧ i < n) : (marksB os n).set i.toNat true = marksB (os ++ [i]) n := by
  apply List.ext_getElem
  · simp [marksB]
  · intro j h1 h2
    rw [List.getElem_set]
    unfold marksB
    simp only [List.getElem_map, List.getElem_range, List.mem_append, List.mem_singleton]
    by_cases e : i.toNat = j
    · rw [if_pos e, decide_eq_true (.inr (by omega))]
    · rw [if_neg e]
      congr 1
      exact propext ⟨fun q => .inl q, fun q => q.elim id fun q => absurd q (by omega)⟩
theorem l2Pages_ok {a : DiskA} (h : totDisk a < 2 ^ 40 := by exact pm) : TSpec Try.prog 118 [] [.ag (fDisk a)] false [] (.pl (.int .i64 (a.Safe.length / 4 : Nat))) := by
  simp only [fDisk]
  have htot : totDisk a = (a.Safe.length + sumN List.length a.Safe) + (a.Pending.length + sumN totPend a.Pending) := rfl
  have hq := quo4 (n := a.Safe.length) (by omega)
  have hD := (hq)
  have hD := (hq)
  refine sT 7 [.tmp 2] Try.func118 fun w0 S0 ρ0 φ0 => ?_
  repeat' (first | apply W.seq | apply W.skip | apply W.region | apply W.block | apply N.code | apply N.blk | apply Sl.nil | apply W.exit | apply W.ret | apply E.hit | apply E.code | apply E.fin | refine zM ?_ | apply O.i | refine sP ?_ | refine sQ fun _ => ?_ | refine sX fun _ => ?_ | refine zI ?_ ?_ | (intro hb; (try simp [-List.getD_eq_getElem?_getD] at hb); (try (exfalso; omega))))
  exact rT
theorem spFreeList_ok {a : DiskA} {s : SuperA} {db : Bool} (h : totDisk a < 2 ^ 40) (hP : db = true ↔ diskOk a) (ho : okDisk a) :
    TSpec Try.prog 42 [] [.ag (fDisk a), .ag (fSuper s)] false [] (.tu [.ow 1 (encI .i64 (if db then (flR a s.Free).1 else [])), .ow 1 (encI .i64 (if db then (flR a s.Free).2.1 else [])), .pl (.bool (if db then (flR a s.Free).2.2 else false))]) := by
  have htot : totDisk a = (a.Safe.length + sumN List.length a.Safe) + (a.Pending.length + sumN totPend a.Pending) := rfl
  cases db with
  | false =>
    simp only [fDisk, fSuper, Bool.false_eq_true, if_false]
    have hD := dN0
    refine sT 106 [.tmp 4, .tmp 5, .tmp 6] Try.func42 fun w0 S0 ρ0 φ0 => ?_
    repeat' (first | apply W.seq | apply W.skip | refine W.region (id := 0) ?_ | refine W.region (id := 1) ?_ | refine W.region (id := 2) ?_ | refine W.region (id := 3) ?_ | refine W.region (id := 4) ?_ | refine W.region (id := 5) ?_ | refine W.region (id := 6) ?_ | refine W.region (id := 7) ?_ | refine W.region (id := 8) ?_ | refine W.region (id := 10) ?_ | refine W.region (id := 11) ?_ | refine W.region (id := 12) ?_ | refine W.region (id := 13) ?_ | refine W.region (id := 14) ?_ | refine W.region (id := 15) ?_ | refine W.region (id := 16) ?_ | refine W.region (id := 18) ?_ | refine W.region (id := 19) ?_ | refine W.region (id := 20) ?_ | refine W.region (id := 21) ?_ | refine W.region (id := 22) ?_ | refine W.region (id := 17) ?_ | refine W.region (id := 23) ?_ | refine W.region (id := 24) ?_ | apply W.block | apply N.code | apply N.blk | apply Sl.nil | apply W.exit | apply W.ret | apply E.hit | apply E.code | apply E.fin | refine zM ?_ | apply O.i | refine sP ?_ | refine sQ fun _ => ?_ | refine zF ?_ | refine zD ?_ | refine zg fun _ => ?_ | refine sX fun _ => ?_ | refine sPf ?_ | refine sPt ?_ | (refine k1 false [] c67 ?_; refine k2 (spDiskOk_ok h hP) ?_) | (refine k1 true [] c97 ?_; refine k2 (l1Now_ok h hd) ?_) | (refine k1 false [] c118 ?_; refine k2 (l2Pages_ok (a := a) h) ?_) | (refine k1 false [] c98 ?_; refine k2 hvp ?_) | (refine k1 false [] c82 ?_; refine k2 l2Low_ok ?_) | refine zI ?_ ?_ | (intro hb; (try simp [-List.getD_eq_getElem?_getD] at hb); (try (exfalso; omega))))
    exact rT
  | true =>
    have hd := hP.mp rfl
    obtain ⟨r1, r2, r3, hr⟩ : ∃ r1 r2 r3, flR a s.Free = (r1, r2, r3) := ⟨_, _, _, rfl⟩
    simp only [fDisk, fSuper, if_true, hr]
    obtain ⟨np, hnp⟩ : ∃ np, np = a.Safe.length / 4 := ⟨_, rfl⟩
    have hnb : np < 2 ^ 40 := by omega
    have hmz := marksB_nil np
    have hD := (hnp.symm)
    have hD := (hnp.symm)
    refine sT 106 [.tmp 4, .tmp 5, .tmp 6] Try.func42 fun w0 S0 ρ0 φ0 => ?_
    repeat' (first | apply W.seq | apply W.skip | apply W.region | apply W.block | apply N.code | apply N.blk | apply Sl.nil | apply W.exit | apply W.ret | apply E.hit | apply E.code | apply E.fin | refine zM ?_ | apply O.i | refine sP ?_ | refine sQ fun _ => ?_ | refine zF ?_ | refine zD ?_ | refine zg fun _ => ?_ | refine sX fun _ => ?_ | refine sPf ?_ | refine sPt ?_ | (refine k1 false [] c67 ?_; refine k2 (spDiskOk_ok h hP) ?_) | (refine k1 true [] c97 ?_; refine k2 (l1Now_ok h hd) ?_) | (refine k1 false [] c118 ?_; refine k2 (l2Pages_ok (a := a) h) ?_) | (refine k1 false [] c98 ?_; refine k2 hvp ?_) | (refine k1 false [] c82 ?_; refine k2 l2Low_ok ?_) | refine zI ?_ ?_ | (intro hb; (try simp [-List.getD_eq_getElem?_getD] at hb); (try (exfalso; omega))))
    have hD := And.intro (hnp.symm) (And.intro (hmz) (And.intro @flF_zero (And.intro @flO_zero (@lastV_nil))))
    refine W.iter (fun k => ⟨106, [(4, .nl), (5, .nl), (7, .sl 18 0 (flF a s.Free k).length), (8, .sl 19 0 (flO a s.Free k).length), (9, .pt 9 0 0), (10, .sl 30 0 np), (11, .pl (.int .i64 (lastV (flF a s.Free k)))), (12, .pl (.int .i64 (flI a s.Free k)))], [(9, .c 1 [[.sl (nmR 26) 0 (nowN a a.Pending.length).length]]), (nmR 26, .c 1 (encL fB (nowN a a.Pending.length))), (18, .c 1 (encI .i64 (flF a s.Free k))), (19, .c 1 (encI .i64 (flO a s.Free k))), (30, .c 1 (encBo (marksB (flO a s.Free k) np)))], []⟩) (fun k => ∀ j, j < k → flG a s.Free j) (np) (Weak.to (by first | rfl | (simp only [virtAt_n, virt_n]; rfl)) ?s1 ?b1 (by exact dfe)) ?h1 (fun k hk hH => ?body1)
    (try case' s1 => first | exact to1 | (simp +decide only [go_sem]; (try simp (disch := first | exact ds | fail) only [go_sem, Nat.reduceAdd, Nat.reduceMul, Nat.reduceSub, Int.reduceToNat, Int.reduceNeg, Nat.reduceLeDiff, hD]); (try simp only [SV.pl.injEq, SV.sl.injEq, Value.int.injEq, Bk.c.injEq, encI_inj, true_and]); (try omega))); (try case' b1 => first | exact to1 | (simp +decide only [go_sem]; (try simp (disch := first | exact ds | fail) only [go_sem, Nat.reduceAdd, Nat.reduceMul, Nat.reduceSub, Int.reduceToNat, Int.reduceNeg, Nat.reduceLeDiff, hD]); (try simp only [SV.pl.injEq, SV.sl.injEq, Value.int.injEq, Bk.c.injEq, encI_inj, true_and]); (try omega))); (try case' h1 => first | exact to1 | (simp +decide only [go_sem]; (try simp (disch := first | exact ds | fail) only [go_sem, Nat.reduceAdd, Nat.reduceMul, Nat.reduceSub, Int.reduceToNat, Int.reduceNeg, Nat.reduceLeDiff, hD]); (try simp only [SV.pl.injEq, SV.sl.injEq, Value.int.injEq, Bk.c.injEq, encI_inj, true_and]); (try omega)))
    · rfl
    have hFl := flF_len hH
    have hOl := flO_len a s.Free k
    have hml := marksB_len (flO a s.Free k) np
    have hI1 : flI a s.Free (k + 1) = leN ((flB a (flI a s.Free k)).take 4) := rfl
    have hF1 : flF a s.Free (k + 1) = flF a s.Free k ++ chks (flB a (flI a s.Free k)) (cnt (flB a (flI a s.Free k))) := rfl
    have hO1 := flO_succ a s.Free k
    by_cases h0 : flI a s.Free k = 0
    · have hR := flR_end ⟨hH, h0⟩
      rw [hr] at hR
      obtain ⟨rfl, hR2⟩ := Prod.mk.inj hR
      obtain ⟨rfl, rfl⟩ := Prod.mk.inj hR2
      clear hI1 hF1 hO1 hR
      generalize flF a s.Free k = fs at *
      generalize flO a s.Free k = os at *
      have hD := (h0)
      repeat' (first | apply W.seq | apply W.skip | apply W.region | apply W.block | apply N.code | apply N.blk | apply Sl.nil | apply W.exit | apply W.ret | apply E.hit | apply E.code | apply E.fin | refine zM ?_ | apply O.i | refine sP ?_ | refine sQ fun _ => ?_ | refine zF ?_ | refine zD ?_ | refine zg fun _ => ?_ | refine sX fun _ => ?_ | refine sPf ?_ | refine sPt ?_ | (refine k1 false [] c67 ?_; refine k2 (spDiskOk_ok h hP) ?_) | (refine k1 true [] c97 ?_; refine k2 (l1Now_ok h hd) ?_) | (refine k1 false [] c118 ?_; refine k2 (l2Pages_ok (a := a) h) ?_) | (refine k1 false [] c98 ?_; refine k2 hvp ?_) | (refine k1 false [] c82 ?_; refine k2 l2Low_ok ?_) | refine zI ?_ ?_ | (intro hb; (try simp [-List.getD_eq_getElem?_getD] at hb); (try (exfalso; omega))))
      all_goals exact rT
    have hbad : ¬ flG a s.Free k → r1 = [] ∧ r2 = [] ∧ r3 = false := fun g => by
      have hR := flR_bad hH h0 g
      rw [hr] at hR
      obtain ⟨e1, hR2⟩ := Prod.mk.inj hR
      exact ⟨e1, Prod.mk.inj hR2⟩
    have hG : flG a s.Free k ↔ flI a s.Free k ≠ 0 ∧ flP a s.Free k ∧ ∀ j, j < cnt (flB a (flI a s.Free k)) → flN a s.Free k j := Iff.rfl
    unfold flP flN at hG
    have hnx : flG a s.Free k → k < np ∧ ∀ j, j < k + 1 → flG a s.Free j := fun g => by
      have hn : ∀ j, j < k + 1 → flG a s.Free j := fun j hj => by
        rcases Nat.lt_succ_iff_lt_or_eq.mp hj with e | e
        · exact hH j e
        · exact e ▸ g
      exact ⟨by have := fl_few hn; omega, hn⟩
    obtain ⟨kq, bq, c, hvp, ⟨h1, rfl, hkq, hbq⟩ | ⟨h1, rfl, rfl⟩⟩ := vwPage_ex (id := flI a s.Free k) h hd ho
    · have hbo := pgB_ok (pgNow_ok ho (flI a s.Free k))
      have hbl := pgB_len h1.2.1
      have hidn := h1.1
      simp only [h1, true_and, ne_eq, h0, not_false_iff] at hG
      clear h1
      simp only [flB, ← hkq, ← hbq] at *
      clear hkq hbq
      have hmg := marksB_get (flO a s.Free k) np (flI a s.Free k) (by omega)
      have hms := marksB_set (flO a s.Free k) np (flI a s.Free k) (by omega)
      generalize flG a s.Free k = gd at *
      generalize flI a s.Free k = id at *
      generalize flF a s.Free k = fs at *
      generalize flO a s.Free k = os at *
      obtain ⟨idn, rfl⟩ : ∃ n : Nat, id = n := ⟨id.toNat, by omega⟩
      rw [Int.toNat_natCast] at hmg hms
      clear hH
      by_cases g1 : (idn : Int) ∈ os
      · obtain ⟨rfl, rfl, rfl⟩ := hbad fun g => (hG.mp g).1.1 g1
        have q1 : (marksB os np).getD idn false = true := by rw [hmg]; exact decide_eq_true g1
        by_cases g2 : kq = 4
        · have q2 : (kq != 4) = false := by simp [g2]
          have hD := And.intro (q1) ((q2))
          repeat' (first | apply W.seq | apply W.skip | apply W.region | apply W.block | apply N.code | apply N.blk | apply Sl.nil | apply W.exit | apply W.ret | apply E.hit | apply E.code | apply E.fin | refine zM ?_ | apply O.i | refine sP ?_ | refine sQ fun _ => ?_ | refine zF ?_ | refine zD ?_ | refine zg fun _ => ?_ | refine sX fun _ => ?_ | refine sPf ?_ | refine sPt ?_ | (refine k1 false [] c67 ?_; refine k2 (spDiskOk_ok h hP) ?_) | (refine k1 true [] c97 ?_; refine k2 (l1Now_ok h hd) ?_) | (refine k1 false [] c118 ?_; refine k2 (l2Pages_ok (a := a) h) ?_) | (refine k1 false [] c98 ?_; refine k2 hvp ?_) | (refine k1 false [] c82 ?_; refine k2 l2Low_ok ?_) | refine zI ?_ ?_ | (intro hb; (try simp [-List.getD_eq_getElem?_getD] at hb); (try (exfalso; omega))))
          all_goals exact rT
        · have q2 : (kq != 4) = true := by simp [g2]
          have hD := And.intro (q1) ((q2))
          repeat' (first | apply W.seq | apply W.skip | apply W.region | apply W.block | apply N.code | apply N.blk | apply Sl.nil | apply W.exit | apply W.ret | apply E.hit | apply E.code | apply E.fin | refine zM ?_ | apply O.i | refine sP ?_ | refine sQ fun _ => ?_ | refine zF ?_ | refine zD ?_ | refine zg fun _ => ?_ | refine sX fun _ => ?_ | refine sPf ?_ | refine sPt ?_ | (refine k1 false [] c67 ?_; refine k2 (spDiskOk_ok h hP) ?_) | (refine k1 true [] c97 ?_; refine k2 (l1Now_ok h hd) ?_) | (refine k1 false [] c118 ?_; refine k2 (l2Pages_ok (a := a) h) ?_) | (refine k1 false [] c98 ?_; refine k2 hvp ?_) | (refine k1 false [] c82 ?_; refine k2 l2Low_ok ?_) | refine zI ?_ ?_ | (intro hb; (try simp [-List.getD_eq_getElem?_getD] at hb); (try (exfalso; omega))))
          all_goals exact rT
      have q1 : (marksB os np).getD idn false = false := by rw [hmg]; exact decide_eq_false g1
      by_cases g2 : kq = 4
      · have q2 : (kq != 4) = false := by simp [g2]
        by_cases g3 : 4 ≤ bq.length
        · by_cases g4 : bq.length % 4 = 0
          · have hm : ((bq.length : Int).tmod 4) = 0 := by rw [mod4, g4]; rfl
            have hgd : gd ↔ ∀ j, j < cnt bq → fits (fs ++ chks bq j) (chk bq j) := by
              rw [hG]
              exact ⟨fun g => g.2, fun g => ⟨⟨g1, g2, g3, g4⟩, g⟩⟩
            have hcn := cnt_iff g3 g4
            clear hG
            have hol : (os ++ [(idn : Int)]).length = os.length + 1 := by simp
            have hmm : (marksB (os ++ [(idn : Int)]) np).length = np := marksB_len _ _
            have hD := And.intro (q1) (And.intro (q2) (And.intro (hm) ((hms))))
            repeat' (first | apply W.seq | apply W.skip | apply W.region | apply W.block | apply N.code | apply N.blk | apply Sl.nil | apply W.exit | apply W.ret | apply E.hit | apply E.code | apply E.fin | refine zM ?_ | apply O.i | refine sP ?_ | refine sQ fun _ => ?_ | refine zF ?_ | refine zD ?_ | refine zg fun _ => ?_ | refine sX fun _ => ?_ | refine sPf ?_ | refine sPt ?_ | (refine k1 false [] c67 ?_; refine k2 (spDiskOk_ok h hP) ?_) | (refine k1 true [] c97 ?_; refine k2 (l1Now_ok h hd) ?_) | (refine k1 false [] c118 ?_; refine k2 (l2Pages_ok (a := a) h) ?_) | (refine k1 false [] c98 ?_; refine k2 hvp ?_) | (refine k1 false [] c82 ?_; refine k2 l2Low_ok ?_) | refine zI ?_ ?_ | (intro hb; (try simp [-List.getD_eq_getElem?_getD] at hb); (try (exfalso; omega))))
            have hD := And.intro (q1) (And.intro (q2) (And.intro (hm) (And.intro (hms) (And.intro (hol) (And.intro @chks_zero (@lAppNil))))))
            refine W.iter (fun j => ⟨106, [(4, .nl), (5, .nl), (7, .sl 18 0 (fs ++ chks bq j).length), (8, .sl 73 0 (os ++ [(idn : Int)]).length), (9, .pt 9 0 0), (10, .sl 30 0 np), (11, .pl (.int .i64 (lastV (fs ++ chks bq j)))), (14, .sl (nmR 38 + 100) 0 bq.length), (16, .pl (.int .i64 (4 + 4 * j : Nat)))], [(9, .c 1 [[.sl (nmR 26) 0 (nowN a a.Pending.length).length]]), (nmR 26, .c 1 (encL fB (nowN a a.Pending.length))), (18, .c 1 (encI .i64 (fs ++ chks bq j))), (73, .c 1 (encI .i64 (os ++ [(idn : Int)]))), (30, .c 1 (encBo (marksB (os ++ [(idn : Int)]) np))), (nmR 38 + 100, .c 1 (encI .u8 bq))], []⟩) (fun j => ∀ i, i < j → fits (fs ++ chks bq i) (chk bq i)) ((cnt bq)) (Weak.to (by first | rfl | (simp only [virtAt_n, virt_n]; rfl)) ?s2 ?b2 (by exact dfe)) ?h2 (fun j hj Hj => ?body2)
            (try case' s2 => first | exact to1 | (simp +decide only [go_sem]; (try simp (disch := first | exact ds | fail) only [go_sem, Nat.reduceAdd, Nat.reduceMul, Nat.reduceSub, Int.reduceToNat, Int.reduceNeg, Nat.reduceLeDiff, hD]); (try simp only [SV.pl.injEq, SV.sl.injEq, Value.int.injEq, Bk.c.injEq, encI_inj, true_and]); (try omega))); (try case' b2 => first | exact to1 | (simp +decide only [go_sem]; (try simp (disch := first | exact ds | fail) only [go_sem, Nat.reduceAdd, Nat.reduceMul, Nat.reduceSub, Int.reduceToNat, Int.reduceNeg, Nat.reduceLeDiff, hD]); (try simp only [SV.pl.injEq, SV.sl.injEq, Value.int.injEq, Bk.c.injEq, encI_inj, true_and]); (try omega))); (try case' h2 => first | exact to1 | (simp +decide only [go_sem]; (try simp (disch := first | exact ds | fail) only [go_sem, Nat.reduceAdd, Nat.reduceMul, Nat.reduceSub, Int.reduceToNat, Int.reduceNeg, Nat.reduceLeDiff, hD]); (try simp only [SV.pl.injEq, SV.sl.injEq, Value.int.injEq, Bk.c.injEq, encI_inj, true_and]); (try omega)))
            have hdl : (bq.drop (4 + 4 * j)).length = bq.length - (4 + 4 * j) := List.length_drop
            have hcj := hcn j
            by_cases hj2 : j < cnt bq
            · have hob : okBytes ((bq.drop (4 + 4 * j)).take 4) := okBytes_take (okBytes_drop hbo _) _
              have htk : (((4 + 4 * j : Nat) : Int) + 4).toNat - (4 + 4 * j) = 4 := by omega
              have hnum : (leN ((bq.drop (4 + 4 * j)).take 4) : Int) = chk bq j := rfl
              have hcs : fs ++ chks bq (j + 1) = (fs ++ chks bq j) ++ [chk bq j] := by rw [chks_succ, List.append_assoc]
              have hfj : fits (fs ++ chks bq j) (chk bq j) → ∀ i, i < j + 1 → fits (fs ++ chks bq i) (chk bq i) := fun q i hi => by
                rcases Nat.lt_succ_iff_lt_or_eq.mp hi with e | e
                · exact Hj i e
                · exact e ▸ q
              have hyl : (fs ++ chks bq j).length = fs.length + j := by rw [List.length_append, chks_len]
              have hl1 := lastV_snoc (fs ++ chks bq j) (chk bq j)
              rw [hcs]
              have hbf : ¬ fits (fs ++ chks bq j) (chk bq j) → r1 = [] ∧ r2 = [] ∧ r3 = false := fun q => hbad fun g => q (hgd.mp g j hj2)
              have hpos : 4 + 4 * j < bq.length ∧ 4 + 4 * j + 4 ≤ bq.length := by omega
              clear hgd hcs hnx hbad hI1 hF1 hO1 hcn Hj hcj hdl
              generalize fs ++ chks bq j = ys at *
              by_cases hz : 0 < ys.length
              · have q5 : decide ((ys.length : Int) > 0) = true := decide_eq_true (by omega)
                by_cases hlt : lastV ys < chk bq j
                · have q6 : decide (chk bq j ≤ lastV ys) = false := decide_eq_false (by omega)
                  have hfo := hfj fun _ => hlt
                  have hD := And.intro (htk) (And.intro (hnum) (And.intro (q5) (And.intro (q6) ((hl1)))))
                  repeat' (first | apply W.seq | apply W.skip | apply W.region | apply W.block | apply N.code | apply N.blk | apply Sl.nil | apply W.exit | apply W.ret | apply E.hit | apply E.code | apply E.fin | refine zM ?_ | apply O.i | refine sP ?_ | refine sQ fun _ => ?_ | refine zF ?_ | refine zD ?_ | refine zg fun _ => ?_ | refine sX fun _ => ?_ | refine sPf ?_ | refine sPt ?_ | (refine k1 false [] c67 ?_; refine k2 (spDiskOk_ok h hP) ?_) | (refine k1 true [] c97 ?_; refine k2 (l1Now_ok h hd) ?_) | (refine k1 false [] c118 ?_; refine k2 (l2Pages_ok (a := a) h) ?_) | (refine k1 false [] c98 ?_; refine k2 hvp ?_) | (refine k1 false [] c82 ?_; refine k2 l2Low_ok ?_) | refine zI ?_ ?_ | (intro hb; (try simp [-List.getD_eq_getElem?_getD] at hb); (try (exfalso; omega))))
                  (refine N.fin ⟨by omega, ?h3, ?w3⟩; case' w3 => (refine eR 100 18 ?_; refine Weak.to (by first | rfl | (simp only [virtAt_n, virt_n]; rfl)) ?s3 ?b3 (by exact dfe)))
                  (try case' s3 => first | exact to1 | (simp +decide only [go_sem]; (try simp (disch := first | exact ds | fail) only [go_sem, Nat.reduceAdd, Nat.reduceMul, Nat.reduceSub, Int.reduceToNat, Int.reduceNeg, Nat.reduceLeDiff, hD]); (try simp only [SV.pl.injEq, SV.sl.injEq, Value.int.injEq, Bk.c.injEq, encI_inj, true_and]); (try omega))); (try case' b3 => first | exact to1 | (simp +decide only [go_sem]; (try simp (disch := first | exact ds | fail) only [go_sem, Nat.reduceAdd, Nat.reduceMul, Nat.reduceSub, Int.reduceToNat, Int.reduceNeg, Nat.reduceLeDiff, hD]); (try simp only [SV.pl.injEq, SV.sl.injEq, Value.int.injEq, Bk.c.injEq, encI_inj, true_and]); (try omega))); (try case' h3 => first | exact to1 | (simp +decide only [go_sem]; (try simp (disch := first | exact ds | fail) only [go_sem, Nat.reduceAdd, Nat.reduceMul, Nat.reduceSub, Int.reduceToNat, Int.reduceNeg, Nat.reduceLeDiff, hD]); (try simp only [SV.pl.injEq, SV.sl.injEq, Value.int.injEq, Bk.c.injEq, encI_inj, true_and]); (try omega)))
                  exact ⟨by simp, by omega⟩
                · obtain ⟨rfl, rfl, rfl⟩ := hbf fun q => hlt (q hz)
                  have q6 : decide (chk bq j ≤ lastV ys) = true := decide_eq_true (by omega)
                  have hD := And.intro (htk) (And.intro (hnum) (And.intro (q5) ((q6))))
                  repeat' (first | apply W.seq | apply W.skip | apply W.region | apply W.block | apply N.code | apply N.blk | apply Sl.nil | apply W.exit | apply W.ret | apply E.hit | apply E.code | apply E.fin | refine zM ?_ | apply O.i | refine sP ?_ | refine sQ fun _ => ?_ | refine zF ?_ | refine zD ?_ | refine zg fun _ => ?_ | refine sX fun _ => ?_ | refine sPf ?_ | refine sPt ?_ | (refine k1 false [] c67 ?_; refine k2 (spDiskOk_ok h hP) ?_) | (refine k1 true [] c97 ?_; refine k2 (l1Now_ok h hd) ?_) | (refine k1 false [] c118 ?_; refine k2 (l2Pages_ok (a := a) h) ?_) | (refine k1 false [] c98 ?_; refine k2 hvp ?_) | (refine k1 false [] c82 ?_; refine k2 l2Low_ok ?_) | refine zI ?_ ?_ | (intro hb; (try simp [-List.getD_eq_getElem?_getD] at hb); (try (exfalso; omega))))
                  all_goals exact rT
              · have q5 : decide ((ys.length : Int) > 0) = false := decide_eq_false (by omega)
                have hfo := hfj fun q => absurd q hz
                have hD := And.intro (htk) (And.intro (hnum) (And.intro (q5) ((hl1))))
                repeat' (first | apply W.seq | apply W.skip | apply W.region | apply W.block | apply N.code | apply N.blk | apply Sl.nil | apply W.exit | apply W.ret | apply E.hit | apply E.code | apply E.fin | refine zM ?_ | apply O.i | refine sP ?_ | refine sQ fun _ => ?_ | refine zF ?_ | refine zD ?_ | refine zg fun _ => ?_ | refine sX fun _ => ?_ | refine sPf ?_ | refine sPt ?_ | (refine k1 false [] c67 ?_; refine k2 (spDiskOk_ok h hP) ?_) | (refine k1 true [] c97 ?_; refine k2 (l1Now_ok h hd) ?_) | (refine k1 false [] c118 ?_; refine k2 (l2Pages_ok (a := a) h) ?_) | (refine k1 false [] c98 ?_; refine k2 hvp ?_) | (refine k1 false [] c82 ?_; refine k2 l2Low_ok ?_) | refine zI ?_ ?_ | (intro hb; (try simp [-List.getD_eq_getElem?_getD] at hb); (try (exfalso; omega))))
                (refine N.fin ⟨by omega, ?h4, ?w4⟩; case' w4 => (refine eR 100 18 ?_; refine Weak.to (by first | rfl | (simp only [virtAt_n, virt_n]; rfl)) ?s4 ?b4 (by exact dfe)))
                (try case' s4 => first | exact to1 | (simp +decide only [go_sem]; (try simp (disch := first | exact ds | fail) only [go_sem, Nat.reduceAdd, Nat.reduceMul, Nat.reduceSub, Int.reduceToNat, Int.reduceNeg, Nat.reduceLeDiff, hD]); (try simp only [SV.pl.injEq, SV.sl.injEq, Value.int.injEq, Bk.c.injEq, encI_inj, true_and]); (try omega))); (try case' b4 => first | exact to1 | (simp +decide only [go_sem]; (try simp (disch := first | exact ds | fail) only [go_sem, Nat.reduceAdd, Nat.reduceMul, Nat.reduceSub, Int.reduceToNat, Int.reduceNeg, Nat.reduceLeDiff, hD]); (try simp only [SV.pl.injEq, SV.sl.injEq, Value.int.injEq, Bk.c.injEq, encI_inj, true_and]); (try omega))); (try case' h4 => first | exact to1 | (simp +decide only [go_sem]; (try simp (disch := first | exact ds | fail) only [go_sem, Nat.reduceAdd, Nat.reduceMul, Nat.reduceSub, Int.reduceToNat, Int.reduceNeg, Nat.reduceLeDiff, hD]); (try simp only [SV.pl.injEq, SV.sl.injEq, Value.int.injEq, Bk.c.injEq, encI_inj, true_and]); (try omega)))
                exact ⟨by simp, by omega⟩
            obtain rfl : j = cnt bq := by omega
            have hge : gd := hgd.mpr fun j hj => Hj j hj
            obtain ⟨hk2, hHn⟩ := hnx hge
            have hnum : (leN (bq.take 4) : Int) = flI a s.Free (k + 1) := hI1.symm
            have hob : okBytes (bq.take 4) := okBytes_take hbo 4
            have hend : ¬ (4 + 4 * cnt bq : Nat) < bq.length := by omega
            rw [← hF1, ← hO1]
            clear hgd hnx hbad hI1 hcn Hj hcj hF1 hO1 hdl
            have hD := (hnum)
            repeat' (first | apply W.seq | apply W.skip | apply W.region | apply W.block | apply N.code | apply N.blk | apply Sl.nil | apply W.exit | apply W.ret | apply E.hit | apply E.code | apply E.fin | refine zM ?_ | apply O.i | refine sP ?_ | refine sQ fun _ => ?_ | refine zF ?_ | refine zD ?_ | refine zg fun _ => ?_ | refine sX fun _ => ?_ | refine sPf ?_ | refine sPt ?_ | (refine k1 false [] c67 ?_; refine k2 (spDiskOk_ok h hP) ?_) | (refine k1 true [] c97 ?_; refine k2 (l1Now_ok h hd) ?_) | (refine k1 false [] c118 ?_; refine k2 (l2Pages_ok (a := a) h) ?_) | (refine k1 false [] c98 ?_; refine k2 hvp ?_) | (refine k1 false [] c82 ?_; refine k2 l2Low_ok ?_) | refine zI ?_ ?_ | (intro hb; (try simp [-List.getD_eq_getElem?_getD] at hb); (try (exfalso; omega))))
            (refine N.fin ⟨by omega, ?h5, ?w5⟩; case' w5 => (refine eR 73 19 ?_; refine Weak.to (by first | rfl | (simp only [virtAt_n, virt_n]; rfl)) ?s5 ?b5 (by exact dfe)))
            (try case' s5 => first | exact to1 | (simp +decide only [go_sem]; (try simp (disch := first | exact ds | fail) only [go_sem, Nat.reduceAdd, Nat.reduceMul, Nat.reduceSub, Int.reduceToNat, Int.reduceNeg, Nat.reduceLeDiff, hD]); (try simp only [SV.pl.injEq, SV.sl.injEq, Value.int.injEq, Bk.c.injEq, encI_inj, true_and]); (try omega))); (try case' b5 => first | exact to1 | (simp +decide only [go_sem]; (try simp (disch := first | exact ds | fail) only [go_sem, Nat.reduceAdd, Nat.reduceMul, Nat.reduceSub, Int.reduceToNat, Int.reduceNeg, Nat.reduceLeDiff, hD]); (try simp only [SV.pl.injEq, SV.sl.injEq, Value.int.injEq, Bk.c.injEq, encI_inj, true_and]); (try omega))); (try case' h5 => first | exact to1 | (simp +decide only [go_sem]; (try simp (disch := first | exact ds | fail) only [go_sem, Nat.reduceAdd, Nat.reduceMul, Nat.reduceSub, Int.reduceToNat, Int.reduceNeg, Nat.reduceLeDiff, hD]); (try simp only [SV.pl.injEq, SV.sl.injEq, Value.int.injEq, Bk.c.injEq, encI_inj, true_and]); (try omega)))
          · obtain ⟨rfl, rfl, rfl⟩ := hbad fun g => g4 (hG.mp g).1.2.2.2
            have hm : (((bq.length : Int).tmod 4) != 0) = true := by rw [mod4]; simp; omega
            have q3 : decide ((bq.length : Int) < 4) = false := decide_eq_false (by omega)
            have hD := And.intro (q1) (And.intro (q2) (And.intro (q3) ((hm))))
            repeat' (first | apply W.seq | apply W.skip | apply W.region | apply W.block | apply N.code | apply N.blk | apply Sl.nil | apply W.exit | apply W.ret | apply E.hit | apply E.code | apply E.fin | refine zM ?_ | apply O.i | refine sP ?_ | refine sQ fun _ => ?_ | refine zF ?_ | refine zD ?_ | refine zg fun _ => ?_ | refine sX fun _ => ?_ | refine sPf ?_ | refine sPt ?_ | (refine k1 false [] c67 ?_; refine k2 (spDiskOk_ok h hP) ?_) | (refine k1 true [] c97 ?_; refine k2 (l1Now_ok h hd) ?_) | (refine k1 false [] c118 ?_; refine k2 (l2Pages_ok (a := a) h) ?_) | (refine k1 false [] c98 ?_; refine k2 hvp ?_) | (refine k1 false [] c82 ?_; refine k2 l2Low_ok ?_) | refine zI ?_ ?_ | (intro hb; (try simp [-List.getD_eq_getElem?_getD] at hb); (try (exfalso; omega))))
            all_goals exact rT
        · obtain ⟨rfl, rfl, rfl⟩ := hbad fun g => g3 (hG.mp g).1.2.2.1
          have q3 : decide ((bq.length : Int) < 4) = true := decide_eq_true (by omega)
          have hD := And.intro (q1) (And.intro (q2) ((q3)))
          repeat' (first | apply W.seq | apply W.skip | apply W.region | apply W.block | apply N.code | apply N.blk | apply Sl.nil | apply W.exit | apply W.ret | apply E.hit | apply E.code | apply E.fin | refine zM ?_ | apply O.i | refine sP ?_ | refine sQ fun _ => ?_ | refine zF ?_ | refine zD ?_ | refine zg fun _ => ?_ | refine sX fun _ => ?_ | refine sPf ?_ | refine sPt ?_ | (refine k1 false [] c67 ?_; refine k2 (spDiskOk_ok h hP) ?_) | (refine k1 true [] c97 ?_; refine k2 (l1Now_ok h hd) ?_) | (refine k1 false [] c118 ?_; refine k2 (l2Pages_ok (a := a) h) ?_) | (refine k1 false [] c98 ?_; refine k2 hvp ?_) | (refine k1 false [] c82 ?_; refine k2 l2Low_ok ?_) | refine zI ?_ ?_ | (intro hb; (try simp [-List.getD_eq_getElem?_getD] at hb); (try (exfalso; omega))))
          all_goals exact rT
      · obtain ⟨rfl, rfl, rfl⟩ := hbad fun g => g2 (hG.mp g).1.2.1
        have q2 : (kq != 4) = true := by simp [g2]
        have hD := And.intro (q1) ((q2))
        repeat' (first | apply W.seq | apply W.skip | apply W.region | apply W.block | apply N.code | apply N.blk | apply Sl.nil | apply W.exit | apply W.ret | apply E.hit | apply E.code | apply E.fin | refine zM ?_ | apply O.i | refine sP ?_ | refine sQ fun _ => ?_ | refine zF ?_ | refine zD ?_ | refine zg fun _ => ?_ | refine sX fun _ => ?_ | refine sPf ?_ | refine sPt ?_ | (refine k1 false [] c67 ?_; refine k2 (spDiskOk_ok h hP) ?_) | (refine k1 true [] c97 ?_; refine k2 (l1Now_ok h hd) ?_) | (refine k1 false [] c118 ?_; refine k2 (l2Pages_ok (a := a) h) ?_) | (refine k1 false [] c98 ?_; refine k2 hvp ?_) | (refine k1 false [] c82 ?_; refine k2 l2Low_ok ?_) | refine zI ?_ ?_ | (intro hb; (try simp [-List.getD_eq_getElem?_getD] at hb); (try (exfalso; omega))))
        all_goals exact rT
    · obtain ⟨rfl, rfl, rfl⟩ := hbad fun g => h1 g.2.1.1
      clear hG hnx hbad hI1 hF1 hO1
      have hD := dN0
      repeat' (first | apply W.seq | apply W.skip | apply W.region | apply W.block | apply N.code | apply N.blk | apply Sl.nil | apply W.exit | apply W.ret | apply E.hit | apply E.code | apply E.fin | refine zM ?_ | apply O.i | refine sP ?_ | refine sQ fun _ => ?_ | refine zF ?_ | refine zD ?_ | refine zg fun _ => ?_ | refine sX fun _ => ?_ | refine sPf ?_ | refine sPt ?_ | (refine k1 false [] c67 ?_; refine k2 (spDiskOk_ok h hP) ?_) | (refine k1 true [] c97 ?_; refine k2 (l1Now_ok h hd) ?_) | (refine k1 false [] c118 ?_; refine k2 (l2Pages_ok (a := a) h) ?_) | (refine k1 false [] c98 ?_; refine k2 hvp ?_) | (refine k1 false [] c82 ?_; refine k2 l2Low_ok ?_) | refine zI ?_ ?_ | (intro hb; (try simp [-List.getD_eq_getElem?_getD] at hb); (try (exfalso; omega))))
      all_goals exact rT
end Go.Proofs.Ytfmbifnbmlhhjaa

