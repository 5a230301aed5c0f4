import Derived.Test.YtfmbifnbmlhhjaaJ1
import Derived.Test.YtfmbifnbmlhhjaaUe
import Derived.Test.YtfmbifnbmlhhjaaUc
namespace Go.Proofs.Ytfmbifnbmlhhjaa
open Go Go.Vcg Go.IntWalk
set_option maxRecDepth 100000
set_option maxHeartbeats 20000000
set_option linter.unusedSimpArgs false
set_option linter.unusedVariables false
theorem c119 : CallOk Try.prog 119 := ⟨_, Try.func119, rfl, by kernel_rfl⟩
theorem c44 : CallOk Try.prog 44 := ⟨_, Try.func44, rfl, by kernel_rfl⟩
theorem lastV_get (l : List Int) (h : 0 < l.length) : l.getD ((l.length : Int) - 1).toNat 0 = lastV l := by
  rw [show ((l.length : Int) - 1).toNat = l.length - 1 by omega]
  rfl
theorem lAppNil (l : List Int) : l ++ [] = l := List.append_nil l
theorem mod4 (n : Nat) : ((n : Int).tmod 4) = ((n % 4 : Nat) : Int) := by
  rw [Int.tmod_eq_emod_of_nonneg (by omega)]
  omega
theorem okBytes_drop {l : List Int} (hl : okBytes l) (k : Nat) : okBytes (l.drop k) := fun x hx => hl x (List.mem_of_mem_drop hx)
theorem cnt_iff {b : List Int} (h4 : 4 ≤ b.length) (hm : b.length % 4 = 0) (j : Nat) : (j < cnt b ↔ 4 + 4 * j < b.length) ∧ (j ≤ cnt b ↔ 4 + 4 * j ≤ b.length) := by
  unfold cnt
  omega
theorem flF_len {a : DiskA} {s : Int} : ∀ {k : Nat}, (∀ j, j < k → flG a s j) → (flF a s k).length ≤ 59 * k
  | 0, _ => Nat.zero_le _
  | k + 1, h => by
    have h1 := flF_len (k := k) fun j hj => h j (by omega)
    have h2 := pgB_len (h k (by omega)).2.1.1.2.1
    rw [flF, List.length_append, chks_len]
    unfold cnt flB
    omega
/-- A device that owns its map. -/
def devO (a : DiskA) : Bk := .c 5 [devR 0 (.pd (encL fB a.Safe)) (.pd (encL fPend a.Pending)) (.mo (mII (lastN a.Pending a.Pending.length)))]
attribute [go_sem] devO
theorem freeList_ok {a : DiskA} {s : SuperA} (h : totDisk a < 2 ^ 40) (hd : diskOk a) (ho : okDisk a) :
    TSpec Try.prog 119 [(1000000, devO a)] [.pt 1000000 0 0, .ag (fSuper s)] true [(1000000, devO a)] (.tu [.ow 1 (encI .i64 (flR a s.Free).1), .ow 1 (encI .i64 (flR a s.Free).2.1), .pl (.bool (flR a s.Free).2.2)]) := by
  obtain ⟨r1, r2, r3, hr⟩ : ∃ r1 r2 r3, flR a s.Free = (r1, r2, r3) := ⟨_, _, _, rfl⟩
  simp only [devO, devR, fSuper, hr]
  have htot : totDisk a = (a.Safe.length + sumN List.length a.Safe) + (a.Pending.length + sumN totPend a.Pending) := rfl
  have hD := dN0
  refine sT 96 [.tmp 4, .tmp 5, .tmp 6] Try.func119 fun w0 S0 ρ0 φ0 => ?_
  (refine gU 1000000 0 4 2000005 ?_)
  repeat' (first | apply W.seq | apply W.skip | apply W.region | apply W.block | apply N.code | apply N.blk | apply Sl.nil | apply W.exit | apply W.ret | apply E.hit | apply E.code | apply E.fin | refine zM ?_ | apply O.i | refine sP ?_ | refine sQ fun _ => ?_ | refine zF ?_ | refine zD ?_ | refine zg fun _ => ?_ | refine sX fun _ => ?_ | refine sPf ?_ | refine sPt ?_ | (focus (refine zT ?_; (try refine sA 27 ?_ (hc := by rfl)); (try refine sA 28 ?_ (hc := by rfl)); (first | refine sMl fun _ => ?_ | refine sMl (hz := zeroIsB) fun _ => ?_))) | refine sMm ?_ | (first | refine sMl fun _ => ?_ | refine sMl (hz := zeroIsB) fun _ => ?_) | refine sMu fun _ => ?_ | refine sIE ?_ | refine sIQ ?_ | (refine k1 true [(1000000, 0, some 1000000), (1000001, 0, some 2000005)] c101 ?_; refine k2 hpg ?_) | (refine k1 false [] c146 ?_; refine k2 numberAt_ok ?_) | refine zI ?_ ?_ | (intro hb; (try simp [-List.getD_eq_getElem?_getD] at hb); (try (exfalso; omega))))
  (refine gV 4 2000000 1 ?_; refine gV 5 2000001 1 ?_)
  have hD := And.intro @flF_zero (@flO_zero)
  refine W.iter (fun k => ⟨96, [(0, .pt 1000000 0 0), (4, .sl 2000000 0 (flF a s.Free k).length), (5, .sl 2000001 0 (flO a s.Free k).length), (7, .mr 13), (8, .pl (.int .i64 (flI a s.Free k)))], [(1000000, .c 5 [devR 0 (.pd (encL fB a.Safe)) (.pd (encL fPend a.Pending)) (.mr 2000005)]), (2000005, .m (mII (lastN a.Pending a.Pending.length))), (13, .m (mSet (flO a s.Free k))), (2000000, .c 1 (encI .i64 (flF a s.Free k))), (2000001, .c 1 (encI .i64 (flO a s.Free k)))], []⟩) (fun k => ∀ j, j < k → flG a s.Free j) ((a.Safe.length / 4)) (Weak.to (by first | rfl | (simp only [virtAt_n, virt_n]; rfl)) ?s1 ?b1 (by exact dfe)) ?h1 (fun k hk hH => ?body1)
  (try case' s1 => first | exact to1 | (simp +decide only [go_sem]; (try simp (disch := first | exact ds | fail) only [go_sem, Nat.reduceAdd, Nat.reduceMul, Nat.reduceSub, Int.reduceToNat, Int.reduceNeg, Nat.reduceLeDiff, hD]); (try simp only [SV.pl.injEq, SV.sl.injEq, Value.int.injEq, Bk.c.injEq, encI_inj, true_and]); (try omega))); (try case' b1 => first | exact to1 | (simp +decide only [go_sem]; (try simp (disch := first | exact ds | fail) only [go_sem, Nat.reduceAdd, Nat.reduceMul, Nat.reduceSub, Int.reduceToNat, Int.reduceNeg, Nat.reduceLeDiff, hD]); (try simp only [SV.pl.injEq, SV.sl.injEq, Value.int.injEq, Bk.c.injEq, encI_inj, true_and]); (try omega))); (try case' h1 => first | exact to1 | (simp +decide only [go_sem]; (try simp (disch := first | exact ds | fail) only [go_sem, Nat.reduceAdd, Nat.reduceMul, Nat.reduceSub, Int.reduceToNat, Int.reduceNeg, Nat.reduceLeDiff, hD]); (try simp only [SV.pl.injEq, SV.sl.injEq, Value.int.injEq, Bk.c.injEq, encI_inj, true_and]); (try omega)))
  · rfl
  have hFl := flF_len hH
  have hOl := flO_len a s.Free k
  have hI1 : flI a s.Free (k + 1) = leN ((flB a (flI a s.Free k)).take 4) := rfl
  have hF1 : flF a s.Free (k + 1) = flF a s.Free k ++ chks (flB a (flI a s.Free k)) (cnt (flB a (flI a s.Free k))) := rfl
  have hO1 := flO_succ a s.Free k
  by_cases h0 : flI a s.Free k = 0
  · have hR := flR_end ⟨hH, h0⟩
    rw [hr] at hR
    obtain ⟨rfl, hR2⟩ := Prod.mk.inj hR
    obtain ⟨rfl, rfl⟩ := Prod.mk.inj hR2
    clear hI1 hF1 hO1 hR
    generalize flF a s.Free k = fs at *
    generalize flO a s.Free k = os at *
    have hD := (h0)
    repeat' (first | apply W.seq | apply W.skip | apply W.region | apply W.block | apply N.code | apply N.blk | apply Sl.nil | apply W.exit | apply W.ret | apply E.hit | apply E.code | apply E.fin | refine zM ?_ | apply O.i | refine sP ?_ | refine sQ fun _ => ?_ | refine zF ?_ | refine zD ?_ | refine zg fun _ => ?_ | refine sX fun _ => ?_ | refine sPf ?_ | refine sPt ?_ | (focus (refine zT ?_; (try refine sA 27 ?_ (hc := by rfl)); (try refine sA 28 ?_ (hc := by rfl)); (first | refine sMl fun _ => ?_ | refine sMl (hz := zeroIsB) fun _ => ?_))) | refine sMm ?_ | (first | refine sMl fun _ => ?_ | refine sMl (hz := zeroIsB) fun _ => ?_) | refine sMu fun _ => ?_ | refine sIE ?_ | refine sIQ ?_ | (refine k1 true [(1000000, 0, some 1000000), (1000001, 0, some 2000005)] c101 ?_; refine k2 hpg ?_) | (refine k1 false [] c146 ?_; refine k2 numberAt_ok ?_) | refine zI ?_ ?_ | (intro hb; (try simp [-List.getD_eq_getElem?_getD] at hb); (try (exfalso; omega))))
    all_goals (refine hF 1000000 0 4 ?_)
    all_goals exact rS
  have hbad : ¬ flG a s.Free k → r1 = [] ∧ r2 = [] ∧ r3 = false := fun g => by
    have hR := flR_bad hH h0 g
    rw [hr] at hR
    obtain ⟨e1, hR2⟩ := Prod.mk.inj hR
    exact ⟨e1, Prod.mk.inj hR2⟩
  have hG : flG a s.Free k ↔ flI a s.Free k ≠ 0 ∧ flP a s.Free k ∧ ∀ j, j < cnt (flB a (flI a s.Free k)) → flN a s.Free k j := Iff.rfl
  unfold flP flN at hG
  have hnx : flG a s.Free k → k < a.Safe.length / 4 ∧ ∀ j, j < k + 1 → flG a s.Free j := fun g => by
    have hn : ∀ j, j < k + 1 → flG a s.Free j := fun j hj => by
      rcases Nat.lt_succ_iff_lt_or_eq.mp hj with e | e
      · exact hH j e
      · exact e ▸ g
    exact ⟨by have := fl_few hn; omega, hn⟩
  rcases devPage_ex (id := flI a s.Free k) h hd ho with ⟨_, hpg, ⟨h1, rfl⟩ | ⟨h1, q, rfl⟩⟩
  · simp only [devB, devR] at hpg
    have hbo := pgB_ok (pgNow_ok ho (flI a s.Free k))
    have hbl := pgB_len h1.2.1
    have hidn := h1.1
    simp only [h1, true_and, ne_eq, h0, not_false_iff] at hG
    clear h1
    simp only [flB] at *
    generalize flG a s.Free k = gd at *
    generalize pgK (pgNow a (flI a s.Free k)) = kq at *
    generalize pgB (pgNow a (flI a s.Free k)) = bq at *
    generalize pgN (pgNow a (flI a s.Free k)) = nq at *
    generalize flI a s.Free k = id at *
    generalize flF a s.Free k = fs at *
    generalize flO a s.Free k = os at *
    clear hH
    by_cases g1 : id ∈ os
    · obtain ⟨rfl, rfl, rfl⟩ := hbad fun g => (hG.mp g).1.1 g1
      have q1 : decide (id ∈ os) = true := decide_eq_true g1
      have hD := (q1)
      repeat' (first | apply W.seq | apply W.skip | apply W.region | apply W.block | apply N.code | apply N.blk | apply Sl.nil | apply W.exit | apply W.ret | apply E.hit | apply E.code | apply E.fin | refine zM ?_ | apply O.i | refine sP ?_ | refine sQ fun _ => ?_ | refine zF ?_ | refine zD ?_ | refine zg fun _ => ?_ | refine sX fun _ => ?_ | refine sPf ?_ | refine sPt ?_ | (focus (refine zT ?_; (try refine sA 27 ?_ (hc := by rfl)); (try refine sA 28 ?_ (hc := by rfl)); (first | refine sMl fun _ => ?_ | refine sMl (hz := zeroIsB) fun _ => ?_))) | refine sMm ?_ | (first | refine sMl fun _ => ?_ | refine sMl (hz := zeroIsB) fun _ => ?_) | refine sMu fun _ => ?_ | refine sIE ?_ | refine sIQ ?_ | (refine k1 true [(1000000, 0, some 1000000), (1000001, 0, some 2000005)] c101 ?_; refine k2 hpg ?_) | (refine k1 false [] c146 ?_; refine k2 numberAt_ok ?_) | refine zI ?_ ?_ | (intro hb; (try simp [-List.getD_eq_getElem?_getD] at hb); (try (exfalso; omega))))
      all_goals (refine hF 1000000 0 4 ?_)
      all_goals exact rS
    have q1 : decide (id ∈ os) = false := decide_eq_false g1
    by_cases g2 : kq = 4
    · by_cases g3 : 4 ≤ bq.length
      · by_cases g4 : bq.length % 4 = 0
        · have hm : ((bq.length : Int).tmod 4) = 0 := by rw [mod4, g4]; rfl
          have hgd : gd ↔ ∀ j, j < cnt bq → fits (fs ++ chks bq j) (chk bq j) := by
            rw [hG]
            exact ⟨fun g => g.2, fun g => ⟨⟨g1, g2, g3, g4⟩, g⟩⟩
          have hcn := cnt_iff g3 g4
          clear hG
          have hput := lput_mSet os id g1
          have hol : (os ++ [id]).length = os.length + 1 := by simp
          have hD := And.intro (q1) ((hm))
          repeat' (first | apply W.seq | apply W.skip | apply W.region | apply W.block | apply N.code | apply N.blk | apply Sl.nil | apply W.exit | apply W.ret | apply E.hit | apply E.code | apply E.fin | refine zM ?_ | apply O.i | refine sP ?_ | refine sQ fun _ => ?_ | refine zF ?_ | refine zD ?_ | refine zg fun _ => ?_ | refine sX fun _ => ?_ | refine sPf ?_ | refine sPt ?_ | (focus (refine zT ?_; (try refine sA 27 ?_ (hc := by rfl)); (try refine sA 28 ?_ (hc := by rfl)); (first | refine sMl fun _ => ?_ | refine sMl (hz := zeroIsB) fun _ => ?_))) | refine sMm ?_ | (first | refine sMl fun _ => ?_ | refine sMl (hz := zeroIsB) fun _ => ?_) | refine sMu fun _ => ?_ | refine sIE ?_ | refine sIQ ?_ | (refine k1 true [(1000000, 0, some 1000000), (1000001, 0, some 2000005)] c101 ?_; refine k2 hpg ?_) | (refine k1 false [] c146 ?_; refine k2 numberAt_ok ?_) | refine zI ?_ ?_ | (intro hb; (try simp [-List.getD_eq_getElem?_getD] at hb); (try (exfalso; omega))))
          have hD := And.intro (q1) (And.intro (hm) (And.intro (hput) (And.intro (hol) (And.intro @chks_zero (@lAppNil)))))
          refine W.iter (fun j => ⟨96, [(0, .pt 1000000 0 0), (4, .sl 2000000 0 (fs ++ chks bq j).length), (5, .sl 61 0 (os ++ [id]).length), (7, .mr 13), (9, .pt 9 0 0), (11, .pd (encI .u8 (bq.drop (4 + 4 * j))))], [(1000000, .c 5 [devR 0 (.pd (encL fB a.Safe)) (.pd (encL fPend a.Pending)) (.mr 2000005)]), (2000005, .m (mII (lastN a.Pending a.Pending.length))), (13, .m (mSet (os ++ [id]))), (2000000, .c 1 (encI .i64 (fs ++ chks bq j))), (61, .c 1 (encI .i64 (os ++ [id]))), (9, .c 4 [[.pl (.int .i64 id), .pl (.int .i64 kq), .pl (.int .i64 nq), .pd (encI .u8 bq)]])], []⟩) (fun j => ∀ i, i < j → fits (fs ++ chks bq i) (chk bq i)) ((cnt bq)) (Weak.to (by first | rfl | (simp only [virtAt_n, virt_n]; rfl)) ?s2 ?b2 (by exact dfe)) ?h2 (fun j hj Hj => ?body2)
          (try case' s2 => first | exact to1 | (simp +decide only [go_sem]; (try simp (disch := first | exact ds | fail) only [go_sem, Nat.reduceAdd, Nat.reduceMul, Nat.reduceSub, Int.reduceToNat, Int.reduceNeg, Nat.reduceLeDiff, hD]); (try simp only [SV.pl.injEq, SV.sl.injEq, Value.int.injEq, Bk.c.injEq, encI_inj, true_and]); (try omega))); (try case' b2 => first | exact to1 | (simp +decide only [go_sem]; (try simp (disch := first | exact ds | fail) only [go_sem, Nat.reduceAdd, Nat.reduceMul, Nat.reduceSub, Int.reduceToNat, Int.reduceNeg, Nat.reduceLeDiff, hD]); (try simp only [SV.pl.injEq, SV.sl.injEq, Value.int.injEq, Bk.c.injEq, encI_inj, true_and]); (try omega))); (try case' h2 => first | exact to1 | (simp +decide only [go_sem]; (try simp (disch := first | exact ds | fail) only [go_sem, Nat.reduceAdd, Nat.reduceMul, Nat.reduceSub, Int.reduceToNat, Int.reduceNeg, Nat.reduceLeDiff, hD]); (try simp only [SV.pl.injEq, SV.sl.injEq, Value.int.injEq, Bk.c.injEq, encI_inj, true_and]); (try omega)))
          have hdl : (bq.drop (4 + 4 * j)).length = bq.length - (4 + 4 * j) := List.length_drop
          have hcj := hcn j
          by_cases hj2 : j < cnt bq
          · have hob : okBytes ((bq.drop (4 + 4 * j)).take 4) := okBytes_take (okBytes_drop hbo _) _
            have hnum : numI ((bq.drop (4 + 4 * j)).take 4) = chk bq j := num4 hob (by rw [List.length_take]; omega)
            have hdd : (bq.drop (4 + 4 * j)).drop 4 = bq.drop (4 + 4 * (j + 1)) := by rw [List.drop_drop]; congr 1
            have hcs : fs ++ chks bq (j + 1) = (fs ++ chks bq j) ++ [chk bq j] := by rw [chks_succ, List.append_assoc]
            have hfj : fits (fs ++ chks bq j) (chk bq j) → ∀ i, i < j + 1 → fits (fs ++ chks bq i) (chk bq i) := fun q i hi => by
              rcases Nat.lt_succ_iff_lt_or_eq.mp hi with e | e
              · exact Hj i e
              · exact e ▸ q
            have hyl : (fs ++ chks bq j).length = fs.length + j := by rw [List.length_append, chks_len]
            rw [hcs]
            have hbf : ¬ fits (fs ++ chks bq j) (chk bq j) → r1 = [] ∧ r2 = [] ∧ r3 = false := fun q => hbad fun g => q (hgd.mp g j hj2)
            have hpos : 0 < (bq.drop (4 + 4 * j)).length := by omega
            clear hgd hcs hnx hbad hI1 hF1 hO1 hcn Hj hcj
            generalize fs ++ chks bq j = ys at *
            generalize chk bq j = cj at *
            by_cases hz : 0 < ys.length
            · have hlv := lastV_get ys hz
              have q5 : decide ((ys.length : Int) > 0) = true := decide_eq_true (by omega)
              by_cases hlt : lastV ys < cj
              · have q6 : decide (lastV ys ≥ cj) = false := decide_eq_false (by omega)
                have hfo := hfj fun _ => hlt
                have hD := And.intro (hnum) (And.intro (hdd) (And.intro (hlv) (And.intro (q5) ((q6)))))
                repeat' (first | apply W.seq | apply W.skip | apply W.region | apply W.block | apply N.code | apply N.blk | apply Sl.nil | apply W.exit | apply W.ret | apply E.hit | apply E.code | apply E.fin | refine zM ?_ | apply O.i | refine sP ?_ | refine sQ fun _ => ?_ | refine zF ?_ | refine zD ?_ | refine zg fun _ => ?_ | refine sX fun _ => ?_ | refine sPf ?_ | refine sPt ?_ | (focus (refine zT ?_; (try refine sA 27 ?_ (hc := by rfl)); (try refine sA 28 ?_ (hc := by rfl)); (first | refine sMl fun _ => ?_ | refine sMl (hz := zeroIsB) fun _ => ?_))) | refine sMm ?_ | (first | refine sMl fun _ => ?_ | refine sMl (hz := zeroIsB) fun _ => ?_) | refine sMu fun _ => ?_ | refine sIE ?_ | refine sIQ ?_ | (refine k1 true [(1000000, 0, some 1000000), (1000001, 0, some 2000005)] c101 ?_; refine k2 hpg ?_) | (refine k1 false [] c146 ?_; refine k2 numberAt_ok ?_) | refine zI ?_ ?_ | (intro hb; (try simp [-List.getD_eq_getElem?_getD] at hb); (try (exfalso; omega))))
                (refine N.fin ⟨by omega, ?h3, ?w3⟩; case' w3 => (refine eR 89 2000000 ?_; refine Weak.to (by first | rfl | (simp only [virtAt_n, virt_n]; rfl)) ?s3 ?b3 (by exact dfe)))
                (try case' s3 => first | exact to1 | (simp +decide only [go_sem]; (try simp (disch := first | exact ds | fail) only [go_sem, Nat.reduceAdd, Nat.reduceMul, Nat.reduceSub, Int.reduceToNat, Int.reduceNeg, Nat.reduceLeDiff, hD]); (try simp only [SV.pl.injEq, SV.sl.injEq, Value.int.injEq, Bk.c.injEq, encI_inj, true_and]); (try omega))); (try case' b3 => first | exact to1 | (simp +decide only [go_sem]; (try simp (disch := first | exact ds | fail) only [go_sem, Nat.reduceAdd, Nat.reduceMul, Nat.reduceSub, Int.reduceToNat, Int.reduceNeg, Nat.reduceLeDiff, hD]); (try simp only [SV.pl.injEq, SV.sl.injEq, Value.int.injEq, Bk.c.injEq, encI_inj, true_and]); (try omega))); (try case' h3 => first | exact to1 | (simp +decide only [go_sem]; (try simp (disch := first | exact ds | fail) only [go_sem, Nat.reduceAdd, Nat.reduceMul, Nat.reduceSub, Int.reduceToNat, Int.reduceNeg, Nat.reduceLeDiff, hD]); (try simp only [SV.pl.injEq, SV.sl.injEq, Value.int.injEq, Bk.c.injEq, encI_inj, true_and]); (try omega)))
                simp
              · obtain ⟨rfl, rfl, rfl⟩ := hbf fun q => hlt (q hz)
                have q6 : decide (lastV ys ≥ cj) = true := decide_eq_true (by omega)
                have hD := And.intro (hnum) (And.intro (hlv) (And.intro (q5) ((q6))))
                repeat' (first | apply W.seq | apply W.skip | apply W.region | apply W.block | apply N.code | apply N.blk | apply Sl.nil | apply W.exit | apply W.ret | apply E.hit | apply E.code | apply E.fin | refine zM ?_ | apply O.i | refine sP ?_ | refine sQ fun _ => ?_ | refine zF ?_ | refine zD ?_ | refine zg fun _ => ?_ | refine sX fun _ => ?_ | refine sPf ?_ | refine sPt ?_ | (focus (refine zT ?_; (try refine sA 27 ?_ (hc := by rfl)); (try refine sA 28 ?_ (hc := by rfl)); (first | refine sMl fun _ => ?_ | refine sMl (hz := zeroIsB) fun _ => ?_))) | refine sMm ?_ | (first | refine sMl fun _ => ?_ | refine sMl (hz := zeroIsB) fun _ => ?_) | refine sMu fun _ => ?_ | refine sIE ?_ | refine sIQ ?_ | (refine k1 true [(1000000, 0, some 1000000), (1000001, 0, some 2000005)] c101 ?_; refine k2 hpg ?_) | (refine k1 false [] c146 ?_; refine k2 numberAt_ok ?_) | refine zI ?_ ?_ | (intro hb; (try simp [-List.getD_eq_getElem?_getD] at hb); (try (exfalso; omega))))
                all_goals (refine hF 1000000 0 4 ?_)
                all_goals exact rS
            · have q5 : decide ((ys.length : Int) > 0) = false := decide_eq_false (by omega)
              have hfo := hfj fun q => absurd q hz
              have hD := And.intro (hnum) (And.intro (hdd) ((q5)))
              repeat' (first | apply W.seq | apply W.skip | apply W.region | apply W.block | apply N.code | apply N.blk | apply Sl.nil | apply W.exit | apply W.ret | apply E.hit | apply E.code | apply E.fin | refine zM ?_ | apply O.i | refine sP ?_ | refine sQ fun _ => ?_ | refine zF ?_ | refine zD ?_ | refine zg fun _ => ?_ | refine sX fun _ => ?_ | refine sPf ?_ | refine sPt ?_ | (focus (refine zT ?_; (try refine sA 27 ?_ (hc := by rfl)); (try refine sA 28 ?_ (hc := by rfl)); (first | refine sMl fun _ => ?_ | refine sMl (hz := zeroIsB) fun _ => ?_))) | refine sMm ?_ | (first | refine sMl fun _ => ?_ | refine sMl (hz := zeroIsB) fun _ => ?_) | refine sMu fun _ => ?_ | refine sIE ?_ | refine sIQ ?_ | (refine k1 true [(1000000, 0, some 1000000), (1000001, 0, some 2000005)] c101 ?_; refine k2 hpg ?_) | (refine k1 false [] c146 ?_; refine k2 numberAt_ok ?_) | refine zI ?_ ?_ | (intro hb; (try simp [-List.getD_eq_getElem?_getD] at hb); (try (exfalso; omega))))
              (refine N.fin ⟨by omega, ?h4, ?w4⟩; case' w4 => (refine eR 89 2000000 ?_; refine Weak.to (by first | rfl | (simp only [virtAt_n, virt_n]; rfl)) ?s4 ?b4 (by exact dfe)))
              (try case' s4 => first | exact to1 | (simp +decide only [go_sem]; (try simp (disch := first | exact ds | fail) only [go_sem, Nat.reduceAdd, Nat.reduceMul, Nat.reduceSub, Int.reduceToNat, Int.reduceNeg, Nat.reduceLeDiff, hD]); (try simp only [SV.pl.injEq, SV.sl.injEq, Value.int.injEq, Bk.c.injEq, encI_inj, true_and]); (try omega))); (try case' b4 => first | exact to1 | (simp +decide only [go_sem]; (try simp (disch := first | exact ds | fail) only [go_sem, Nat.reduceAdd, Nat.reduceMul, Nat.reduceSub, Int.reduceToNat, Int.reduceNeg, Nat.reduceLeDiff, hD]); (try simp only [SV.pl.injEq, SV.sl.injEq, Value.int.injEq, Bk.c.injEq, encI_inj, true_and]); (try omega))); (try case' h4 => first | exact to1 | (simp +decide only [go_sem]; (try simp (disch := first | exact ds | fail) only [go_sem, Nat.reduceAdd, Nat.reduceMul, Nat.reduceSub, Int.reduceToNat, Int.reduceNeg, Nat.reduceLeDiff, hD]); (try simp only [SV.pl.injEq, SV.sl.injEq, Value.int.injEq, Bk.c.injEq, encI_inj, true_and]); (try omega)))
              simp
          obtain rfl : j = cnt bq := by omega
          have hge : gd := hgd.mpr fun j hj => Hj j hj
          obtain ⟨hk2, hHn⟩ := hnx hge
          have hnum : numI (bq.take 4) = flI a s.Free (k + 1) := by rw [hI1]; exact num4 (okBytes_take hbo 4) (by rw [List.length_take]; omega)
          have hob : okBytes (bq.take 4) := okBytes_take hbo 4
          have hdz : bq.drop (4 + 4 * cnt bq) = [] := List.drop_eq_nil_of_le (by omega)
          rw [← hF1, ← hO1, hdz]
          clear hgd hnx hbad hI1 hcn Hj hcj hF1 hO1 hdl
          have hD := (hnum)
          repeat' (first | apply W.seq | apply W.skip | apply W.region | apply W.block | apply N.code | apply N.blk | apply Sl.nil | apply W.exit | apply W.ret | apply E.hit | apply E.code | apply E.fin | refine zM ?_ | apply O.i | refine sP ?_ | refine sQ fun _ => ?_ | refine zF ?_ | refine zD ?_ | refine zg fun _ => ?_ | refine sX fun _ => ?_ | refine sPf ?_ | refine sPt ?_ | (focus (refine zT ?_; (try refine sA 27 ?_ (hc := by rfl)); (try refine sA 28 ?_ (hc := by rfl)); (first | refine sMl fun _ => ?_ | refine sMl (hz := zeroIsB) fun _ => ?_))) | refine sMm ?_ | (first | refine sMl fun _ => ?_ | refine sMl (hz := zeroIsB) fun _ => ?_) | refine sMu fun _ => ?_ | refine sIE ?_ | refine sIQ ?_ | (refine k1 true [(1000000, 0, some 1000000), (1000001, 0, some 2000005)] c101 ?_; refine k2 hpg ?_) | (refine k1 false [] c146 ?_; refine k2 numberAt_ok ?_) | refine zI ?_ ?_ | (intro hb; (try simp [-List.getD_eq_getElem?_getD] at hb); (try (exfalso; omega))))
          (refine N.fin ⟨by omega, ?h5, ?w5⟩; case' w5 => (refine eR 61 2000001 ?_; refine Weak.to (by first | rfl | (simp only [virtAt_n, virt_n]; rfl)) ?s5 ?b5 (by exact dfe)))
          (try case' s5 => first | exact to1 | (simp +decide only [go_sem]; (try simp (disch := first | exact ds | fail) only [go_sem, Nat.reduceAdd, Nat.reduceMul, Nat.reduceSub, Int.reduceToNat, Int.reduceNeg, Nat.reduceLeDiff, hD]); (try simp only [SV.pl.injEq, SV.sl.injEq, Value.int.injEq, Bk.c.injEq, encI_inj, true_and]); (try omega))); (try case' b5 => first | exact to1 | (simp +decide only [go_sem]; (try simp (disch := first | exact ds | fail) only [go_sem, Nat.reduceAdd, Nat.reduceMul, Nat.reduceSub, Int.reduceToNat, Int.reduceNeg, Nat.reduceLeDiff, hD]); (try simp only [SV.pl.injEq, SV.sl.injEq, Value.int.injEq, Bk.c.injEq, encI_inj, true_and]); (try omega))); (try case' h5 => first | exact to1 | (simp +decide only [go_sem]; (try simp (disch := first | exact ds | fail) only [go_sem, Nat.reduceAdd, Nat.reduceMul, Nat.reduceSub, Int.reduceToNat, Int.reduceNeg, Nat.reduceLeDiff, hD]); (try simp only [SV.pl.injEq, SV.sl.injEq, Value.int.injEq, Bk.c.injEq, encI_inj, true_and]); (try omega)))
        · obtain ⟨rfl, rfl, rfl⟩ := hbad fun g => g4 (hG.mp g).1.2.2.2
          have hm : (((bq.length : Int).tmod 4) != 0) = true := by rw [mod4]; simp; omega
          have q3 : decide ((bq.length : Int) < 4) = false := decide_eq_false (by omega)
          have hD := And.intro (q1) (And.intro (q3) ((hm)))
          repeat' (first | apply W.seq | apply W.skip | apply W.region | apply W.block | apply N.code | apply N.blk | apply Sl.nil | apply W.exit | apply W.ret | apply E.hit | apply E.code | apply E.fin | refine zM ?_ | apply O.i | refine sP ?_ | refine sQ fun _ => ?_ | refine zF ?_ | refine zD ?_ | refine zg fun _ => ?_ | refine sX fun _ => ?_ | refine sPf ?_ | refine sPt ?_ | (focus (refine zT ?_; (try refine sA 27 ?_ (hc := by rfl)); (try refine sA 28 ?_ (hc := by rfl)); (first | refine sMl fun _ => ?_ | refine sMl (hz := zeroIsB) fun _ => ?_))) | refine sMm ?_ | (first | refine sMl fun _ => ?_ | refine sMl (hz := zeroIsB) fun _ => ?_) | refine sMu fun _ => ?_ | refine sIE ?_ | refine sIQ ?_ | (refine k1 true [(1000000, 0, some 1000000), (1000001, 0, some 2000005)] c101 ?_; refine k2 hpg ?_) | (refine k1 false [] c146 ?_; refine k2 numberAt_ok ?_) | refine zI ?_ ?_ | (intro hb; (try simp [-List.getD_eq_getElem?_getD] at hb); (try (exfalso; omega))))
          all_goals (refine hF 1000000 0 4 ?_)
          all_goals exact rS
      · obtain ⟨rfl, rfl, rfl⟩ := hbad fun g => g3 (hG.mp g).1.2.2.1
        have q3 : decide ((bq.length : Int) < 4) = true := decide_eq_true (by omega)
        have hD := And.intro (q1) ((q3))
        repeat' (first | apply W.seq | apply W.skip | apply W.region | apply W.block | apply N.code | apply N.blk | apply Sl.nil | apply W.exit | apply W.ret | apply E.hit | apply E.code | apply E.fin | refine zM ?_ | apply O.i | refine sP ?_ | refine sQ fun _ => ?_ | refine zF ?_ | refine zD ?_ | refine zg fun _ => ?_ | refine sX fun _ => ?_ | refine sPf ?_ | refine sPt ?_ | (focus (refine zT ?_; (try refine sA 27 ?_ (hc := by rfl)); (try refine sA 28 ?_ (hc := by rfl)); (first | refine sMl fun _ => ?_ | refine sMl (hz := zeroIsB) fun _ => ?_))) | refine sMm ?_ | (first | refine sMl fun _ => ?_ | refine sMl (hz := zeroIsB) fun _ => ?_) | refine sMu fun _ => ?_ | refine sIE ?_ | refine sIQ ?_ | (refine k1 true [(1000000, 0, some 1000000), (1000001, 0, some 2000005)] c101 ?_; refine k2 hpg ?_) | (refine k1 false [] c146 ?_; refine k2 numberAt_ok ?_) | refine zI ?_ ?_ | (intro hb; (try simp [-List.getD_eq_getElem?_getD] at hb); (try (exfalso; omega))))
        all_goals (refine hF 1000000 0 4 ?_)
        all_goals exact rS
    · obtain ⟨rfl, rfl, rfl⟩ := hbad fun g => g2 (hG.mp g).1.2.1
      have q2 : (kq != 4) = true := by simp [g2]
      have hD := And.intro (q1) ((q2))
      repeat' (first | apply W.seq | apply W.skip | apply W.region | apply W.block | apply N.code | apply N.blk | apply Sl.nil | apply W.exit | apply W.ret | apply E.hit | apply E.code | apply E.fin | refine zM ?_ | apply O.i | refine sP ?_ | refine sQ fun _ => ?_ | refine zF ?_ | refine zD ?_ | refine zg fun _ => ?_ | refine sX fun _ => ?_ | refine sPf ?_ | refine sPt ?_ | (focus (refine zT ?_; (try refine sA 27 ?_ (hc := by rfl)); (try refine sA 28 ?_ (hc := by rfl)); (first | refine sMl fun _ => ?_ | refine sMl (hz := zeroIsB) fun _ => ?_))) | refine sMm ?_ | (first | refine sMl fun _ => ?_ | refine sMl (hz := zeroIsB) fun _ => ?_) | refine sMu fun _ => ?_ | refine sIE ?_ | refine sIQ ?_ | (refine k1 true [(1000000, 0, some 1000000), (1000001, 0, some 2000005)] c101 ?_; refine k2 hpg ?_) | (refine k1 false [] c146 ?_; refine k2 numberAt_ok ?_) | refine zI ?_ ?_ | (intro hb; (try simp [-List.getD_eq_getElem?_getD] at hb); (try (exfalso; omega))))
      all_goals (refine hF 1000000 0 4 ?_)
      all_goals exact rS
  · simp only [devB, devR] at hpg
    obtain ⟨rfl, rfl, rfl⟩ := hbad fun g => h1 g.2.1.1
    clear hG hnx hbad hI1 hF1 hO1
    have hD := dN0
    repeat' (first | apply W.seq | apply W.skip | apply W.region | apply W.block | apply N.code | apply N.blk | apply Sl.nil | apply W.exit | apply W.ret | apply E.hit | apply E.code | apply E.fin | refine zM ?_ | apply O.i | refine sP ?_ | refine sQ fun _ => ?_ | refine zF ?_ | refine zD ?_ | refine zg fun _ => ?_ | refine sX fun _ => ?_ | refine sPf ?_ | refine sPt ?_ | (focus (refine zT ?_; (try refine sA 27 ?_ (hc := by rfl)); (try refine sA 28 ?_ (hc := by rfl)); (first | refine sMl fun _ => ?_ | refine sMl (hz := zeroIsB) fun _ => ?_))) | refine sMm ?_ | (first | refine sMl fun _ => ?_ | refine sMl (hz := zeroIsB) fun _ => ?_) | refine sMu fun _ => ?_ | refine sIE ?_ | refine sIQ ?_ | (refine k1 true [(1000000, 0, some 1000000), (1000001, 0, some 2000005)] c101 ?_; refine k2 hpg ?_) | (refine k1 false [] c146 ?_; refine k2 numberAt_ok ?_) | refine zI ?_ ?_ | (intro hb; (try simp [-List.getD_eq_getElem?_getD] at hb); (try (exfalso; omega))))
    all_goals (refine hF 1000000 0 4 ?_)
    all_goals exact rS
end Go.Proofs.Ytfmbifnbmlhhjaa

