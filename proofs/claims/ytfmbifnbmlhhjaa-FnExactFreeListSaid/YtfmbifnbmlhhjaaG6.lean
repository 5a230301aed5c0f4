import Derived.Test.YtfmbifnbmlhhjaaG5
import Derived.Test.YtfmbifnbmlhhjaaUe
import Derived.Test.YtfmbifnbmlhhjaaUc
namespace Go.Proofs.Ytfmbifnbmlhhjaa
open Go Go.Vcg Go.IntWalk
set_option maxRecDepth 100000
set_option maxHeartbeats 20000000
set_option linter.unusedSimpArgs false
set_option linter.unusedVariables false
theorem imBestSuper_ok {a : DiskA} {db : Bool} (h : totDisk a < 2 ^ 40) (hP : db = true ↔ diskOk a) (ho : okDisk a) :
    TSpec Try.prog 32 [] [.ag (fDisk a)] false [] (.tu [.ag (fSuper (if db then supK a 2 else super0)), .pl (.bool (if db then decide ((supK a 2).Gen > 0) else false))]) := by
  have htot : totDisk a = (a.Safe.length + sumN List.length a.Safe) + (a.Pending.length + sumN totPend a.Pending) := rfl
  cases db with
  | false =>
    simp only [fDisk, fSuper, Bool.false_eq_true, if_false, super0]
    have hD := dN0
    refine sT 13 [.cell 2 51, .tmp 3] Try.func32 fun w0 S0 ρ0 φ0 => ?_
    repeat' (first | apply W.seq | apply W.skip | apply W.region | apply W.block | apply N.code | apply N.blk | apply Sl.nil | apply W.exit | apply W.ret | apply E.hit | apply E.code | apply E.fin | refine zM ?_ | apply O.i | refine sP ?_ | refine sQ fun _ => ?_ | refine sX fun _ => ?_ | (refine k1 false [] c66 ?_; refine k2 (imDiskOk_ok h hP) ?_) | (refine k1 true [] c87 ?_; refine k2 (deviceOf_ok (a := a)) ?_) | (refine k1 true [(1000000, 0, none), (1000001, 0, some 2000000)] c103 ?_; refine k2 (bestSuper_ok h hd ho) ?_) | (refine lU (nmR 9) 0 4 2000000 ?_; refine k1 true [(1000000, 0, none), (1000001, 0, some 2000000)] c103 ?_; refine k2 (bestSuper_ok h hd ho) ?_) | refine zI ?_ ?_ | (intro hb; (try simp [-List.getD_eq_getElem?_getD] at hb); (try (exfalso; omega))))
    exact rT
  | true =>
    have hd := hP.mp rfl
    simp only [fDisk, fSuper, if_true]
    have hD := dN0
    refine sT 13 [.cell 2 51, .tmp 3] Try.func32 fun w0 S0 ρ0 φ0 => ?_
    repeat' (first | apply W.seq | apply W.skip | apply W.region | apply W.block | apply N.code | apply N.blk | apply Sl.nil | apply W.exit | apply W.ret | apply E.hit | apply E.code | apply E.fin | refine zM ?_ | apply O.i | refine sP ?_ | refine sQ fun _ => ?_ | refine sX fun _ => ?_ | (refine k1 false [] c66 ?_; refine k2 (imDiskOk_ok h hP) ?_) | (refine k1 true [] c87 ?_; refine k2 (deviceOf_ok (a := a)) ?_) | (refine k1 true [(1000000, 0, none), (1000001, 0, some 2000000)] c103 ?_; refine k2 (bestSuper_ok h hd ho) ?_) | (refine lU (nmR 9) 0 4 2000000 ?_; refine k1 true [(1000000, 0, none), (1000001, 0, some 2000000)] c103 ?_; refine k2 (bestSuper_ok h hd ho) ?_) | refine zI ?_ ?_ | (intro hb; (try simp [-List.getD_eq_getElem?_getD] at hb); (try (exfalso; omega))))
    all_goals exact rT
/-! ## The reference -/
theorem take8_7 {b : List Int} (h : b.length = 20) : b.take 8 = b.take 7 ++ [b.getD 7 0] := (nSnoc 0 b 7 (by omega)).symm
theorem pow7 : (256 : Nat) ^ 7 = 72057594037927936 := by decide
theorem gen_zero {b : List Int} (hb : okBytes b) (h : b.length = 20) (h0 : b.getD 7 0 = 0) : numI (b.take 8) = leN (b.take 7) := by
  have h1 := leN_lt (b.take 7) (okBytes_take hb 7)
  have h2 : (b.take 7).length = 7 := by rw [List.length_take]; omega
  rw [h2] at h1
  have := pow7
  unfold numI
  rw [take8_7 h, leN_snoc, h0]
  exact (nWrap (by omega) (by simp; omega)).trans (by simp)
theorem gen_big {b : List Int} (hb : okBytes b) (h : b.length = 20) (h0 : b.getD 7 0 ≠ 0) : ¬ (1 ≤ numI (b.take 8) ∧ numI (b.take 8) ≤ 1000000000000) := by
  have hr := okBytes_getD hb 7 (by omega)
  have h1 := leN_lt (b.take 7) (okBytes_take hb 7)
  have h2 : (b.take 7).length = 7 := by rw [List.length_take]; omega
  have e : leN (b.take 8) = leN (b.take 7) + 256 ^ 7 * (b.getD 7 0).toNat := by rw [take8_7 h, leN_snoc, h2]
  rw [h2] at h1
  unfold numI
  rw [e]
  rw [pow7] at h1 ⊢
  generalize leN (b.take 7) = u at *
  obtain ⟨c, hc⟩ : ∃ c : Nat, b.getD 7 0 = c := ⟨(b.getD 7 0).toNat, by omega⟩
  rw [hc] at hr h0 ⊢
  rw [Int.toNat_natCast]
  simp only [IntKind.wrap, IntKind.signed, IntKind.bits]
  simp
  omega
theorem num4 {b : List Int} (hb : okBytes b) (h : b.length ≤ 4) : numI b = leN b := by
  have h1 := leN_lt b hb
  have h2 := pow256_le b.length 4 h
  exact nWrap (by omega) (by omega)
/-- The superblock, as the reference reads it. -/
def supS (b : List Int) : SuperA := ⟨leN (b.take 7), leN ((b.drop 8).take 4), leN ((b.drop 12).take 4), leN (b.drop 16)⟩
theorem supS_eq {b : List Int} (hb : okBytes b) (h : b.length = 20) (h0 : b.getD 7 0 = 0) : supS b = supB b := by
  unfold supS supB
  rw [gen_zero hb h h0, num4 (fun x hx => hb x (List.mem_of_mem_drop (List.mem_of_mem_take hx))) (by rw [List.length_take]; omega), num4 (fun x hx => hb x (List.mem_of_mem_drop (List.mem_of_mem_take hx))) (by rw [List.length_take]; omega), num4 (fun x hx => hb x (List.mem_of_mem_drop hx)) (by rw [List.length_drop]; omega)]
/-- The superblock of a page, as the reference sees it. -/
def spvOk (n : Nat) (id k : Int) (b : List Int) : Prop := k = 1 ∧ b.length = 20 ∧ b.getD 7 0 = 0 ∧ superOk (supS b) ∧ (supS b).Gen % 2 = id ∧ (supS b).Used ≤ n
theorem spv_iff {n : Nat} {id k : Int} {b : List Int} (hb : okBytes b) : spvOk n id k b ↔ supOk n id k b := by
  unfold spvOk supOk
  refine ⟨fun ⟨h1, h2, h3, h4⟩ => ?_, fun ⟨h1, h2, h4⟩ => ?_⟩
  · rw [supS_eq hb h2 h3] at h4
    exact ⟨h1, h2, h4⟩
  · have h3 : b.getD 7 0 = 0 := by
      by_cases e : b.getD 7 0 = 0
      · exact e
      · exact absurd ⟨h4.1.1.1, h4.1.1.2.1⟩ (gen_big hb h2 e)
    rw [supS_eq hb h2 h3]
    exact ⟨h1, h2, h3, h4⟩
theorem l2SuperAt_ok {nq : List (List Int)} {id kq : Int} {bq : List Int} {c so : Bool} (hn : nq.length < 2 ^ 40 := by exact pm) (hbl : bq.length ≤ 240 := by exact pm) (hb : okBytes bq := by exact pm) (hvp : TSpec Try.prog 98 [] [.ag [.pd (encL fB nq)], .pl (.int .i64 id)] false [] (.tu [.pl (.int .i64 kq), .ow 1 (encI .u8 bq), .pl (.bool c)]) := by exact pm) (hso : so = true ↔ c = true ∧ spvOk (nq.length / 4) id kq bq := by exact pm) :
    TSpec Try.prog 102 [] [.ag [.pd (encL fB nq)], .pl (.int .i64 id)] false [] (.tu [.ag (fSuper (if so then supS bq else super0)), .pl (.bool so)]) := by
  have hz : so = false → (if so then supS bq else super0) = super0 := fun h => by rw [h]; rfl
  cases c with
  | false =>
    obtain rfl : so = false := bfS hso fun h => by cases h.1
    simp only [fSuper, Bool.false_eq_true, if_false, super0]
    have hD := dN0
    refine sT 69 [.cell 4 51, .tmp 5] Try.func102 fun w0 S0 ρ0 φ0 => ?_
    repeat' (first | apply W.seq | apply W.skip | refine W.region (id := 0) ?_ | refine W.region (id := 1) ?_ | refine W.region (id := 2) ?_ | refine W.region (id := 3) ?_ | refine W.region (id := 5) ?_ | refine W.region (id := 6) ?_ | refine W.region (id := 7) ?_ | apply W.block | apply N.code | apply N.blk | apply Sl.nil | apply W.exit | apply W.ret | apply E.hit | apply E.code | apply E.fin | refine zM ?_ | apply O.i | refine sP ?_ | refine sQ fun _ => ?_ | refine zF ?_ | refine zD ?_ | refine zg fun _ => ?_ | refine sX fun _ => ?_ | refine sPf ?_ | refine sPt ?_ | (refine k1 false [] c98 ?_; refine k2 hvp ?_) | (refine k1 false [] c123 ?_; refine k2 (l2SuperOk_ok hv) ?_) | refine zI ?_ ?_ | (intro hb; (try simp [-List.getD_eq_getElem?_getD] at hb); (try (exfalso; omega))))
    exact rT
  | true =>
    simp only [true_and] at hso
    have hq := quo4 (n := nq.length) (by omega)
    by_cases h1 : kq = 1
    · by_cases h2 : bq.length = 20
      · have h7 := okBytes_getD hb 7 (by omega)
        by_cases h3 : bq.getD 7 0 = 0
        · have ho1 : okBytes (bq.take 7) := okBytes_take hb 7
          have ho2 : okBytes ((bq.drop 8).take 4) := fun x hx => hb x (List.mem_of_mem_drop (List.mem_of_mem_take hx))
          have ho3 : okBytes ((bq.drop 12).take 4) := fun x hx => hb x (List.mem_of_mem_drop (List.mem_of_mem_take hx))
          have ho4 : okBytes (bq.drop 16) := fun x hx => hb x (List.mem_of_mem_drop hx)
          have hD := (hq)
          have hD := (hq)
          refine sT 69 [.cell 4 51, .tmp 5] Try.func102 fun w0 S0 ρ0 φ0 => ?_
          repeat' (first | apply W.seq | apply W.skip | refine W.region (id := 0) ?_ | refine W.region (id := 1) ?_ | refine W.region (id := 2) ?_ | refine W.region (id := 3) ?_ | refine W.region (id := 5) ?_ | refine W.region (id := 6) ?_ | refine W.region (id := 7) ?_ | apply W.block | apply N.code | apply N.blk | apply Sl.nil | apply W.exit | apply W.ret | apply E.hit | apply E.code | apply E.fin | refine zM ?_ | apply O.i | refine sP ?_ | refine sQ fun _ => ?_ | refine zF ?_ | refine zD ?_ | refine zg fun _ => ?_ | refine sX fun _ => ?_ | refine sPf ?_ | refine sPt ?_ | (refine k1 false [] c98 ?_; refine k2 hvp ?_) | (refine k1 false [] c123 ?_; refine k2 (l2SuperOk_ok hv) ?_) | refine zI ?_ ?_ | (intro hb; (try simp [-List.getD_eq_getElem?_getD] at hb); (try (exfalso; omega))))
          obtain ⟨sup, hsup⟩ : ∃ s, s = supS bq := ⟨_, rfl⟩
          have e1 : (leN (bq.take 7) : Int) = sup.Gen := by rw [hsup]; rfl
          have e2 : (leN ((bq.drop 8).take 4) : Int) = sup.Root := by rw [hsup]; rfl
          have e3 : (leN ((bq.drop 12).take 4) : Int) = sup.Used := by rw [hsup]; rfl
          have e4 : (leN (bq.drop 16) : Int) = sup.Free := by rw [hsup]; rfl
          have hsv : so = true ↔ superOk sup ∧ sup.Gen % 2 = id ∧ sup.Used ≤ (nq.length / 4 : Nat) := by
            rw [hso, hsup]
            unfold spvOk
            simp only [h1, h2, h3, true_and]
          rw [← hsup]
          clear hso hsup hz
          have hD := And.intro (hq) (And.intro (e1) (And.intro (e2) (And.intro (e3) ((e4)))))
          first | refine rDJ (id := 4) (fun b => b == 9) [14] ⟨69, [(1, .pl (.int .i64 id)), (2, .pt 2 0 0), (4, .pt 4 0 0), (9, .pt 9 0 0)], [(2, .c 1 [[.pd (encL fB nq)]]), (4, .c 4 [[.pl (.int .i64 0), .pl (.int .i64 0), .pl (.int .i64 0), .pl (.int .i64 0)]]), (9, .c 4 [[.pl (.int .i64 sup.Gen), .pl (.int .i64 sup.Root), .pl (.int .i64 sup.Used), .pl (.int .i64 sup.Free)]])], []⟩ ?j1 ?k1 | refine rDJ1 (id := 4) (fun b => b == 9) [14] ⟨69, [(1, .pl (.int .i64 id)), (2, .pt 2 0 0), (4, .pt 4 0 0), (9, .pt 9 0 0)], [(2, .c 1 [[.pd (encL fB nq)]]), (4, .c 4 [[.pl (.int .i64 0), .pl (.int .i64 0), .pl (.int .i64 0), .pl (.int .i64 0)]]), (9, .c 4 [[.pl (.int .i64 sup.Gen), .pl (.int .i64 sup.Root), .pl (.int .i64 sup.Used), .pl (.int .i64 sup.Free)]])], []⟩ ?j1 ?k1
          case' j1 => (refine rP 0 false fun _ => ?_; refine rP 1 false fun _ => ?_; refine rP 3 false fun _ => ?_; refine rP 4 false fun _ => ?_; refine rP 6 false fun _ => ?_; refine rP 7 false fun _ => ?_; refine rP 9 false fun _ => ?_; refine rP 10 false fun _ => ?_; (focus (refine rA [2, 13] (xO (fun _ _ _ _ _ => ?_) (xO (fun _ _ _ _ _ => ?_) RX.nil)); (focus (refine k1 false [] c82 ?_; refine k2 l2Low_ok ?_; (focus (refine rA [5, 13] (xO (fun _ _ _ _ _ => ?_) (xO (fun _ _ _ _ _ => ?_) RX.nil)); (focus (refine k1 false [] c82 ?_; refine k2 l2Low_ok ?_; (focus (refine rA [8, 13] (xO (fun _ _ _ _ _ => ?_) (xO (fun _ _ _ _ _ => ?_) RX.nil)); (focus (refine k1 false [] c82 ?_; refine k2 l2Low_ok ?_; (focus (refine rA [11, 13] (xO (fun _ _ _ _ _ => ?_) (xO (fun _ _ _ _ _ => ?_) RX.nil)); (focus (refine k1 false [] c82 ?_; refine k2 l2Low_ok ?_; refine rP 12 false fun _ => ?_; refine rO 13 fun _ _ _ _ _ => ?_; refine sX fun _ => ?_; refine rO 14 fun _ _ _ _ _ => ?_; refine sX fun _ => ?_; refine rE ?_)); rotate_left; (focus (refine sX fun _ => ?_; refine rO 11 fun _ _ _ _ _ => ?_; refine k1 false [] c82 ?_; refine k2 l2Low_ok ?_; refine rP 12 false fun _ => ?_; refine rO 14 fun _ _ _ _ _ => ?_; refine sX fun _ => ?_; refine rE ?_)); rotate_left)))); rotate_left 2; (focus (refine sX fun _ => ?_; refine rO 8 fun _ _ _ _ _ => ?_; refine k1 false [] c82 ?_; refine k2 l2Low_ok ?_; refine rO 11 fun _ _ _ _ _ => ?_; refine k1 false [] c82 ?_; refine k2 l2Low_ok ?_; refine rP 12 false fun _ => ?_; refine rO 14 fun _ _ _ _ _ => ?_; refine sX fun _ => ?_; refine rE ?_)); rotate_left)))); rotate_left 3; (focus (refine sX fun _ => ?_; refine rO 5 fun _ _ _ _ _ => ?_; refine k1 false [] c82 ?_; refine k2 l2Low_ok ?_; refine rO 8 fun _ _ _ _ _ => ?_; refine k1 false [] c82 ?_; refine k2 l2Low_ok ?_; refine rO 11 fun _ _ _ _ _ => ?_; refine k1 false [] c82 ?_; refine k2 l2Low_ok ?_; refine rP 12 false fun _ => ?_; refine rO 14 fun _ _ _ _ _ => ?_; refine sX fun _ => ?_; refine rE ?_)); rotate_left)))); rotate_left 4; (focus (refine sX fun _ => ?_; refine rO 2 fun _ _ _ _ _ => ?_; refine k1 false [] c82 ?_; refine k2 l2Low_ok ?_; refine rO 5 fun _ _ _ _ _ => ?_; refine k1 false [] c82 ?_; refine k2 l2Low_ok ?_; refine rO 8 fun _ _ _ _ _ => ?_; refine k1 false [] c82 ?_; refine k2 l2Low_ok ?_; refine rO 11 fun _ _ _ _ _ => ?_; refine k1 false [] c82 ?_; refine k2 l2Low_ok ?_; refine rP 12 false fun _ => ?_; refine rO 14 fun _ _ _ _ _ => ?_; refine sX fun _ => ?_; refine rE ?_)); rotate_left)); all_goals (refine Weak.to (by first | rfl | (simp only [virtAt_n, virt_n]; rfl)) ?_ ?_ (by exact dfe) <;> (first | exact to1 | (simp +decide only [go_sem]; (try simp (disch := first | exact ds | fail) only [go_sem, Nat.reduceAdd, Nat.reduceMul, Nat.reduceSub, Int.reduceToNat, Int.reduceNeg, Nat.reduceLeDiff, hD]); (try simp only [SV.pl.injEq, SV.sl.injEq, Value.int.injEq, Bk.c.injEq, encI_inj, true_and]); (try omega)))))
          clear e1 e2 e3 e4 ho1 ho2 ho3 ho4 hb hbl h1 h2 h3 h7
          by_cases hvv : superOk sup
          · have hv : true = true ↔ superOk sup := ⟨fun _ => hvv, fun _ => rfl⟩
            have em : sup.Gen.tmod 2 = sup.Gen % 2 := Int.tmod_eq_emod_of_nonneg (by have := hvv.1; omega)
            by_cases hg : sup.Gen % 2 = id
            · have em2 : (sup.Gen.tmod 2 != id) = false := by rw [em, hg]; simp
              by_cases hu : sup.Used ≤ (nq.length / 4 : Nat)
              · obtain rfl : so = true := hsv.mpr ⟨hvv, hg, hu⟩
                have em3 : decide (sup.Used > (nq.length / 4 : Nat)) = false := decide_eq_false (by omega)
                simp only [fSuper, if_true]
                have hD := And.intro (hq) (And.intro (em2) ((em3)))
                repeat' (first | apply W.seq | apply W.skip | apply W.region | apply W.block | apply N.code | apply N.blk | apply Sl.nil | apply W.exit | apply W.ret | apply E.hit | apply E.code | apply E.fin | refine zM ?_ | apply O.i | refine sP ?_ | refine sQ fun _ => ?_ | refine zF ?_ | refine zD ?_ | refine zg fun _ => ?_ | refine sX fun _ => ?_ | refine sPf ?_ | refine sPt ?_ | (refine k1 false [] c98 ?_; refine k2 hvp ?_) | (refine rD (id := 4) (fun b => b == 9) [14] ?_; refine rP 0 false fun _ => ?_; refine rP 1 false fun _ => ?_; refine rP 3 false fun _ => ?_; refine rP 4 false fun _ => ?_; refine rP 6 false fun _ => ?_; refine rP 7 false fun _ => ?_; refine rP 9 false fun _ => ?_; refine rP 10 false fun _ => ?_; (focus (refine rA [2, 13] (xO (fun _ _ _ _ _ => ?_) (xO (fun _ _ _ _ _ => ?_) RX.nil)); (focus (refine k1 false [] c82 ?_; refine k2 l2Low_ok ?_; (focus (refine rA [5, 13] (xO (fun _ _ _ _ _ => ?_) (xO (fun _ _ _ _ _ => ?_) RX.nil)); (focus (refine k1 false [] c82 ?_; refine k2 l2Low_ok ?_; (focus (refine rA [8, 13] (xO (fun _ _ _ _ _ => ?_) (xO (fun _ _ _ _ _ => ?_) RX.nil)); (focus (refine k1 false [] c82 ?_; refine k2 l2Low_ok ?_; (focus (refine rA [11, 13] (xO (fun _ _ _ _ _ => ?_) (xO (fun _ _ _ _ _ => ?_) RX.nil)); (focus (refine k1 false [] c82 ?_; refine k2 l2Low_ok ?_; refine rP 12 false fun _ => ?_; refine rO 13 fun _ _ _ _ _ => ?_; refine sX fun _ => ?_; refine rO 14 fun _ _ _ _ _ => ?_; refine sX fun _ => ?_; refine rE ?_)); rotate_left; (focus (refine sX fun _ => ?_; refine rO 11 fun _ _ _ _ _ => ?_; refine k1 false [] c82 ?_; refine k2 l2Low_ok ?_; refine rP 12 false fun _ => ?_; refine rO 14 fun _ _ _ _ _ => ?_; refine sX fun _ => ?_; refine rE ?_)); rotate_left)))); rotate_left 2; (focus (refine sX fun _ => ?_; refine rO 8 fun _ _ _ _ _ => ?_; refine k1 false [] c82 ?_; refine k2 l2Low_ok ?_; refine rO 11 fun _ _ _ _ _ => ?_; refine k1 false [] c82 ?_; refine k2 l2Low_ok ?_; refine rP 12 false fun _ => ?_; refine rO 14 fun _ _ _ _ _ => ?_; refine sX fun _ => ?_; refine rE ?_)); rotate_left)))); rotate_left 3; (focus (refine sX fun _ => ?_; refine rO 5 fun _ _ _ _ _ => ?_; refine k1 false [] c82 ?_; refine k2 l2Low_ok ?_; refine rO 8 fun _ _ _ _ _ => ?_; refine k1 false [] c82 ?_; refine k2 l2Low_ok ?_; refine rO 11 fun _ _ _ _ _ => ?_; refine k1 false [] c82 ?_; refine k2 l2Low_ok ?_; refine rP 12 false fun _ => ?_; refine rO 14 fun _ _ _ _ _ => ?_; refine sX fun _ => ?_; refine rE ?_)); rotate_left)))); rotate_left 4; (focus (refine sX fun _ => ?_; refine rO 2 fun _ _ _ _ _ => ?_; refine k1 false [] c82 ?_; refine k2 l2Low_ok ?_; refine rO 5 fun _ _ _ _ _ => ?_; refine k1 false [] c82 ?_; refine k2 l2Low_ok ?_; refine rO 8 fun _ _ _ _ _ => ?_; refine k1 false [] c82 ?_; refine k2 l2Low_ok ?_; refine rO 11 fun _ _ _ _ _ => ?_; refine k1 false [] c82 ?_; refine k2 l2Low_ok ?_; refine rP 12 false fun _ => ?_; refine rO 14 fun _ _ _ _ _ => ?_; refine sX fun _ => ?_; refine rE ?_)); rotate_left))) | (refine k1 false [] c123 ?_; refine k2 (l2SuperOk_ok hv) ?_) | refine zI ?_ ?_ | (intro hb; (try simp [-List.getD_eq_getElem?_getD] at hb); (try (exfalso; omega))))
                all_goals exact rT
              · obtain rfl : so = false := bfS hsv fun h => hu h.2.2
                have em3 : decide (sup.Used > (nq.length / 4 : Nat)) = true := decide_eq_true (by omega)
                simp only [fSuper, Bool.false_eq_true, if_false, super0]
                have hD := And.intro (hq) (And.intro (em2) ((em3)))
                repeat' (first | apply W.seq | apply W.skip | apply W.region | apply W.block | apply N.code | apply N.blk | apply Sl.nil | apply W.exit | apply W.ret | apply E.hit | apply E.code | apply E.fin | refine zM ?_ | apply O.i | refine sP ?_ | refine sQ fun _ => ?_ | refine zF ?_ | refine zD ?_ | refine zg fun _ => ?_ | refine sX fun _ => ?_ | refine sPf ?_ | refine sPt ?_ | (refine k1 false [] c98 ?_; refine k2 hvp ?_) | (refine rD (id := 4) (fun b => b == 9) [14] ?_; refine rP 0 false fun _ => ?_; refine rP 1 false fun _ => ?_; refine rP 3 false fun _ => ?_; refine rP 4 false fun _ => ?_; refine rP 6 false fun _ => ?_; refine rP 7 false fun _ => ?_; refine rP 9 false fun _ => ?_; refine rP 10 false fun _ => ?_; (focus (refine rA [2, 13] (xO (fun _ _ _ _ _ => ?_) (xO (fun _ _ _ _ _ => ?_) RX.nil)); (focus (refine k1 false [] c82 ?_; refine k2 l2Low_ok ?_; (focus (refine rA [5, 13] (xO (fun _ _ _ _ _ => ?_) (xO (fun _ _ _ _ _ => ?_) RX.nil)); (focus (refine k1 false [] c82 ?_; refine k2 l2Low_ok ?_; (focus (refine rA [8, 13] (xO (fun _ _ _ _ _ => ?_) (xO (fun _ _ _ _ _ => ?_) RX.nil)); (focus (refine k1 false [] c82 ?_; refine k2 l2Low_ok ?_; (focus (refine rA [11, 13] (xO (fun _ _ _ _ _ => ?_) (xO (fun _ _ _ _ _ => ?_) RX.nil)); (focus (refine k1 false [] c82 ?_; refine k2 l2Low_ok ?_; refine rP 12 false fun _ => ?_; refine rO 13 fun _ _ _ _ _ => ?_; refine sX fun _ => ?_; refine rO 14 fun _ _ _ _ _ => ?_; refine sX fun _ => ?_; refine rE ?_)); rotate_left; (focus (refine sX fun _ => ?_; refine rO 11 fun _ _ _ _ _ => ?_; refine k1 false [] c82 ?_; refine k2 l2Low_ok ?_; refine rP 12 false fun _ => ?_; refine rO 14 fun _ _ _ _ _ => ?_; refine sX fun _ => ?_; refine rE ?_)); rotate_left)))); rotate_left 2; (focus (refine sX fun _ => ?_; refine rO 8 fun _ _ _ _ _ => ?_; refine k1 false [] c82 ?_; refine k2 l2Low_ok ?_; refine rO 11 fun _ _ _ _ _ => ?_; refine k1 false [] c82 ?_; refine k2 l2Low_ok ?_; refine rP 12 false fun _ => ?_; refine rO 14 fun _ _ _ _ _ => ?_; refine sX fun _ => ?_; refine rE ?_)); rotate_left)))); rotate_left 3; (focus (refine sX fun _ => ?_; refine rO 5 fun _ _ _ _ _ => ?_; refine k1 false [] c82 ?_; refine k2 l2Low_ok ?_; refine rO 8 fun _ _ _ _ _ => ?_; refine k1 false [] c82 ?_; refine k2 l2Low_ok ?_; refine rO 11 fun _ _ _ _ _ => ?_; refine k1 false [] c82 ?_; refine k2 l2Low_ok ?_; refine rP 12 false fun _ => ?_; refine rO 14 fun _ _ _ _ _ => ?_; refine sX fun _ => ?_; refine rE ?_)); rotate_left)))); rotate_left 4; (focus (refine sX fun _ => ?_; refine rO 2 fun _ _ _ _ _ => ?_; refine k1 false [] c82 ?_; refine k2 l2Low_ok ?_; refine rO 5 fun _ _ _ _ _ => ?_; refine k1 false [] c82 ?_; refine k2 l2Low_ok ?_; refine rO 8 fun _ _ _ _ _ => ?_; refine k1 false [] c82 ?_; refine k2 l2Low_ok ?_; refine rO 11 fun _ _ _ _ _ => ?_; refine k1 false [] c82 ?_; refine k2 l2Low_ok ?_; refine rP 12 false fun _ => ?_; refine rO 14 fun _ _ _ _ _ => ?_; refine sX fun _ => ?_; refine rE ?_)); rotate_left))) | (refine k1 false [] c123 ?_; refine k2 (l2SuperOk_ok hv) ?_) | refine zI ?_ ?_ | (intro hb; (try simp [-List.getD_eq_getElem?_getD] at hb); (try (exfalso; omega))))
                all_goals exact rT
            · have em2 : (sup.Gen.tmod 2 != id) = true := by rw [em]; simp [hg]
              obtain rfl : so = false := bfS hsv fun h => hg h.2.1
              simp only [fSuper, Bool.false_eq_true, if_false, super0]
              have hD := And.intro (hq) ((em2))
              repeat' (first | apply W.seq | apply W.skip | apply W.region | apply W.block | apply N.code | apply N.blk | apply Sl.nil | apply W.exit | apply W.ret | apply E.hit | apply E.code | apply E.fin | refine zM ?_ | apply O.i | refine sP ?_ | refine sQ fun _ => ?_ | refine zF ?_ | refine zD ?_ | refine zg fun _ => ?_ | refine sX fun _ => ?_ | refine sPf ?_ | refine sPt ?_ | (refine k1 false [] c98 ?_; refine k2 hvp ?_) | (refine rD (id := 4) (fun b => b == 9) [14] ?_; refine rP 0 false fun _ => ?_; refine rP 1 false fun _ => ?_; refine rP 3 false fun _ => ?_; refine rP 4 false fun _ => ?_; refine rP 6 false fun _ => ?_; refine rP 7 false fun _ => ?_; refine rP 9 false fun _ => ?_; refine rP 10 false fun _ => ?_; (focus (refine rA [2, 13] (xO (fun _ _ _ _ _ => ?_) (xO (fun _ _ _ _ _ => ?_) RX.nil)); (focus (refine k1 false [] c82 ?_; refine k2 l2Low_ok ?_; (focus (refine rA [5, 13] (xO (fun _ _ _ _ _ => ?_) (xO (fun _ _ _ _ _ => ?_) RX.nil)); (focus (refine k1 false [] c82 ?_; refine k2 l2Low_ok ?_; (focus (refine rA [8, 13] (xO (fun _ _ _ _ _ => ?_) (xO (fun _ _ _ _ _ => ?_) RX.nil)); (focus (refine k1 false [] c82 ?_; refine k2 l2Low_ok ?_; (focus (refine rA [11, 13] (xO (fun _ _ _ _ _ => ?_) (xO (fun _ _ _ _ _ => ?_) RX.nil)); (focus (refine k1 false [] c82 ?_; refine k2 l2Low_ok ?_; refine rP 12 false fun _ => ?_; refine rO 13 fun _ _ _ _ _ => ?_; refine sX fun _ => ?_; refine rO 14 fun _ _ _ _ _ => ?_; refine sX fun _ => ?_; refine rE ?_)); rotate_left; (focus (refine sX fun _ => ?_; refine rO 11 fun _ _ _ _ _ => ?_; refine k1 false [] c82 ?_; refine k2 l2Low_ok ?_; refine rP 12 false fun _ => ?_; refine rO 14 fun _ _ _ _ _ => ?_; refine sX fun _ => ?_; refine rE ?_)); rotate_left)))); rotate_left 2; (focus (refine sX fun _ => ?_; refine rO 8 fun _ _ _ _ _ => ?_; refine k1 false [] c82 ?_; refine k2 l2Low_ok ?_; refine rO 11 fun _ _ _ _ _ => ?_; refine k1 false [] c82 ?_; refine k2 l2Low_ok ?_; refine rP 12 false fun _ => ?_; refine rO 14 fun _ _ _ _ _ => ?_; refine sX fun _ => ?_; refine rE ?_)); rotate_left)))); rotate_left 3; (focus (refine sX fun _ => ?_; refine rO 5 fun _ _ _ _ _ => ?_; refine k1 false [] c82 ?_; refine k2 l2Low_ok ?_; refine rO 8 fun _ _ _ _ _ => ?_; refine k1 false [] c82 ?_; refine k2 l2Low_ok ?_; refine rO 11 fun _ _ _ _ _ => ?_; refine k1 false [] c82 ?_; refine k2 l2Low_ok ?_; refine rP 12 false fun _ => ?_; refine rO 14 fun _ _ _ _ _ => ?_; refine sX fun _ => ?_; refine rE ?_)); rotate_left)))); rotate_left 4; (focus (refine sX fun _ => ?_; refine rO 2 fun _ _ _ _ _ => ?_; refine k1 false [] c82 ?_; refine k2 l2Low_ok ?_; refine rO 5 fun _ _ _ _ _ => ?_; refine k1 false [] c82 ?_; refine k2 l2Low_ok ?_; refine rO 8 fun _ _ _ _ _ => ?_; refine k1 false [] c82 ?_; refine k2 l2Low_ok ?_; refine rO 11 fun _ _ _ _ _ => ?_; refine k1 false [] c82 ?_; refine k2 l2Low_ok ?_; refine rP 12 false fun _ => ?_; refine rO 14 fun _ _ _ _ _ => ?_; refine sX fun _ => ?_; refine rE ?_)); rotate_left))) | (refine k1 false [] c123 ?_; refine k2 (l2SuperOk_ok hv) ?_) | refine zI ?_ ?_ | (intro hb; (try simp [-List.getD_eq_getElem?_getD] at hb); (try (exfalso; omega))))
              all_goals exact rT
          · have hv : false = true ↔ superOk sup := ⟨fun e => Bool.noConfusion e, fun e => absurd e hvv⟩
            obtain rfl : so = false := bfS hsv fun h => hvv h.1
            simp only [fSuper, Bool.false_eq_true, if_false, super0]
            have hD := (hq)
            repeat' (first | apply W.seq | apply W.skip | apply W.region | apply W.block | apply N.code | apply N.blk | apply Sl.nil | apply W.exit | apply W.ret | apply E.hit | apply E.code | apply E.fin | refine zM ?_ | apply O.i | refine sP ?_ | refine sQ fun _ => ?_ | refine zF ?_ | refine zD ?_ | refine zg fun _ => ?_ | refine sX fun _ => ?_ | refine sPf ?_ | refine sPt ?_ | (refine k1 false [] c98 ?_; refine k2 hvp ?_) | (refine rD (id := 4) (fun b => b == 9) [14] ?_; refine rP 0 false fun _ => ?_; refine rP 1 false fun _ => ?_; refine rP 3 false fun _ => ?_; refine rP 4 false fun _ => ?_; refine rP 6 false fun _ => ?_; refine rP 7 false fun _ => ?_; refine rP 9 false fun _ => ?_; refine rP 10 false fun _ => ?_; (focus (refine rA [2, 13] (xO (fun _ _ _ _ _ => ?_) (xO (fun _ _ _ _ _ => ?_) RX.nil)); (focus (refine k1 false [] c82 ?_; refine k2 l2Low_ok ?_; (focus (refine rA [5, 13] (xO (fun _ _ _ _ _ => ?_) (xO (fun _ _ _ _ _ => ?_) RX.nil)); (focus (refine k1 false [] c82 ?_; refine k2 l2Low_ok ?_; (focus (refine rA [8, 13] (xO (fun _ _ _ _ _ => ?_) (xO (fun _ _ _ _ _ => ?_) RX.nil)); (focus (refine k1 false [] c82 ?_; refine k2 l2Low_ok ?_; (focus (refine rA [11, 13] (xO (fun _ _ _ _ _ => ?_) (xO (fun _ _ _ _ _ => ?_) RX.nil)); (focus (refine k1 false [] c82 ?_; refine k2 l2Low_ok ?_; refine rP 12 false fun _ => ?_; refine rO 13 fun _ _ _ _ _ => ?_; refine sX fun _ => ?_; refine rO 14 fun _ _ _ _ _ => ?_; refine sX fun _ => ?_; refine rE ?_)); rotate_left; (focus (refine sX fun _ => ?_; refine rO 11 fun _ _ _ _ _ => ?_; refine k1 false [] c82 ?_; refine k2 l2Low_ok ?_; refine rP 12 false fun _ => ?_; refine rO 14 fun _ _ _ _ _ => ?_; refine sX fun _ => ?_; refine rE ?_)); rotate_left)))); rotate_left 2; (focus (refine sX fun _ => ?_; refine rO 8 fun _ _ _ _ _ => ?_; refine k1 false [] c82 ?_; refine k2 l2Low_ok ?_; refine rO 11 fun _ _ _ _ _ => ?_; refine k1 false [] c82 ?_; refine k2 l2Low_ok ?_; refine rP 12 false fun _ => ?_; refine rO 14 fun _ _ _ _ _ => ?_; refine sX fun _ => ?_; refine rE ?_)); rotate_left)))); rotate_left 3; (focus (refine sX fun _ => ?_; refine rO 5 fun _ _ _ _ _ => ?_; refine k1 false [] c82 ?_; refine k2 l2Low_ok ?_; refine rO 8 fun _ _ _ _ _ => ?_; refine k1 false [] c82 ?_; refine k2 l2Low_ok ?_; refine rO 11 fun _ _ _ _ _ => ?_; refine k1 false [] c82 ?_; refine k2 l2Low_ok ?_; refine rP 12 false fun _ => ?_; refine rO 14 fun _ _ _ _ _ => ?_; refine sX fun _ => ?_; refine rE ?_)); rotate_left)))); rotate_left 4; (focus (refine sX fun _ => ?_; refine rO 2 fun _ _ _ _ _ => ?_; refine k1 false [] c82 ?_; refine k2 l2Low_ok ?_; refine rO 5 fun _ _ _ _ _ => ?_; refine k1 false [] c82 ?_; refine k2 l2Low_ok ?_; refine rO 8 fun _ _ _ _ _ => ?_; refine k1 false [] c82 ?_; refine k2 l2Low_ok ?_; refine rO 11 fun _ _ _ _ _ => ?_; refine k1 false [] c82 ?_; refine k2 l2Low_ok ?_; refine rP 12 false fun _ => ?_; refine rO 14 fun _ _ _ _ _ => ?_; refine sX fun _ => ?_; refine rE ?_)); rotate_left))) | (refine k1 false [] c123 ?_; refine k2 (l2SuperOk_ok hv) ?_) | refine zI ?_ ?_ | (intro hb; (try simp [-List.getD_eq_getElem?_getD] at hb); (try (exfalso; omega))))
            all_goals exact rT
        · obtain rfl : so = false := bfS hso fun h => h3 h.2.2.1
          simp only [fSuper, Bool.false_eq_true, if_false, super0]
          have hD := (hq)
          refine sT 69 [.cell 4 51, .tmp 5] Try.func102 fun w0 S0 ρ0 φ0 => ?_
          repeat' (first | apply W.seq | apply W.skip | refine W.region (id := 0) ?_ | refine W.region (id := 1) ?_ | refine W.region (id := 2) ?_ | refine W.region (id := 3) ?_ | refine W.region (id := 5) ?_ | refine W.region (id := 6) ?_ | refine W.region (id := 7) ?_ | apply W.block | apply N.code | apply N.blk | apply Sl.nil | apply W.exit | apply W.ret | apply E.hit | apply E.code | apply E.fin | refine zM ?_ | apply O.i | refine sP ?_ | refine sQ fun _ => ?_ | refine zF ?_ | refine zD ?_ | refine zg fun _ => ?_ | refine sX fun _ => ?_ | refine sPf ?_ | refine sPt ?_ | (refine k1 false [] c98 ?_; refine k2 hvp ?_) | (refine k1 false [] c123 ?_; refine k2 (l2SuperOk_ok hv) ?_) | refine zI ?_ ?_ | (intro hb; (try simp [-List.getD_eq_getElem?_getD] at hb); (try (exfalso; omega))))
          exact rT
      · obtain rfl : so = false := bfS hso fun h => h2 h.2.1
        simp only [fSuper, Bool.false_eq_true, if_false, super0]
        have hq1 : (kq != 1) = false := by rw [h1]; rfl
        have hq2 : ((bq.length : Int) != 20) = true := by simp; omega
        have hD := And.intro (hq1) ((hq2))
        have hD := And.intro (hq1) ((hq2))
        refine sT 69 [.cell 4 51, .tmp 5] Try.func102 fun w0 S0 ρ0 φ0 => ?_
        repeat' (first | apply W.seq | apply W.skip | refine W.region (id := 0) ?_ | refine W.region (id := 1) ?_ | refine W.region (id := 2) ?_ | refine W.region (id := 3) ?_ | refine W.region (id := 5) ?_ | refine W.region (id := 6) ?_ | refine W.region (id := 7) ?_ | apply W.block | apply N.code | apply N.blk | apply Sl.nil | apply W.exit | apply W.ret | apply E.hit | apply E.code | apply E.fin | refine zM ?_ | apply O.i | refine sP ?_ | refine sQ fun _ => ?_ | refine zF ?_ | refine zD ?_ | refine zg fun _ => ?_ | refine sX fun _ => ?_ | refine sPf ?_ | refine sPt ?_ | (refine k1 false [] c98 ?_; refine k2 hvp ?_) | (refine k1 false [] c123 ?_; refine k2 (l2SuperOk_ok hv) ?_) | refine zI ?_ ?_ | (intro hb; (try simp [-List.getD_eq_getElem?_getD] at hb); (try (exfalso; omega))))
        exact rT
    · obtain rfl : so = false := bfS hso fun h => h1 h.1
      simp only [fSuper, Bool.false_eq_true, if_false, super0]
      have hq1 : (kq != 1) = true := by simp [h1]
      have hD := (hq1)
      have hD := (hq1)
      refine sT 69 [.cell 4 51, .tmp 5] Try.func102 fun w0 S0 ρ0 φ0 => ?_
      repeat' (first | apply W.seq | apply W.skip | refine W.region (id := 0) ?_ | refine W.region (id := 1) ?_ | refine W.region (id := 2) ?_ | refine W.region (id := 3) ?_ | refine W.region (id := 5) ?_ | refine W.region (id := 6) ?_ | refine W.region (id := 7) ?_ | apply W.block | apply N.code | apply N.blk | apply Sl.nil | apply W.exit | apply W.ret | apply E.hit | apply E.code | apply E.fin | refine zM ?_ | apply O.i | refine sP ?_ | refine sQ fun _ => ?_ | refine zF ?_ | refine zD ?_ | refine zg fun _ => ?_ | refine sX fun _ => ?_ | refine sPf ?_ | refine sPt ?_ | (refine k1 false [] c98 ?_; refine k2 hvp ?_) | (refine k1 false [] c123 ?_; refine k2 (l2SuperOk_ok hv) ?_) | refine zI ?_ ?_ | (intro hb; (try simp [-List.getD_eq_getElem?_getD] at hb); (try (exfalso; omega))))
      exact rT
end Go.Proofs.Ytfmbifnbmlhhjaa

