import Derived.Test.YtnancifnodbkdaaD6
import Derived.Test.YtnancifnodbkdaaE3
namespace Go.Proofs.Ytnancifnodbkdaa
open Go Go.Vcg Go.IntWalk
set_option maxRecDepth 100000
set_option maxHeartbeats 20000000
set_option linter.unusedSimpArgs false
set_option linter.unusedVariables false
theorem sumN_ctOp (xs : List OpA) : sumN ctOp xs ≤ 2 * xs.length + sumN totOp xs := by
  induction xs with
  | nil => simp [sumN]
  | cons x xs ih =>
    have e : ctOp x = 1 + 1 + totOp x := rfl
    simp only [sumN, List.length_cons]
    omega
theorem lawPlay_ok {a : DiskA} {ops : List OpA} {m : Int} (h : lnDisk a := by exact pm) (h' : lnOpS ops := by exact pm) : TSpec Try.prog 8 [] [.ag (fDisk a), .pd (encL fOp ops), .pl (.int .i64 m)] false [] (.pl (.bool true)) := by
  obtain ⟨db, hPd⟩ := decP (diskOk a ∧ ops.length ≤ 5000)
  obtain ⟨n, hN⟩ := playN_ex a ops m
  have hct := totDisk_ct a
  have htO : totOpS ops = ops.length + sumN totOp ops := rfl
  have hcO := sumN_ctOp ops
  obtain ⟨c, hc⟩ : ∃ c, c = if db then playA a ops n else a := ⟨_, rfl⟩
  obtain ⟨rb, hrb⟩ : ∃ rb : Int, rb = if db then (n : Int) else 0 := ⟨_, rfl⟩
  have hctc := totDisk_ct c
  by_cases htl : totDisk a < 2 ^ 40 ∧ totOpS ops < 2 ^ 40
  · obtain ⟨htl, hol⟩ := htl
    have hsp := spPlay_ok htl hol hPd hN
    have him := imPlay_ok htl hol hPd hN
    have htc : totDisk c < 2 ^ 40 := by
      rw [hc]
      split
      · rename_i e
        have := diskOk_tot (playA_ok (hPd.mp e).1 hN.ok n (Nat.le_refl _))
        omega
      · exact htl
    rw [← hc, ← hrb] at hsp him
    simp only [fDisk, oDisk] at hsp him ⊢
    have hD := @decide_true
    refine sT 116 [.tmp 6] Try.func8 fun w0 S0 ρ0 φ0 => ?_
    repeat' (first | apply W.seq | apply W.skip | apply W.region | apply W.block | apply N.code | apply N.blk | apply Sl.nil | apply W.exit | apply W.ret | apply E.hit | apply E.code | apply E.fin | refine zM ?_ | apply O.i | refine sP ?_ | refine sQ fun _ => ?_ | refine zg fun _ => ?_ | refine sX fun _ => ?_ | (refine k1 false [] c25 ?_; refine k2 (szDisk_ok (a := a)) ?_) | (refine k1 false [] c43 ?_; refine k2 (szOpS_ok (xs := ops)) ?_) | (refine k1 false [] c27 ?_; refine k2 (toDisk_ok (a := a)) ?_) | (refine k1 false [] c45 ?_; refine k2 (toOpS_ok (xs := ops)) ?_) | (refine k1 false [] c44 ?_; refine k2 hsp ?_) | (refine k1 false [] c46 ?_; refine k2 him ?_) | (refine k1 false [] c29 ?_; (first | refine k2 (eqDisk_ok (a := c) (b := c)) ?_ | refine k2 (eqDisk_ok (a := a) (b := a)) ?_)) | (focus (refine zs ?_ ?_; all_goals (intro hg; first | (exfalso; ((try simp [-List.getD_eq_getElem?_getD] at hg) <;> omega)) | ((first | subst hg | rw [hg] | skip); (focus (refine zj ?_ ?_; all_goals (intro hb; first | (exfalso; revert hb; decide) | ((try refine sA 77 ?_); (try refine sA 78 ?_); refine k1 false [] c29 ?_; (first | refine k2 (eqDisk_ok (a := c) (b := c)) ?_ | refine k2 (eqDisk_ok (a := a) (b := a)) ?_)) | refine Sl.weak (Weak.refl _ _) ?_))))))) | (refine rD (id := 14) anyW [] ?_; refine rP 0 true fun _ => ?_; refine rP 1 true fun _ => ?_; refine rO 2 fun _ _ _ _ _ => ?_; refine k1 false [] c27 ?_; refine k2 (toDisk_ok (a := a)) ?_; refine rO 3 fun _ _ _ _ _ => ?_; refine k1 false [] c29 ?_; (first | refine k2 (eqDisk_ok (a := c) (b := c)) ?_ | refine k2 (eqDisk_ok (a := a) (b := a)) ?_); refine rP 4 false fun _ => ?_; refine rE ?_) | (refine k1 false [] c47 ?_; refine k2 (eqOpS_ok (xs := ops) (ys := ops)) ?_) | (refine k1 false [(1000000, 0, some 0), (1000001, 0, some 1)] c30 ?_; (first | refine k2 (markDisk_ok (a := a)) ?_ | refine k2 (markDisk_ok (a := c)) ?_)) | (refine k1 false [(1000000, 0, none)] c48 ?_; refine k2 (markOpS_ok (xs := ops)) ?_) | (refine k1 false [] c42 ?_; refine k2 (heldDisk_ok (a := c)) ?_) | refine zI ?_ ?_ | (intro hb; (try simp [-List.getD_eq_getElem?_getD] at hb); (try (exfalso; omega))))
    all_goals exact rT
  · simp only [fDisk]
    have hD := @decide_true
    refine sT 116 [.tmp 6] Try.func8 fun w0 S0 ρ0 φ0 => ?_
    repeat' (first | apply W.seq | apply W.skip | apply W.region | apply W.block | apply N.code | apply N.blk | apply Sl.nil | apply W.exit | apply W.ret | apply E.hit | apply E.code | apply E.fin | refine zM ?_ | apply O.i | refine sP ?_ | refine sQ fun _ => ?_ | refine zg fun _ => ?_ | refine sX fun _ => ?_ | (refine k1 false [] c25 ?_; refine k2 (szDisk_ok (a := a)) ?_) | (refine k1 false [] c43 ?_; refine k2 (szOpS_ok (xs := ops)) ?_) | (refine k1 false [] c27 ?_; refine k2 (toDisk_ok (a := a)) ?_) | (refine k1 false [] c45 ?_; refine k2 (toOpS_ok (xs := ops)) ?_) | (refine k1 false [] c44 ?_; refine k2 hsp ?_) | (refine k1 false [] c46 ?_; refine k2 him ?_) | (refine k1 false [] c29 ?_; (first | refine k2 (eqDisk_ok (a := c) (b := c)) ?_ | refine k2 (eqDisk_ok (a := a) (b := a)) ?_)) | (focus (refine zs ?_ ?_; all_goals (intro hg; first | (exfalso; ((try simp [-List.getD_eq_getElem?_getD] at hg) <;> omega)) | ((first | subst hg | rw [hg] | skip); (focus (refine zj ?_ ?_; all_goals (intro hb; first | (exfalso; revert hb; decide) | ((try refine sA 77 ?_); (try refine sA 78 ?_); refine k1 false [] c29 ?_; (first | refine k2 (eqDisk_ok (a := c) (b := c)) ?_ | refine k2 (eqDisk_ok (a := a) (b := a)) ?_)) | refine Sl.weak (Weak.refl _ _) ?_))))))) | (refine rD (id := 14) anyW [] ?_; refine rP 0 true fun _ => ?_; refine rP 1 true fun _ => ?_; refine rO 2 fun _ _ _ _ _ => ?_; refine k1 false [] c27 ?_; refine k2 (toDisk_ok (a := a)) ?_; refine rO 3 fun _ _ _ _ _ => ?_; refine k1 false [] c29 ?_; (first | refine k2 (eqDisk_ok (a := c) (b := c)) ?_ | refine k2 (eqDisk_ok (a := a) (b := a)) ?_); refine rP 4 false fun _ => ?_; refine rE ?_) | (refine k1 false [] c47 ?_; refine k2 (eqOpS_ok (xs := ops) (ys := ops)) ?_) | (refine k1 false [(1000000, 0, some 0), (1000001, 0, some 1)] c30 ?_; (first | refine k2 (markDisk_ok (a := a)) ?_ | refine k2 (markDisk_ok (a := c)) ?_)) | (refine k1 false [(1000000, 0, none)] c48 ?_; refine k2 (markOpS_ok (xs := ops)) ?_) | (refine k1 false [] c42 ?_; refine k2 (heldDisk_ok (a := c)) ?_) | refine zI ?_ ?_ | (intro hb; (try simp [-List.getD_eq_getElem?_getD] at hb); (try (exfalso; omega))))
    all_goals exact rT
end Go.Proofs.Ytnancifnodbkdaa

