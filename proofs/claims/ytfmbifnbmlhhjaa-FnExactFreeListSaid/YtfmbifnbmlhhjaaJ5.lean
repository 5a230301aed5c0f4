import Derived.Test.YtfmbifnbmlhhjaaJ4
import Derived.Test.YtfmbifnbmlhhjaaM2
import Derived.Test.YtfmbifnbmlhhjaaUc
namespace Go.Proofs.Ytfmbifnbmlhhjaa
open Go Go.Vcg Go.IntWalk
set_option maxRecDepth 100000
set_option maxHeartbeats 20000000
set_option linter.unusedSimpArgs false
set_option linter.unusedVariables false
theorem c8 : CallOk Try.prog 8 := ⟨_, Try.func8, rfl, by kernel_rfl⟩
theorem flR_len (a : DiskA) (s : Int) : (flR a s).1.length ≤ 59 * a.Safe.length ∧ (flR a s).2.1.length ≤ a.Safe.length := by
  by_cases h : ∃ n, flEnd a s n
  · obtain ⟨n, hn⟩ := h
    rw [flR_end hn]
    have h1 := flF_len hn.1
    have h2 := fl_few hn.1
    have h3 := flO_len a s n
    constructor
    · show (flF a s n).length ≤ _
      omega
    · show (flO a s n).length ≤ _
      omega
  · unfold flR
    rw [dif_neg h]
    exact ⟨Nat.zero_le _, Nat.zero_le _⟩
theorem lawFreeList_ok {a : DiskA} {s : SuperA} (h : lnDisk a := by exact pm) (ho : okDisk a := by exact pm) : TSpec Try.prog 8 [] [.ag (fDisk a), .ag (fSuper s)] false [] (.pl (.bool true)) := by
  obtain ⟨db, hP⟩ : ∃ b : Bool, b = true ↔ diskOk a := by
    by_cases e : diskOk a
    · exact ⟨true, by simp [e]⟩
    · exact ⟨false, by simp [e]⟩
  have hct := totDisk_ct a
  obtain ⟨fr, hfr⟩ : ∃ x, x = if db then (flR a s.Free).1 else [] := ⟨_, rfl⟩
  obtain ⟨ow, how⟩ : ∃ x, x = if db then (flR a s.Free).2.1 else [] := ⟨_, rfl⟩
  obtain ⟨rb, hrb⟩ : ∃ x, x = if db then (flR a s.Free).2.2 else false := ⟨_, rfl⟩
  have hl := flR_len a s.Free
  have hl1 : fr.length ≤ 59 * 4096 := by
    rw [hfr]
    split
    · rename_i e
      have := (hP.mp e).2.1
      omega
    · simp
  have hl2 : ow.length ≤ 4096 := by
    rw [how]
    split
    · rename_i e
      have := (hP.mp e).2.1
      omega
    · simp
  by_cases htl : totDisk a < 2 ^ 40
  · have hsp := spFreeList_ok (s := s) htl hP ho
    have him := imFreeList_ok (s := s) htl hP ho
    rw [← hfr, ← how, ← hrb] at hsp him
    simp only [fDisk, fSuper] at hsp him ⊢
    clear hfr how hrb hl
    have hD := @decide_true
    refine sT 128 [.tmp 4] Try.func8 fun w0 S0 ρ0 φ0 => ?_
    repeat' (first | apply W.seq | apply W.skip | apply W.region | apply W.block | apply N.code | apply N.blk | apply Sl.nil | apply W.exit | apply W.ret | apply E.hit | apply E.code | apply E.fin | refine zM ?_ | apply O.i | refine sP ?_ | refine sQ fun _ => ?_ | refine zg fun _ => ?_ | refine sX fun _ => ?_ | (refine k1 false [] c24 ?_; refine k2 (szDisk_ok (a := a)) ?_) | (refine rD (id := 5) anyW [] ?_; refine rP 0 true fun _ => ?_; refine rP 2 true fun _ => ?_; refine rO 1 fun _ _ _ _ _ => ?_; refine k1 false [] c26 ?_; refine k2 (toDisk_ok (a := a)) ?_; refine rO 3 fun _ _ _ _ _ => ?_; refine k1 false [] c43 ?_; refine k2 (toSuper_ok (a := s)) ?_; refine rO 4 fun _ _ _ _ _ => ?_; refine k1 false [] c42 ?_; refine k2 hsp ?_; refine rP 5 false fun _ => ?_; refine rP 6 false fun _ => ?_; refine rP 7 false fun _ => ?_; refine rP 8 false fun _ => ?_; refine rP 9 false fun _ => ?_; refine rP 10 false fun _ => ?_; refine rP 11 false fun _ => ?_; refine rE ?_) | (refine k1 false [] c26 ?_; refine k2 (toDisk_ok (a := a)) ?_) | (refine rD (id := 7) anyW [] ?_; refine rP 0 true fun _ => ?_; refine rP 1 true fun _ => ?_; refine rO 2 fun _ _ _ _ _ => ?_; refine k1 false [] c43 ?_; refine k2 (toSuper_ok (a := s)) ?_; refine rO 3 fun _ _ _ _ _ => ?_; refine k1 false [] c44 ?_; refine k2 him ?_; refine rP 4 false fun _ => ?_; refine rP 5 false fun _ => ?_; refine rP 6 false fun _ => ?_; refine rP 7 false fun _ => ?_; refine rP 8 false fun _ => ?_; refine rP 9 false fun _ => ?_; refine rP 10 false fun _ => ?_; refine rE ?_) | (refine k1 false [] c45 ?_; refine k2 eqIntS_ok ?_) | (focus (refine zs ?_ ?_; all_goals (intro hg; first | (exfalso; ((try simp [-List.getD_eq_getElem?_getD] at hg) <;> omega)) | ((first | subst hg | rw [hg] | skip); (focus (refine zj ?_ ?_; all_goals (intro hb; first | (exfalso; revert hb; decide) | ((try refine sA 118 ?_); (try refine sA 119 ?_); refine k1 false [] c45 ?_; refine k2 eqIntS_ok ?_) | refine Sl.weak (Weak.refl _ _) ?_))))))) | (focus (refine zs ?_ ?_; all_goals (intro hg; first | (exfalso; ((try simp [-List.getD_eq_getElem?_getD] at hg) <;> omega)) | ((first | subst hg | rw [hg] | skip); (focus (refine zj ?_ ?_; all_goals (intro hb; first | (exfalso; revert hb; decide) | ((try refine sA 48 ?_); (try refine sA 49 ?_); refine k1 false [] c45 ?_; refine k2 eqIntS_ok ?_) | refine Sl.weak (Weak.refl _ _) ?_))))))) | (focus (refine zs ?_ ?_; all_goals (intro hg; first | (exfalso; ((try simp [-List.getD_eq_getElem?_getD] at hg) <;> omega)) | ((first | subst hg | rw [hg] | skip); (focus (refine zj ?_ ?_; all_goals (intro hb; first | (exfalso; revert hb; decide) | ((try refine sA 69 ?_); (try refine sA 70 ?_); refine k1 false [] c45 ?_; refine k2 eqIntS_ok ?_) | refine Sl.weak (Weak.refl _ _) ?_))))))) | (focus (refine zs ?_ ?_; all_goals (intro hg; first | (exfalso; ((try simp [-List.getD_eq_getElem?_getD] at hg) <;> omega)) | ((first | subst hg | rw [hg] | skip); (focus (refine zj ?_ ?_; all_goals (intro hb; first | (exfalso; revert hb; decide) | ((try refine sA 75 ?_); (try refine sA 76 ?_); refine k1 false [] c45 ?_; refine k2 eqIntS_ok ?_) | refine Sl.weak (Weak.refl _ _) ?_))))))) | (refine rD (id := 10) anyW [] ?_; refine rP 0 true fun _ => ?_; refine rP 1 true fun _ => ?_; refine rO 2 fun _ _ _ _ _ => ?_; refine k1 false [] c26 ?_; refine k2 (toDisk_ok (a := a)) ?_; refine rO 3 fun _ _ _ _ _ => ?_; refine k1 false [] c21 ?_; refine k2 (eqDisk_ok (a := a) (b := a)) ?_; refine rP 4 false fun _ => ?_; refine rE ?_) | (refine k1 false [(1000000, 0, some 0), (1000001, 0, some 1)] c22 ?_; refine k2 (markDisk_ok (a := a)) ?_) | (refine k1 false [(1000000, 0, none)] c46 ?_; refine k2 markIntS_ok ?_) | (refine k1 false [] c47 ?_; refine k2 heldIntS_ok ?_) | (refine rD (id := 28) anyW [] ?_; refine rP 0 true fun _ => ?_; refine rP 2 true fun _ => ?_; refine rO 1 fun _ _ _ _ _ => ?_; refine k1 false [] c26 ?_; refine k2 (toDisk_ok (a := a)) ?_; refine rO 3 fun _ _ _ _ _ => ?_; refine k1 false [] c43 ?_; refine k2 (toSuper_ok (a := s)) ?_; refine rO 4 fun _ _ _ _ _ => ?_; refine k1 false [] c44 ?_; refine k2 him ?_; refine rP 5 false fun _ => ?_; refine rP 6 false fun _ => ?_; refine rP 7 false fun _ => ?_; refine rP 8 false fun _ => ?_; refine rP 9 false fun _ => ?_; refine rP 10 false fun _ => ?_; refine rP 11 false fun _ => ?_; refine rE ?_) | refine zI ?_ ?_ | (intro hb; (try simp [-List.getD_eq_getElem?_getD] at hb); (try (exfalso; omega))))
    all_goals exact rT
  · have hsp := hP
    have him := hP
    simp only [fDisk, fSuper]
    clear hfr how hrb hl
    have hD := @decide_true
    refine sT 128 [.tmp 4] Try.func8 fun w0 S0 ρ0 φ0 => ?_
    repeat' (first | apply W.seq | apply W.skip | apply W.region | apply W.block | apply N.code | apply N.blk | apply Sl.nil | apply W.exit | apply W.ret | apply E.hit | apply E.code | apply E.fin | refine zM ?_ | apply O.i | refine sP ?_ | refine sQ fun _ => ?_ | refine zg fun _ => ?_ | refine sX fun _ => ?_ | (refine k1 false [] c24 ?_; refine k2 (szDisk_ok (a := a)) ?_) | (refine rD (id := 5) anyW [] ?_; refine rP 0 true fun _ => ?_; refine rP 2 true fun _ => ?_; refine rO 1 fun _ _ _ _ _ => ?_; refine k1 false [] c26 ?_; refine k2 (toDisk_ok (a := a)) ?_; refine rO 3 fun _ _ _ _ _ => ?_; refine k1 false [] c43 ?_; refine k2 (toSuper_ok (a := s)) ?_; refine rO 4 fun _ _ _ _ _ => ?_; refine k1 false [] c42 ?_; refine k2 hsp ?_; refine rP 5 false fun _ => ?_; refine rP 6 false fun _ => ?_; refine rP 7 false fun _ => ?_; refine rP 8 false fun _ => ?_; refine rP 9 false fun _ => ?_; refine rP 10 false fun _ => ?_; refine rP 11 false fun _ => ?_; refine rE ?_) | (refine k1 false [] c26 ?_; refine k2 (toDisk_ok (a := a)) ?_) | (refine rD (id := 7) anyW [] ?_; refine rP 0 true fun _ => ?_; refine rP 1 true fun _ => ?_; refine rO 2 fun _ _ _ _ _ => ?_; refine k1 false [] c43 ?_; refine k2 (toSuper_ok (a := s)) ?_; refine rO 3 fun _ _ _ _ _ => ?_; refine k1 false [] c44 ?_; refine k2 him ?_; refine rP 4 false fun _ => ?_; refine rP 5 false fun _ => ?_; refine rP 6 false fun _ => ?_; refine rP 7 false fun _ => ?_; refine rP 8 false fun _ => ?_; refine rP 9 false fun _ => ?_; refine rP 10 false fun _ => ?_; refine rE ?_) | (refine k1 false [] c45 ?_; refine k2 eqIntS_ok ?_) | (focus (refine zs ?_ ?_; all_goals (intro hg; first | (exfalso; ((try simp [-List.getD_eq_getElem?_getD] at hg) <;> omega)) | ((first | subst hg | rw [hg] | skip); (focus (refine zj ?_ ?_; all_goals (intro hb; first | (exfalso; revert hb; decide) | ((try refine sA 118 ?_); (try refine sA 119 ?_); refine k1 false [] c45 ?_; refine k2 eqIntS_ok ?_) | refine Sl.weak (Weak.refl _ _) ?_))))))) | (focus (refine zs ?_ ?_; all_goals (intro hg; first | (exfalso; ((try simp [-List.getD_eq_getElem?_getD] at hg) <;> omega)) | ((first | subst hg | rw [hg] | skip); (focus (refine zj ?_ ?_; all_goals (intro hb; first | (exfalso; revert hb; decide) | ((try refine sA 48 ?_); (try refine sA 49 ?_); refine k1 false [] c45 ?_; refine k2 eqIntS_ok ?_) | refine Sl.weak (Weak.refl _ _) ?_))))))) | (focus (refine zs ?_ ?_; all_goals (intro hg; first | (exfalso; ((try simp [-List.getD_eq_getElem?_getD] at hg) <;> omega)) | ((first | subst hg | rw [hg] | skip); (focus (refine zj ?_ ?_; all_goals (intro hb; first | (exfalso; revert hb; decide) | ((try refine sA 69 ?_); (try refine sA 70 ?_); refine k1 false [] c45 ?_; refine k2 eqIntS_ok ?_) | refine Sl.weak (Weak.refl _ _) ?_))))))) | (focus (refine zs ?_ ?_; all_goals (intro hg; first | (exfalso; ((try simp [-List.getD_eq_getElem?_getD] at hg) <;> omega)) | ((first | subst hg | rw [hg] | skip); (focus (refine zj ?_ ?_; all_goals (intro hb; first | (exfalso; revert hb; decide) | ((try refine sA 75 ?_); (try refine sA 76 ?_); refine k1 false [] c45 ?_; refine k2 eqIntS_ok ?_) | refine Sl.weak (Weak.refl _ _) ?_))))))) | (refine rD (id := 10) anyW [] ?_; refine rP 0 true fun _ => ?_; refine rP 1 true fun _ => ?_; refine rO 2 fun _ _ _ _ _ => ?_; refine k1 false [] c26 ?_; refine k2 (toDisk_ok (a := a)) ?_; refine rO 3 fun _ _ _ _ _ => ?_; refine k1 false [] c21 ?_; refine k2 (eqDisk_ok (a := a) (b := a)) ?_; refine rP 4 false fun _ => ?_; refine rE ?_) | (refine k1 false [(1000000, 0, some 0), (1000001, 0, some 1)] c22 ?_; refine k2 (markDisk_ok (a := a)) ?_) | (refine k1 false [(1000000, 0, none)] c46 ?_; refine k2 markIntS_ok ?_) | (refine k1 false [] c47 ?_; refine k2 heldIntS_ok ?_) | (refine rD (id := 28) anyW [] ?_; refine rP 0 true fun _ => ?_; refine rP 2 true fun _ => ?_; refine rO 1 fun _ _ _ _ _ => ?_; refine k1 false [] c26 ?_; refine k2 (toDisk_ok (a := a)) ?_; refine rO 3 fun _ _ _ _ _ => ?_; refine k1 false [] c43 ?_; refine k2 (toSuper_ok (a := s)) ?_; refine rO 4 fun _ _ _ _ _ => ?_; refine k1 false [] c44 ?_; refine k2 him ?_; refine rP 5 false fun _ => ?_; refine rP 6 false fun _ => ?_; refine rP 7 false fun _ => ?_; refine rP 8 false fun _ => ?_; refine rP 9 false fun _ => ?_; refine rP 10 false fun _ => ?_; refine rP 11 false fun _ => ?_; refine rE ?_) | refine zI ?_ ?_ | (intro hb; (try simp [-List.getD_eq_getElem?_getD] at hb); (try (exfalso; omega))))
    all_goals exact rT
end Go.Proofs.Ytfmbifnbmlhhjaa

