import Derived.Test.YtfmbifnbmlhhjaaG3
import Derived.Test.YtfmbifnbmlhhjaaUc
namespace Go.Proofs.Ytfmbifnbmlhhjaa
open Go Go.Vcg Go.IntWalk
set_option maxRecDepth 100000
set_option maxHeartbeats 20000000
set_option linter.unusedSimpArgs false
set_option linter.unusedVariables false
theorem lawReadPage_ok {a : DiskA} {id : Int} (h : lnDisk a := by exact pm) (ho : okDisk a := by exact pm) : TSpec Try.prog 5 [] [.ag (fDisk a), .pl (.int .i64 id)] false [] (.pl (.bool true)) := by
  have hl : ∀ k i, agetI (lastN a.Pending a.Pending.length) k = some i → 0 ≤ i ∧ i < a.Pending.length := fun k i hi => ⟨(lastN_get _ _ _ _ hi).1, (lastN_get _ _ _ _ hi).2.1⟩
  obtain ⟨db, hP⟩ : ∃ b : Bool, b = true ↔ diskOk a := by
    by_cases e : diskOk a
    · exact ⟨true, by simp [e]⟩
    · exact ⟨false, by simp [e]⟩
  obtain ⟨c, hc⟩ : ∃ b : Bool, b = true ↔ diskOk a ∧ rdOk a id (pgNow a id) := by
    by_cases e : diskOk a ∧ rdOk a id (pgNow a id)
    · exact ⟨true, by simp [e]⟩
    · exact ⟨false, by simp [e]⟩
  have hct := totDisk_ct a
  obtain ⟨ys, hys⟩ : ∃ ys, ys = if c then pgB (pgNow a id) else [] := ⟨_, rfl⟩
  obtain ⟨kq, hkq⟩ : ∃ kq, kq = if c then pgK (pgNow a id) else 0 := ⟨_, rfl⟩
  have hyl : ys.length ≤ 256 := by
    rw [hys]
    split
    · rename_i e
      have := pgNow_256 (hc.mp e).1 hl id (hc.mp e).2.1
      unfold pgB
      rw [List.length_take, List.length_drop]
      omega
    · simp
  by_cases htl : totDisk a < 2 ^ 40
  · have hsp := spReadPage_ok htl hP ho hl hc
    have him := imReadPage_ok htl hP hl (pgNow_ok ho id) hc
    rw [← hys, ← hkq] at hsp him
    simp only [fDisk] at hsp him ⊢
    clear hc hys hkq
    have hD := @decide_true
    refine sT 114 [.tmp 4] Try.func5 fun w0 S0 ρ0 φ0 => ?_
    repeat' (first | apply W.seq | apply W.skip | apply W.region | apply W.block | apply N.code | apply N.blk | apply Sl.nil | apply W.exit | apply W.ret | apply E.hit | apply E.code | apply E.fin | refine zM ?_ | apply O.i | refine sP ?_ | refine sQ fun _ => ?_ | refine zg fun _ => ?_ | refine sX fun _ => ?_ | (refine k1 false [] c24 ?_; refine k2 (szDisk_ok (a := a)) ?_) | (refine k1 false [] c26 ?_; refine k2 (toDisk_ok (a := a)) ?_) | (refine k1 false [] c25 ?_; refine k2 hsp ?_) | (refine k1 false [] c27 ?_; refine k2 him ?_) | (refine k1 false [] c28 ?_; refine k2 eqByteS_ok ?_) | (focus (refine zs ?_ ?_; all_goals (intro hg; first | (exfalso; ((try simp [-List.getD_eq_getElem?_getD] at hg) <;> omega)) | ((first | subst hg | rw [hg] | skip); (focus (refine zj ?_ ?_; all_goals (intro hb; first | (exfalso; revert hb; decide) | ((try refine sA 104 ?_); (try refine sA 105 ?_); refine k1 false [] c28 ?_; refine k2 eqByteS_ok ?_) | refine Sl.weak (Weak.refl _ _) ?_))))))) | (focus (refine zs ?_ ?_; all_goals (intro hg; first | (exfalso; ((try simp [-List.getD_eq_getElem?_getD] at hg) <;> omega)) | ((first | subst hg | rw [hg] | skip); (focus (refine zj ?_ ?_; all_goals (intro hb; first | (exfalso; revert hb; decide) | ((try refine sA 45 ?_); (try refine sA 46 ?_); refine k1 false [] c28 ?_; refine k2 eqByteS_ok ?_) | refine Sl.weak (Weak.refl _ _) ?_))))))) | (focus (refine zs ?_ ?_; all_goals (intro hg; first | (exfalso; ((try simp [-List.getD_eq_getElem?_getD] at hg) <;> omega)) | ((first | subst hg | rw [hg] | skip); (focus (refine zj ?_ ?_; all_goals (intro hb; first | (exfalso; revert hb; decide) | ((try refine sA 71 ?_); (try refine sA 72 ?_); refine k1 false [] c28 ?_; refine k2 eqByteS_ok ?_) | refine Sl.weak (Weak.refl _ _) ?_))))))) | (refine rD (id := 10) anyW [] ?_; refine rP 0 true fun _ => ?_; refine rP 1 true fun _ => ?_; refine rO 2 fun _ _ _ _ _ => ?_; refine k1 false [] c26 ?_; refine k2 (toDisk_ok (a := a)) ?_; refine rO 3 fun _ _ _ _ _ => ?_; refine k1 false [] c21 ?_; refine k2 (eqDisk_ok (a := a) (b := a)) ?_; refine rP 4 false fun _ => ?_; refine rE ?_) | (refine k1 false [(1000000, 0, some 0), (1000001, 0, some 1)] c22 ?_; refine k2 (markDisk_ok (a := a)) ?_) | (refine k1 false [(1000000, 0, none)] c29 ?_; refine k2 markByteS_ok ?_) | (refine k1 false [] c30 ?_; refine k2 heldByteS_ok ?_) | refine zI ?_ ?_ | (intro hb; (try simp [-List.getD_eq_getElem?_getD] at hb); (try (exfalso; omega))))
    all_goals exact rT
  · simp only [fDisk]
    clear hc hys hkq
    have hD := @decide_true
    refine sT 114 [.tmp 4] Try.func5 fun w0 S0 ρ0 φ0 => ?_
    repeat' (first | apply W.seq | apply W.skip | apply W.region | apply W.block | apply N.code | apply N.blk | apply Sl.nil | apply W.exit | apply W.ret | apply E.hit | apply E.code | apply E.fin | refine zM ?_ | apply O.i | refine sP ?_ | refine sQ fun _ => ?_ | refine zg fun _ => ?_ | refine sX fun _ => ?_ | (refine k1 false [] c24 ?_; refine k2 (szDisk_ok (a := a)) ?_) | (refine k1 false [] c26 ?_; refine k2 (toDisk_ok (a := a)) ?_) | (refine k1 false [] c25 ?_; refine k2 hsp ?_) | (refine k1 false [] c27 ?_; refine k2 him ?_) | (refine k1 false [] c28 ?_; refine k2 eqByteS_ok ?_) | (focus (refine zs ?_ ?_; all_goals (intro hg; first | (exfalso; ((try simp [-List.getD_eq_getElem?_getD] at hg) <;> omega)) | ((first | subst hg | rw [hg] | skip); (focus (refine zj ?_ ?_; all_goals (intro hb; first | (exfalso; revert hb; decide) | ((try refine sA 104 ?_); (try refine sA 105 ?_); refine k1 false [] c28 ?_; refine k2 eqByteS_ok ?_) | refine Sl.weak (Weak.refl _ _) ?_))))))) | (focus (refine zs ?_ ?_; all_goals (intro hg; first | (exfalso; ((try simp [-List.getD_eq_getElem?_getD] at hg) <;> omega)) | ((first | subst hg | rw [hg] | skip); (focus (refine zj ?_ ?_; all_goals (intro hb; first | (exfalso; revert hb; decide) | ((try refine sA 45 ?_); (try refine sA 46 ?_); refine k1 false [] c28 ?_; refine k2 eqByteS_ok ?_) | refine Sl.weak (Weak.refl _ _) ?_))))))) | (focus (refine zs ?_ ?_; all_goals (intro hg; first | (exfalso; ((try simp [-List.getD_eq_getElem?_getD] at hg) <;> omega)) | ((first | subst hg | rw [hg] | skip); (focus (refine zj ?_ ?_; all_goals (intro hb; first | (exfalso; revert hb; decide) | ((try refine sA 71 ?_); (try refine sA 72 ?_); refine k1 false [] c28 ?_; refine k2 eqByteS_ok ?_) | refine Sl.weak (Weak.refl _ _) ?_))))))) | (refine rD (id := 10) anyW [] ?_; refine rP 0 true fun _ => ?_; refine rP 1 true fun _ => ?_; refine rO 2 fun _ _ _ _ _ => ?_; refine k1 false [] c26 ?_; refine k2 (toDisk_ok (a := a)) ?_; refine rO 3 fun _ _ _ _ _ => ?_; refine k1 false [] c21 ?_; refine k2 (eqDisk_ok (a := a) (b := a)) ?_; refine rP 4 false fun _ => ?_; refine rE ?_) | (refine k1 false [(1000000, 0, some 0), (1000001, 0, some 1)] c22 ?_; refine k2 (markDisk_ok (a := a)) ?_) | (refine k1 false [(1000000, 0, none)] c29 ?_; refine k2 markByteS_ok ?_) | (refine k1 false [] c30 ?_; refine k2 heldByteS_ok ?_) | refine zI ?_ ?_ | (intro hb; (try simp [-List.getD_eq_getElem?_getD] at hb); (try (exfalso; omega))))
    all_goals exact rT
section
variable {H : Type} {enc : TypeId × Value → H} {w : World}
theorem enB2 : EncP enc Try.prog w 22 fB (fun xs => lnB xs ∧ okBytes xs) := enBy.imp fun xs h => ⟨h.1, h.2⟩
theorem enSS2 : EncP enc Try.prog w 32 (fun xs => [.pd (encL fB xs)]) (fun xs => lnByteSS xs ∧ ∀ k, k < xs.length → okBytes (xs.getD k default)) :=
  (EncP.slice Try.underlying32 (of_decide_eq_true (by kernel_rfl)) (of_decide_eq_true (by kernel_rfl)) enB2).imp fun xs h => by have := h.1; unfold reachBytes at this; exact ⟨⟨by omega, fun k hk => (h.2 k hk).1⟩, fun k hk => (h.2 k hk).2⟩
theorem enPend2 : EncP enc Try.prog w 208 fPend (fun x => lnPend x ∧ okBytes x.Data) :=
  EncFs.struct Try.underlying208 (by kernel_rfl) (EncFs.cons (EncP.int Try.underlying3) (EncFs.cons enB2 EncFs.nil)) (fun x => ⟨x.1, x.2.1⟩) (fun _ => rfl) (fun _ h => h.2.1)
theorem enPendS2 : EncP enc Try.prog w 41 (fun xs => [.pd (encL fPend xs)]) (fun xs => lnPendS xs ∧ ∀ k, k < xs.length → okBytes (xs.getD k default).Data) :=
  (EncP.slice Try.underlying41 (of_decide_eq_true (by kernel_rfl)) (of_decide_eq_true (by kernel_rfl)) enPend2).imp fun xs h => by have := h.1; unfold reachBytes at this; exact ⟨⟨by omega, fun k hk => (h.2 k hk).1⟩, fun k hk => (h.2 k hk).2⟩
theorem enDisk2 : EncP enc Try.prog w 43 fDisk (fun a => lnDisk a ∧ okDisk a) :=
  EncFs.struct Try.underlying43 (by kernel_rfl) (EncFs.cons enSS2 (EncFs.cons enPendS2 EncFs.nil)) (fun x => ⟨x.1, x.2.1⟩) (fun _ => rfl) (fun _ h => ⟨⟨h.1.1, h.2.1.1⟩, h.1.2, h.2.1.2⟩)
end
end Go.Proofs.Ytfmbifnbmlhhjaa

