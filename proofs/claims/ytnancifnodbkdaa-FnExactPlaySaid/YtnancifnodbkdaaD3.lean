import Derived.Test.YtnancifnodbkdaaD2
import Derived.Test.YtnancifnodbkdaaE1
import Derived.Test.YtnancifnodbkdaaUc
namespace Go.Proofs.Ytnancifnodbkdaa
open Go Go.Vcg Go.IntWalk
set_option maxRecDepth 100000
set_option maxHeartbeats 20000000
set_option linter.unusedSimpArgs false
set_option linter.unusedVariables false
theorem c5 : CallOk Try.prog 5 := ⟨_, Try.func5, rfl, by kernel_rfl⟩
theorem spReadSector_ok {a : DiskA} {k : Int} {db : Bool} (h : totDisk a < 2 ^ 40) (hP : db = true ↔ diskOk a) :
    TSpec Try.prog 26 [] [.ag (fDisk a), .pl (.int .i64 k)] false [] (.tu [.ow 1 (encI .u8 (if db then nowV a k else [])), .pl (.bool (db && decide (0 ≤ k ∧ k < a.Safe.length)))]) := by
  simp only [fDisk]
  have htot : totDisk a = (a.Safe.length + sumN List.length a.Safe) + (a.Pending.length + sumN totPend a.Pending) := rfl
  cases db with
  | false =>
    rw [if_neg (by simp), Bool.false_and]
    have hD := dN0
    refine sT 27 [.tmp 4, .tmp 5] Try.func26 fun w0 S0 ρ0 φ0 => ?_
    repeat' (first | apply W.seq | apply W.skip | apply W.region | apply W.block | apply N.code | apply N.blk | apply Sl.nil | apply W.exit | apply W.ret | apply E.hit | apply E.code | apply E.fin | refine zM ?_ | apply O.i | refine sP ?_ | refine sQ fun _ => ?_ | refine zg fun _ => ?_ | refine sX fun _ => ?_ | (refine k1 false [] c70 ?_; refine k2 (spDiskOk_ok h hP) ?_) | (refine k1 true [] c89 ?_; refine k2 (l1Now_ok h hd) ?_) | (refine k1 false [] c75 ?_; refine k2 l1Bytes_ok ?_) | refine zI ?_ ?_ | (intro hb; (try simp [-List.getD_eq_getElem?_getD] at hb); (try (exfalso; omega))))
    exact rT
  | true =>
    rw [if_pos rfl, Bool.true_and]
    have hd := hP.mp rfl
    have hlb := nowN_len a a.Pending.length
    by_cases hk : 0 ≤ k ∧ k < a.Safe.length
    · obtain ⟨j, rfl⟩ : ∃ j : Nat, k = j := ⟨k.toNat, by omega⟩
      rw [show decide (0 ≤ (j : Int) ∧ (j : Int) < a.Safe.length) = true from decide_eq_true hk]
      have hv := secV_now hd j (by omega)
      have hlen := Nat.lt_of_le_of_lt (secV_len a (lastN a.Pending a.Pending.length) j) h
      unfold nowV at hv ⊢
      rw [hv] at hlen ⊢
      have hD := (hlb)
      have hD := (hlb)
      refine sT 27 [.tmp 4, .tmp 5] Try.func26 fun w0 S0 ρ0 φ0 => ?_
      repeat' (first | apply W.seq | apply W.skip | apply W.region | apply W.block | apply N.code | apply N.blk | apply Sl.nil | apply W.exit | apply W.ret | apply E.hit | apply E.code | apply E.fin | refine zM ?_ | apply O.i | refine sP ?_ | refine sQ fun _ => ?_ | refine zg fun _ => ?_ | refine sX fun _ => ?_ | (refine k1 false [] c70 ?_; refine k2 (spDiskOk_ok h hP) ?_) | (refine k1 true [] c89 ?_; refine k2 (l1Now_ok h hd) ?_) | (refine k1 false [] c75 ?_; refine k2 l1Bytes_ok ?_) | refine zI ?_ ?_ | (intro hb; (try simp [-List.getD_eq_getElem?_getD] at hb); (try (exfalso; omega))))
      exact rT
    · rw [show decide (0 ≤ k ∧ k < a.Safe.length) = false from decide_eq_false hk, show nowV a k = [] from if_neg hk]
      have hD := dN0
      have hD := dN0
      refine sT 27 [.tmp 4, .tmp 5] Try.func26 fun w0 S0 ρ0 φ0 => ?_
      repeat' (first | apply W.seq | apply W.skip | apply W.region | apply W.block | apply N.code | apply N.blk | apply Sl.nil | apply W.exit | apply W.ret | apply E.hit | apply E.code | apply E.fin | refine zM ?_ | apply O.i | refine sP ?_ | refine sQ fun _ => ?_ | refine zg fun _ => ?_ | refine sX fun _ => ?_ | (refine k1 false [] c70 ?_; refine k2 (spDiskOk_ok h hP) ?_) | (refine k1 true [] c89 ?_; refine k2 (l1Now_ok h hd) ?_) | (refine k1 false [] c75 ?_; refine k2 l1Bytes_ok ?_) | refine zI ?_ ?_ | (intro hb; (try simp [-List.getD_eq_getElem?_getD] at hb); (try (exfalso; omega))))
      exact rT
theorem totDisk_ct (a : DiskA) : ctDisk a ≤ totDisk a := by
  unfold ctDisk totDisk
  have h1 : sumN ctPend a.Pending ≤ a.Pending.length + sumN totPend a.Pending := by
    generalize a.Pending = l
    induction l with
    | nil => simp [sumN]
    | cons x xs ih =>
      have e : ctPend x = 1 + totPend x := rfl
      simp only [sumN, List.length_cons]
      omega
  omega
theorem lawReadSector_ok {a : DiskA} {k : Int} (h : lnDisk a := by exact pm) : TSpec Try.prog 5 [] [.ag (fDisk a), .pl (.int .i64 k)] false [] (.pl (.bool true)) := by
  obtain ⟨db, hP⟩ : ∃ b : Bool, b = true ↔ diskOk a := by
    by_cases e : diskOk a
    · exact ⟨true, by simp [e]⟩
    · exact ⟨false, by simp [e]⟩
  have hct := totDisk_ct a
  obtain ⟨ys, hys⟩ : ∃ ys, ys = if db then nowV a k else [] := ⟨_, rfl⟩
  obtain ⟨rb, hrb⟩ : ∃ rb, rb = (db && decide (0 ≤ k ∧ k < a.Safe.length)) := ⟨_, rfl⟩
  have hyl : ys.length ≤ totDisk a := by
    rw [hys]
    split
    · exact secV_len a _ k
    · simp
  by_cases htl : totDisk a < 2 ^ 40
  · have hsp := spReadSector_ok (k := k) htl hP
    have him := imReadSector_ok (k := k) htl hP fun i hi => ⟨(lastN_get _ _ _ _ hi).1, (lastN_get _ _ _ _ hi).2.1⟩
    rw [← hys, ← hrb] at hsp him
    simp only [fDisk] at hsp him ⊢
    have hD := @decide_true
    refine sT 93 [.tmp 4] Try.func5 fun w0 S0 ρ0 φ0 => ?_
    repeat' (first | apply W.seq | apply W.skip | apply W.region | apply W.block | apply N.code | apply N.blk | apply Sl.nil | apply W.exit | apply W.ret | apply E.hit | apply E.code | apply E.fin | refine zM ?_ | apply O.i | refine sP ?_ | refine sQ fun _ => ?_ | refine zg fun _ => ?_ | refine sX fun _ => ?_ | (refine k1 false [] c25 ?_; refine k2 (szDisk_ok (a := a)) ?_) | (refine k1 false [] c27 ?_; refine k2 (toDisk_ok (a := a)) ?_) | (refine k1 false [] c26 ?_; refine k2 hsp ?_) | (refine k1 false [] c28 ?_; refine k2 him ?_) | (refine k1 false [] c18 ?_; refine k2 eqByteS_ok ?_) | (focus (refine zs ?_ ?_; all_goals (intro hg; first | (exfalso; ((try simp [-List.getD_eq_getElem?_getD] at hg) <;> omega)) | ((first | subst hg | rw [hg] | skip); (focus (refine zj ?_ ?_; all_goals (intro hb; first | (exfalso; revert hb; decide) | ((try refine sA 56 ?_); (try refine sA 57 ?_); refine k1 false [] c18 ?_; refine k2 eqByteS_ok ?_) | refine Sl.weak (Weak.refl _ _) ?_))))))) | (refine rD (id := 10) anyW [] ?_; refine rP 0 true fun _ => ?_; refine rP 1 true fun _ => ?_; refine rO 2 fun _ _ _ _ _ => ?_; refine k1 false [] c27 ?_; refine k2 (toDisk_ok (a := a)) ?_; refine rO 3 fun _ _ _ _ _ => ?_; refine k1 false [] c29 ?_; refine k2 (eqDisk_ok (a := a) (b := a)) ?_; refine rP 4 false fun _ => ?_; refine rE ?_) | (refine k1 false [(1000000, 0, some 0), (1000001, 0, some 1)] c30 ?_; refine k2 (markDisk_ok (a := a)) ?_) | (refine k1 false [(1000000, 0, none)] c19 ?_; refine k2 markByteS_ok ?_) | (refine k1 false [] c20 ?_; refine k2 heldByteS_ok ?_) | refine zI ?_ ?_ | (intro hb; (try simp [-List.getD_eq_getElem?_getD] at hb); (try (exfalso; omega))))
    all_goals exact rT
  · simp only [fDisk]
    have hD := @decide_true
    refine sT 93 [.tmp 4] Try.func5 fun w0 S0 ρ0 φ0 => ?_
    repeat' (first | apply W.seq | apply W.skip | apply W.region | apply W.block | apply N.code | apply N.blk | apply Sl.nil | apply W.exit | apply W.ret | apply E.hit | apply E.code | apply E.fin | refine zM ?_ | apply O.i | refine sP ?_ | refine sQ fun _ => ?_ | refine zg fun _ => ?_ | refine sX fun _ => ?_ | (refine k1 false [] c25 ?_; refine k2 (szDisk_ok (a := a)) ?_) | (refine k1 false [] c27 ?_; refine k2 (toDisk_ok (a := a)) ?_) | (refine k1 false [] c26 ?_; refine k2 hsp ?_) | (refine k1 false [] c28 ?_; refine k2 him ?_) | (refine k1 false [] c18 ?_; refine k2 eqByteS_ok ?_) | (focus (refine zs ?_ ?_; all_goals (intro hg; first | (exfalso; ((try simp [-List.getD_eq_getElem?_getD] at hg) <;> omega)) | ((first | subst hg | rw [hg] | skip); (focus (refine zj ?_ ?_; all_goals (intro hb; first | (exfalso; revert hb; decide) | ((try refine sA 56 ?_); (try refine sA 57 ?_); refine k1 false [] c18 ?_; refine k2 eqByteS_ok ?_) | refine Sl.weak (Weak.refl _ _) ?_))))))) | (refine rD (id := 10) anyW [] ?_; refine rP 0 true fun _ => ?_; refine rP 1 true fun _ => ?_; refine rO 2 fun _ _ _ _ _ => ?_; refine k1 false [] c27 ?_; refine k2 (toDisk_ok (a := a)) ?_; refine rO 3 fun _ _ _ _ _ => ?_; refine k1 false [] c29 ?_; refine k2 (eqDisk_ok (a := a) (b := a)) ?_; refine rP 4 false fun _ => ?_; refine rE ?_) | (refine k1 false [(1000000, 0, some 0), (1000001, 0, some 1)] c30 ?_; refine k2 (markDisk_ok (a := a)) ?_) | (refine k1 false [(1000000, 0, none)] c19 ?_; refine k2 markByteS_ok ?_) | (refine k1 false [] c20 ?_; refine k2 heldByteS_ok ?_) | refine zI ?_ ?_ | (intro hb; (try simp [-List.getD_eq_getElem?_getD] at hb); (try (exfalso; omega))))
    all_goals exact rT
section
variable {H : Type} {enc : TypeId × Value → H} {w : World}
theorem enB : EncP enc Try.prog w 22 fB lnB :=
  (EncP.slice Try.underlying22 (of_decide_eq_true (by kernel_rfl)) (of_decide_eq_true (by kernel_rfl)) (EncP.int Try.underlying5)).imp fun xs h => by have := h.1; unfold reachBytes at this; unfold lnB; omega
theorem enSS : EncP enc Try.prog w 36 (fun xs => [.pd (encL fB xs)]) lnByteSS :=
  (EncP.slice Try.underlying36 (of_decide_eq_true (by kernel_rfl)) (of_decide_eq_true (by kernel_rfl)) enB).imp fun xs h => by have := h.1; unfold reachBytes at this; exact ⟨by omega, h.2⟩
theorem enPend : EncP enc Try.prog w 191 fPend lnPend :=
  EncFs.struct Try.underlying191 (by kernel_rfl) (EncFs.cons (EncP.int Try.underlying3) (EncFs.cons enB EncFs.nil)) (fun x => ⟨x.1, x.2.1⟩) (fun _ => rfl) (fun _ h => h.2.1)
theorem enPendS : EncP enc Try.prog w 37 (fun xs => [.pd (encL fPend xs)]) lnPendS :=
  (EncP.slice Try.underlying37 (of_decide_eq_true (by kernel_rfl)) (of_decide_eq_true (by kernel_rfl)) enPend).imp fun xs h => by have := h.1; unfold reachBytes at this; exact ⟨by omega, h.2⟩
theorem enDisk : EncP enc Try.prog w 39 fDisk lnDisk :=
  EncFs.struct Try.underlying39 (by kernel_rfl) (EncFs.cons enSS (EncFs.cons enPendS EncFs.nil)) (fun x => ⟨x.1, x.2.1⟩) (fun _ => rfl) (fun _ h => ⟨h.1, h.2.1⟩)
end
end Go.Proofs.Ytnancifnodbkdaa

