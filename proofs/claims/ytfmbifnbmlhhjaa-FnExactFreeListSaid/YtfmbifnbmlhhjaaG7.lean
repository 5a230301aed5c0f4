import Derived.Test.YtfmbifnbmlhhjaaG6
import Derived.Test.YtfmbifnbmlhhjaaUe
import Derived.Test.YtfmbifnbmlhhjaaUc
import Derived.Test.YtfmbifnbmlhhjaaG4
namespace Go.Proofs.Ytfmbifnbmlhhjaa
open Go Go.Vcg Go.IntWalk
set_option maxRecDepth 100000
set_option maxHeartbeats 20000000
set_option linter.unusedSimpArgs false
set_option linter.unusedVariables false
open Classical in
theorem spSuperAt_ok {a : DiskA} {id : Int} (h : totDisk a < 2 ^ 40) (hd : diskOk a) (ho : okDisk a) :
    TSpec Try.prog 102 [] [.ag [.pd (encL fB (nowN a a.Pending.length))], .pl (.int .i64 id)] false [] (.tu [.ag (fSuper ((supAt a id).getD super0)), .pl (.bool (supAt a id).isSome)]) := by
  have htot : totDisk a = (a.Safe.length + sumN List.length a.Safe) + (a.Pending.length + sumN totPend a.Pending) := rfl
  have hl := lastOk_all a
  have hnl := nowN_len a a.Pending.length
  have hna := now_all h hd
  have hin : 0 ≤ id ∧ id < ((nowN a a.Pending.length).length / 4 : Nat) → (vCat (nowN a a.Pending.length) id 4).length < 2 ^ 40 ∧ okBytes (vCat (nowN a a.Pending.length) id 4) := fun h1 => by
    rw [hnl] at h1
    rw [pg_eq hd id h1, pgNow_256 hd hl id h1]
    exact ⟨by omega, pgNow_ok ho id⟩
  by_cases h1 : 0 ≤ id ∧ id < (a.Safe.length / 4 : Nat)
  · have hpe := pg_eq hd id h1
    by_cases h2 : rdOk a id (pgNow a id)
    · have hvp := viewPage_ok (id := id) (c := true) (by omega) hna hin ⟨fun _ => ⟨by rw [hnl]; exact h1, by rw [hpe]; exact h2.2⟩, fun _ => rfl⟩
      simp only [if_true, hpe] at hvp
      have hb := pgB_ok (pgNow_ok ho id)
      have hs : supAt a id = if supOk (a.Safe.length / 4) id (pgK (pgNow a id)) (pgB (pgNow a id)) then some (supB (pgB (pgNow a id))) else none := by
        unfold supAt
        simp only [h2, true_and]
      by_cases h3 : supOk (a.Safe.length / 4) id (pgK (pgNow a id)) (pgB (pgNow a id))
      · rw [hs, if_pos h3]
        have h4 := (spv_iff hb).mpr h3
        have key := l2SuperAt_ok (so := true) (by omega) (pgB_len h2.2.1) hb hvp (by rw [hnl]; exact ⟨fun _ => ⟨rfl, h4⟩, fun _ => rfl⟩)
        rw [if_pos rfl, supS_eq hb h4.2.1 h4.2.2.1] at key
        exact key
      · rw [hs, if_neg h3]
        have key := l2SuperAt_ok (so := false) (by omega) (pgB_len h2.2.1) hb hvp (by rw [hnl]; exact ⟨fun e => (Bool.noConfusion e), fun e => absurd ((spv_iff hb).mp e.2) h3⟩)
        rw [if_neg (by simp)] at key
        exact key
    · have hvp := viewPage_ok (id := id) (c := false) (by omega) hna hin ⟨fun e => (Bool.noConfusion e), fun e => absurd ⟨h1, by rw [← hpe]; exact e.2⟩ h2⟩
      have hs : supAt a id = none := by
        unfold supAt
        rw [if_neg (fun e => h2 e.1)]
      rw [hs]
      simp only [Bool.false_eq_true, if_false] at hvp
      have key := l2SuperAt_ok (so := false) (by omega) (by simp) okBytes_nil hvp ⟨fun e => (Bool.noConfusion e), fun e => by cases e.1⟩
      rw [if_neg (by simp)] at key
      exact key
  · have hvp := viewPage_ok (id := id) (c := false) (by omega) hna hin ⟨fun e => (Bool.noConfusion e), fun e => absurd (by rw [← hnl]; exact e.1) h1⟩
    have hs : supAt a id = none := by
      unfold supAt
      rw [if_neg (fun e => h1 e.1.1)]
    rw [hs]
    simp only [Bool.false_eq_true, if_false] at hvp
    have key := l2SuperAt_ok (so := false) (by omega) (by simp) okBytes_nil hvp ⟨fun e => (Bool.noConfusion e), fun e => by cases e.1⟩
    rw [if_neg (by simp)] at key
    exact key
open Classical in
theorem supAt_some {a : DiskA} {id : Int} {s : SuperA} (h : supAt a id = some s) : 1 ≤ s.Gen ∧ s.Gen % 2 = id := by
  unfold supAt at h
  split at h
  · rename_i e
    obtain rfl := Option.some.inj h
    exact ⟨e.2.2.2.1.1.1, e.2.2.2.2.1⟩
  · cases h
theorem spBestSuper_ok {a : DiskA} {db : Bool} (h : totDisk a < 2 ^ 40) (hP : db = true ↔ diskOk a) (ho : okDisk a) :
    TSpec Try.prog 31 [] [.ag (fDisk a)] false [] (.tu [.ag (fSuper (if db then supK a 2 else super0)), .pl (.bool (if db then decide ((supK a 2).Gen > 0) else false))]) := by
  have htot : totDisk a = (a.Safe.length + sumN List.length a.Safe) + (a.Pending.length + sumN totPend a.Pending) := rfl
  cases db with
  | false =>
    simp only [fDisk, fSuper, Bool.false_eq_true, if_false, super0]
    have hD := dN0
    refine sT 41 [.cell 2 51, .tmp 3] Try.func31 fun w0 S0 ρ0 φ0 => ?_
    repeat' (first | apply W.seq | apply W.skip | apply W.region | apply W.block | apply N.code | apply N.blk | apply Sl.nil | apply W.exit | apply W.ret | apply E.hit | apply E.code | apply E.fin | refine zM ?_ | apply O.i | refine sP ?_ | refine sQ fun _ => ?_ | refine zF ?_ | refine zD ?_ | (focus (refine zT ?_; (try refine sA 30 ?_ (hc := by rfl)); (try refine sA 35 ?_ (hc := by rfl)); first | refine sPt ?_ | refine sPf ?_)) | refine zg fun _ => ?_ | refine sX fun _ => ?_ | refine sPf ?_ | refine sPt ?_ | (refine k1 false [] c67 ?_; refine k2 (spDiskOk_ok h hP) ?_) | (refine k1 true [] c97 ?_; refine k2 (l1Now_ok h hd) ?_) | (refine k1 false [] c102 ?_; (first | refine k2 hs0 ?_ | refine k2 hs1 ?_)) | refine zI ?_ ?_ | (intro hb; (try simp [-List.getD_eq_getElem?_getD] at hb); (try (exfalso; omega))))
    exact rT
  | true =>
    have hd := hP.mp rfl
    have hnl := nowN_len a a.Pending.length
    have hs0 := spSuperAt_ok (id := 0) h hd ho
    have hs1 := spSuperAt_ok (id := 1) h hd ho
    have hk : supK a 2 = supMore (supMore super0 (supAt a 0)) (supAt a 1) := rfl
    rw [hk]
    have h0 := @supAt_some a 0
    have h1 := @supAt_some a 1
    clear hk
    generalize supAt a 0 = o0 at *
    generalize supAt a 1 = o1 at *
    simp only [fDisk, if_true]
    cases o0 with
    | none =>
      cases o1 with
      | none =>
        simp only [supMore, fSuper, super0, Option.getD_none, Option.isSome_none] at hs0 hs1 ⊢
        have hD := dN0
        refine sT 41 [.cell 2 51, .tmp 3] Try.func31 fun w0 S0 ρ0 φ0 => ?_
        repeat' (first | apply W.seq | apply W.skip | apply W.region | apply W.block | apply N.code | apply N.blk | apply Sl.nil | apply W.exit | apply W.ret | apply E.hit | apply E.code | apply E.fin | refine zM ?_ | apply O.i | refine sP ?_ | refine sQ fun _ => ?_ | refine zF ?_ | refine zD ?_ | (focus (refine zT ?_; (try refine sA 30 ?_ (hc := by rfl)); (try refine sA 35 ?_ (hc := by rfl)); first | refine sPt ?_ | refine sPf ?_)) | refine zg fun _ => ?_ | refine sX fun _ => ?_ | refine sPf ?_ | refine sPt ?_ | (refine k1 false [] c67 ?_; refine k2 (spDiskOk_ok h hP) ?_) | (refine k1 true [] c97 ?_; refine k2 (l1Now_ok h hd) ?_) | (refine k1 false [] c102 ?_; (first | refine k2 hs0 ?_ | refine k2 hs1 ?_)) | refine zI ?_ ?_ | (intro hb; (try simp [-List.getD_eq_getElem?_getD] at hb); (try (exfalso; omega))))
        all_goals exact rT
      | some t =>
        obtain ⟨g1, _⟩ := h1 rfl
        have e1 : supMore super0 (some t) = t := if_pos (show t.Gen > super0.Gen from by show t.Gen > 0; omega)
        have e2 : decide (t.Gen > 0) = true := decide_eq_true (by omega)
        simp only [show supMore super0 none = super0 from rfl, e1, e2, Option.getD_none, Option.getD_some, Option.isSome_none, Option.isSome_some] at hs0 hs1 ⊢
        clear e1 e2 h0 h1
        simp only [fSuper, super0] at hs0 hs1 ⊢
        have hD := dN0
        refine sT 41 [.cell 2 51, .tmp 3] Try.func31 fun w0 S0 ρ0 φ0 => ?_
        repeat' (first | apply W.seq | apply W.skip | apply W.region | apply W.block | apply N.code | apply N.blk | apply Sl.nil | apply W.exit | apply W.ret | apply E.hit | apply E.code | apply E.fin | refine zM ?_ | apply O.i | refine sP ?_ | refine sQ fun _ => ?_ | refine zF ?_ | refine zD ?_ | (focus (refine zT ?_; (try refine sA 30 ?_ (hc := by rfl)); (try refine sA 35 ?_ (hc := by rfl)); first | refine sPt ?_ | refine sPf ?_)) | refine zg fun _ => ?_ | refine sX fun _ => ?_ | refine sPf ?_ | refine sPt ?_ | (refine k1 false [] c67 ?_; refine k2 (spDiskOk_ok h hP) ?_) | (refine k1 true [] c97 ?_; refine k2 (l1Now_ok h hd) ?_) | (refine k1 false [] c102 ?_; (first | refine k2 hs0 ?_ | refine k2 hs1 ?_)) | refine zI ?_ ?_ | (intro hb; (try simp [-List.getD_eq_getElem?_getD] at hb); (try (exfalso; omega))))
        all_goals exact rT
    | some s =>
      obtain ⟨g0, g2⟩ := h0 rfl
      have e1 : supMore super0 (some s) = s := if_pos (show s.Gen > super0.Gen from by show s.Gen > 0; omega)
      have e2 : decide (s.Gen > 0) = true := decide_eq_true (by omega)
      cases o1 with
      | none =>
        simp only [show ∀ x, supMore x none = x from fun _ => rfl, e1, e2, Option.getD_none, Option.getD_some, Option.isSome_none, Option.isSome_some] at hs0 hs1 ⊢
        clear e1 e2 h0 h1
        simp only [fSuper, super0] at hs0 hs1 ⊢
        have hD := dN0
        refine sT 41 [.cell 2 51, .tmp 3] Try.func31 fun w0 S0 ρ0 φ0 => ?_
        repeat' (first | apply W.seq | apply W.skip | apply W.region | apply W.block | apply N.code | apply N.blk | apply Sl.nil | apply W.exit | apply W.ret | apply E.hit | apply E.code | apply E.fin | refine zM ?_ | apply O.i | refine sP ?_ | refine sQ fun _ => ?_ | refine zF ?_ | refine zD ?_ | (focus (refine zT ?_; (try refine sA 30 ?_ (hc := by rfl)); (try refine sA 35 ?_ (hc := by rfl)); first | refine sPt ?_ | refine sPf ?_)) | refine zg fun _ => ?_ | refine sX fun _ => ?_ | refine sPf ?_ | refine sPt ?_ | (refine k1 false [] c67 ?_; refine k2 (spDiskOk_ok h hP) ?_) | (refine k1 true [] c97 ?_; refine k2 (l1Now_ok h hd) ?_) | (refine k1 false [] c102 ?_; (first | refine k2 hs0 ?_ | refine k2 hs1 ?_)) | refine zI ?_ ?_ | (intro hb; (try simp [-List.getD_eq_getElem?_getD] at hb); (try (exfalso; omega))))
        all_goals exact rT
      | some t =>
        obtain ⟨g1, g3⟩ := h1 rfl
        by_cases hgt : t.Gen > s.Gen
        · have e3 : supMore s (some t) = t := if_pos hgt
          have e4 : decide (t.Gen > 0) = true := decide_eq_true (by omega)
          have e5 : decide (s.Gen > t.Gen) = false := decide_eq_false (by omega)
          simp only [e1, e2, e3, e4, Option.getD_some, Option.isSome_some] at hs0 hs1 ⊢
          clear e1 e2 e3 e4 h0 h1
          simp only [fSuper] at hs0 hs1 ⊢
          have hD := (e5)
          have hD := (e5)
          refine sT 41 [.cell 2 51, .tmp 3] Try.func31 fun w0 S0 ρ0 φ0 => ?_
          repeat' (first | apply W.seq | apply W.skip | apply W.region | apply W.block | apply N.code | apply N.blk | apply Sl.nil | apply W.exit | apply W.ret | apply E.hit | apply E.code | apply E.fin | refine zM ?_ | apply O.i | refine sP ?_ | refine sQ fun _ => ?_ | refine zF ?_ | refine zD ?_ | (focus (refine zT ?_; (try refine sA 30 ?_ (hc := by rfl)); (try refine sA 35 ?_ (hc := by rfl)); first | refine sPt ?_ | refine sPf ?_)) | refine zg fun _ => ?_ | refine sX fun _ => ?_ | refine sPf ?_ | refine sPt ?_ | (refine k1 false [] c67 ?_; refine k2 (spDiskOk_ok h hP) ?_) | (refine k1 true [] c97 ?_; refine k2 (l1Now_ok h hd) ?_) | (refine k1 false [] c102 ?_; (first | refine k2 hs0 ?_ | refine k2 hs1 ?_)) | refine zI ?_ ?_ | (intro hb; (try simp [-List.getD_eq_getElem?_getD] at hb); (try (exfalso; omega))))
          all_goals exact rT
        · have e3 : supMore s (some t) = s := if_neg hgt
          have e5 : decide (s.Gen > t.Gen) = true := decide_eq_true (by omega)
          simp only [e1, e2, e3, Option.getD_some, Option.isSome_some] at hs0 hs1 ⊢
          clear e1 e2 e3 h0 h1
          simp only [fSuper] at hs0 hs1 ⊢
          have hD := (e5)
          have hD := (e5)
          refine sT 41 [.cell 2 51, .tmp 3] Try.func31 fun w0 S0 ρ0 φ0 => ?_
          repeat' (first | apply W.seq | apply W.skip | apply W.region | apply W.block | apply N.code | apply N.blk | apply Sl.nil | apply W.exit | apply W.ret | apply E.hit | apply E.code | apply E.fin | refine zM ?_ | apply O.i | refine sP ?_ | refine sQ fun _ => ?_ | refine zF ?_ | refine zD ?_ | (focus (refine zT ?_; (try refine sA 30 ?_ (hc := by rfl)); (try refine sA 35 ?_ (hc := by rfl)); first | refine sPt ?_ | refine sPf ?_)) | refine zg fun _ => ?_ | refine sX fun _ => ?_ | refine sPf ?_ | refine sPt ?_ | (refine k1 false [] c67 ?_; refine k2 (spDiskOk_ok h hP) ?_) | (refine k1 true [] c97 ?_; refine k2 (l1Now_ok h hd) ?_) | (refine k1 false [] c102 ?_; (first | refine k2 hs0 ?_ | refine k2 hs1 ?_)) | refine zI ?_ ?_ | (intro hb; (try simp [-List.getD_eq_getElem?_getD] at hb); (try (exfalso; omega))))
          all_goals exact rT
end Go.Proofs.Ytfmbifnbmlhhjaa

