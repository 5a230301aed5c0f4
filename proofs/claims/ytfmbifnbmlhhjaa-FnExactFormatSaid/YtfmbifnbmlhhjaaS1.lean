import Derived.Test.YtfmbifnbmlhhjaaA9
import Derived.Test.YtfmbifnbmlhhjaaUc
namespace Go.Proofs.Ytfmbifnbmlhhjaa
open Go Go.Vcg Go.IntWalk
set_option maxRecDepth 100000
set_option maxHeartbeats 20000000
set_option linter.unusedSimpArgs false
set_option linter.unusedVariables false
theorem c43 : CallOk Try.prog 43 := ⟨_, Try.func43, rfl, by kernel_rfl⟩
theorem c33 : CallOk Try.prog 33 := ⟨_, Try.func33, rfl, by kernel_rfl⟩
theorem c123 : CallOk Try.prog 123 := ⟨_, Try.func123, rfl, by kernel_rfl⟩
theorem c169 : CallOk Try.prog 169 := ⟨_, Try.func169, rfl, by kernel_rfl⟩
theorem c126 : CallOk Try.prog 126 := ⟨_, Try.func126, rfl, by kernel_rfl⟩
theorem bfS {b : Bool} {p : Prop} (hP : b = true ↔ p) (h : ¬ p) : b = false := by
  cases b with
  | false => rfl
  | true => exact absurd (hP.mp rfl) h
structure SuperA where
  Gen : Int
  Root : Int
  Used : Int
  Free : Int
  deriving DecidableEq, Inhabited
def fSuper (a : SuperA) : List SV := [.pl (.int .i64 a.Gen), .pl (.int .i64 a.Root), .pl (.int .i64 a.Used), .pl (.int .i64 a.Free)]
attribute [go_sem] fSuper
def plOk (u x : Int) : Prop := x = 0 ∨ (2 ≤ x ∧ x < u)
instance (u x : Int) : Decidable (plOk u x) := by unfold plOk; infer_instance
def superOk (a : SuperA) : Prop := (1 ≤ a.Gen ∧ a.Gen ≤ 1000000000000 ∧ 2 ≤ a.Used ∧ a.Used ≤ 1024) ∧ plOk a.Used a.Root ∧ plOk a.Used a.Free
theorem pgVal (u x : Int) : (bif (x == 0) then true else bif decide (x ≥ 2) then decide (x < u) else false) = decide (plOk u x) := by
  unfold plOk
  by_cases h1 : x = 0
  · simp [h1]
  · by_cases h2 : x ≥ 2
    · simp [h1, h2, show (x == 0) = false by simp [h1]]
    · simp [h1, h2, show (x == 0) = false by simp [h1]]
theorem superVal_eq {a : SuperA} {b : Bool} (h1 : 1 ≤ a.Gen ∧ a.Gen ≤ 1000000000000 ∧ 2 ≤ a.Used ∧ a.Used ≤ 1024) (hP : b = true ↔ superOk a) : b = (bif bif (a.Root == 0) then true else bif decide (a.Root ≥ 2) then decide (a.Root < a.Used) else false then bif (a.Free == 0) then true else bif decide (a.Free ≥ 2) then decide (a.Free < a.Used) else false else false) := by
  rw [pgVal, pgVal]
  by_cases g1 : plOk a.Used a.Root
  · by_cases g2 : plOk a.Used a.Free
    · rw [hP.mpr ⟨h1, g1, g2⟩, decide_eq_true g1, decide_eq_true g2]
      rfl
    · rw [bfS hP fun h => g2 h.2.2, decide_eq_true g1, decide_eq_false g2]
      rfl
  · rw [bfS hP fun h => g1 h.2.1, decide_eq_false g1]
    rfl
theorem toSuper_ok {a : SuperA} : TSpec Try.prog 43 [] [.ag (fSuper a)] false [] (.ag (fSuper a)) := by
  simp only [fSuper]
  have hD := dN0
  refine sT 17 [.cell 2 51] Try.func43 fun w0 S0 ρ0 φ0 => ?_
  repeat' (first | apply W.seq | apply W.skip | apply W.region | apply W.block | apply N.code | apply N.blk | apply Sl.nil | apply W.exit | apply W.ret | apply E.hit | apply E.code | apply E.fin | refine zM ?_ | apply O.i | refine sP ?_ | refine sQ fun _ => ?_ | refine sX fun _ => ?_ | refine zI ?_ ?_ | (intro hb; (try simp [-List.getD_eq_getElem?_getD] at hb); (try (exfalso; omega))))
  exact rT
theorem l2SuperOk_ok {a : SuperA} {b : Bool} (hP : b = true ↔ superOk a := by exact pm) : TSpec Try.prog 123 [] [.ag (fSuper a)] false [] (.pl (.bool b)) := by
  simp only [fSuper]
  obtain ⟨r0, hr0⟩ : ∃ r, (a.Root == 0) = r := ⟨_, rfl⟩
  obtain ⟨r2, hr2⟩ : ∃ r, decide (a.Root ≥ 2) = r := ⟨_, rfl⟩
  obtain ⟨r3, hr3⟩ : ∃ r, decide (a.Root < a.Used) = r := ⟨_, rfl⟩
  obtain ⟨f0, hf0⟩ : ∃ r, (a.Free == 0) = r := ⟨_, rfl⟩
  obtain ⟨f2, hf2⟩ : ∃ r, decide (a.Free ≥ 2) = r := ⟨_, rfl⟩
  have hD := And.intro (hr0) (And.intro (hr2) (And.intro (hr3) (And.intro (hf0) ((hf2)))))
  have hD := And.intro (hr0) (And.intro (hr2) (And.intro (hr3) (And.intro (hf0) ((hf2)))))
  refine sT 53 [.tmp 2] Try.func123 fun w0 S0 ρ0 φ0 => ?_
  repeat' (first | apply W.seq | apply W.skip | refine W.region (id := 0) ?_ | refine W.region (id := 1) ?_ | refine W.region (id := 2) ?_ | apply W.block | apply N.code | apply N.blk | apply Sl.nil | apply W.exit | apply W.ret | apply E.hit | apply E.code | apply E.fin | refine zM ?_ | apply O.i | refine sP ?_ | refine sQ fun _ => ?_ | refine zg fun _ => ?_ | refine sX fun _ => ?_ | refine sPf ?_ | refine sPt ?_ | refine sEN ?_ | refine zI ?_ ?_ | (intro hb; (try simp [-List.getD_eq_getElem?_getD] at hb); (try (exfalso; omega))))
  · rw [bfS hP (fun h => by have := h.1; omega)]
    exact rT
  have hbv : b = (bif bif r0 then true else bif r2 then r3 else false then bif f0 then true else bif f2 then decide (a.Free < a.Used) else false else false) := by
    have h1 : (1 ≤ a.Gen ∧ a.Gen ≤ 1000000000000 ∧ 2 ≤ a.Used ∧ a.Used ≤ 1024) := by omega
    rw [← hr0, ← hr2, ← hr3, ← hf0, ← hf2]
    exact superVal_eq h1 hP
  rw [hbv]
  cases r0
  · cases r2
    · repeat' (first | apply W.seq | apply W.skip | apply W.region | apply W.block | apply N.code | apply N.blk | apply Sl.nil | apply W.exit | apply W.ret | apply E.hit | apply E.code | apply E.fin | refine zM ?_ | apply O.i | refine sP ?_ | refine sQ fun _ => ?_ | refine zg fun _ => ?_ | refine sX fun _ => ?_ | refine sPf ?_ | refine sPt ?_ | refine sEN ?_ | refine zI ?_ ?_ | (intro hb; (try simp [-List.getD_eq_getElem?_getD] at hb); (try (exfalso; omega))))
      exact rT
    · cases r3
      · repeat' (first | apply W.seq | apply W.skip | apply W.region | apply W.block | apply N.code | apply N.blk | apply Sl.nil | apply W.exit | apply W.ret | apply E.hit | apply E.code | apply E.fin | refine zM ?_ | apply O.i | refine sP ?_ | refine sQ fun _ => ?_ | refine zg fun _ => ?_ | refine sX fun _ => ?_ | refine sPf ?_ | refine sPt ?_ | refine sEN ?_ | refine zI ?_ ?_ | (intro hb; (try simp [-List.getD_eq_getElem?_getD] at hb); (try (exfalso; omega))))
        exact rT
      · cases f0 <;> cases f2
        all_goals repeat' (first | apply W.seq | apply W.skip | apply W.region | apply W.block | apply N.code | apply N.blk | apply Sl.nil | apply W.exit | apply W.ret | apply E.hit | apply E.code | apply E.fin | refine zM ?_ | apply O.i | refine sP ?_ | refine sQ fun _ => ?_ | refine zg fun _ => ?_ | refine sX fun _ => ?_ | refine sPf ?_ | refine sPt ?_ | refine sEN ?_ | refine zI ?_ ?_ | (intro hb; (try simp [-List.getD_eq_getElem?_getD] at hb); (try (exfalso; omega))))
        all_goals exact rT
  · cases f0 <;> cases f2
    all_goals repeat' (first | apply W.seq | apply W.skip | apply W.region | apply W.block | apply N.code | apply N.blk | apply Sl.nil | apply W.exit | apply W.ret | apply E.hit | apply E.code | apply E.fin | refine zM ?_ | apply O.i | refine sP ?_ | refine sQ fun _ => ?_ | refine zg fun _ => ?_ | refine sX fun _ => ?_ | refine sPf ?_ | refine sPt ?_ | refine sEN ?_ | refine zI ?_ ?_ | (intro hb; (try simp [-List.getD_eq_getElem?_getD] at hb); (try (exfalso; omega))))
    all_goals exact rT
theorem superV_ok {a : SuperA} {x : Int} : TSpec Try.prog 169 [] [.pl (.int .i64 x), .bp (fSuper a) 0] false [] (.pl (.bool (decide (plOk a.Used x)))) := by
  rw [← pgVal]
  simp only [fSuper]
  obtain ⟨r0, hr0⟩ : ∃ r, (x == 0) = r := ⟨_, rfl⟩
  obtain ⟨r2, hr2⟩ : ∃ r, decide (x ≥ 2) = r := ⟨_, rfl⟩
  rw [hr0, hr2]
  have hD := And.intro (hr0) ((hr2))
  have hD := And.intro (hr0) ((hr2))
  refine sT 16 [.tmp 3] Try.func169 fun w0 S0 ρ0 φ0 => ?_
  cases r0 <;> cases r2
  all_goals repeat' (first | apply W.seq | apply W.skip | apply W.region | apply W.block | apply N.code | apply N.blk | apply Sl.nil | apply W.exit | apply W.ret | apply E.hit | apply E.code | apply E.fin | refine zM ?_ | apply O.i | refine sP ?_ | refine sQ fun _ => ?_ | refine zg fun _ => ?_ | refine sPf ?_ | refine sPt ?_ | refine sEN ?_ | refine zI ?_ ?_ | (intro hb; (try simp [-List.getD_eq_getElem?_getD] at hb); (try (exfalso; omega))))
  all_goals exact rT
theorem imSuperOk_ok {a : SuperA} {b : Bool} (hP : b = true ↔ superOk a := by exact pm) : TSpec Try.prog 126 [] [.ag (fSuper a)] false [] (.pl (.bool b)) := by
  simp only [fSuper]
  have hD := dN0
  refine sT 35 [.tmp 2] Try.func126 fun w0 S0 ρ0 φ0 => ?_
  repeat' (first | apply W.seq | apply W.skip | apply W.region | apply W.block | apply N.code | apply N.blk | apply Sl.nil | apply W.exit | apply W.ret | apply E.hit | apply E.code | apply E.fin | refine zM ?_ | apply O.i | refine sP ?_ | refine sQ fun _ => ?_ | refine zg fun _ => ?_ | refine sX fun _ => ?_ | refine sPf ?_ | refine sPt ?_ | (refine kV false [] c169 ?_; refine k2 superV_ok ?_) | (focus (refine zs ?_ ?_; all_goals (intro hg; first | (exfalso; ((try simp [-List.getD_eq_getElem?_getD] at hg) <;> omega)) | ((first | subst hg | rw [hg] | skip); (focus (refine zj ?_ ?_; all_goals (intro hb; first | (exfalso; revert hb; decide) | ((try refine sA 24 ?_); (try refine sA 26 ?_); (refine kV false [] c169 ?_; refine k2 superV_ok ?_)) | refine Sl.weak (Weak.refl _ _) ?_))))))) | (focus (refine zs ?_ ?_; all_goals (intro hg; first | (exfalso; ((try simp [-List.getD_eq_getElem?_getD] at hg) <;> omega)) | ((first | subst hg | rw [hg] | skip); (focus (refine zj ?_ ?_; all_goals (intro hb; first | (exfalso; revert hb; decide) | ((try refine sA 30 ?_); (try refine sA 32 ?_); (refine kV false [] c169 ?_; refine k2 superV_ok ?_)) | refine Sl.weak (Weak.refl _ _) ?_))))))) | refine zI ?_ ?_ | (intro hb; (try simp [-List.getD_eq_getElem?_getD] at hb); (try (exfalso; omega))))
  · have g1 : (bif bif bif decide (a.Gen ≥ 1) then decide (a.Gen ≤ 1000000000000) else false then decide (a.Used ≥ 2) else false then decide (a.Used ≤ 1024) else false) = true := by assumption
    have g2 : (bif true then decide (plOk a.Used a.Root) else false) = true := by assumption
    have g3 : ((1 ≤ a.Gen ∧ a.Gen ≤ 1000000000000) ∧ 2 ≤ a.Used) ∧ a.Used ≤ 1024 := by simpa using g1
    have g4 : plOk a.Used a.Root := by simpa using g2
    have e : b = (bif true then decide (plOk a.Used a.Free) else false) := by
      by_cases q : plOk a.Used a.Free
      · rw [hP.mpr ⟨by omega, g4, q⟩, decide_eq_true q]
        rfl
      · rw [bfS hP fun h => q h.2.2, decide_eq_false q]
        rfl
    rw [e]
    exact rT
  · have g2 : (bif true then decide (plOk a.Used a.Root) else false) = false := by assumption
    have g4 : ¬ plOk a.Used a.Root := by simpa using g2
    rw [bfS hP fun h => g4 h.2.1]
    exact rT
  · have g1 : (bif bif bif decide (a.Gen ≥ 1) then decide (a.Gen ≤ 1000000000000) else false then decide (a.Used ≥ 2) else false then decide (a.Used ≤ 1024) else false) = false := by assumption
    have e : b = false := bfS hP fun h => by
      obtain ⟨⟨h1, h2, h3, h4⟩, _⟩ := h
      rw [decide_eq_true (show a.Gen ≥ 1 from h1), decide_eq_true h2, decide_eq_true (show a.Used ≥ 2 from h3), decide_eq_true h4] at g1
      cases g1
    rw [e]
    exact rT
theorem eqSuper_ok {a b : SuperA} : TSpec Try.prog 33 [] [.ag (fSuper a), .ag (fSuper b)] false [] (.pl (.bool (decide (a = b)))) := by
  simp only [fSuper]
  have hD := dN0
  refine sT 25 [.tmp 4] Try.func33 fun w0 S0 ρ0 φ0 => ?_
  repeat' (first | apply W.seq | apply W.skip | apply W.region | apply W.block | apply N.code | apply N.blk | apply Sl.nil | apply W.exit | apply W.ret | apply E.hit | apply E.code | apply E.fin | refine zM ?_ | apply O.i | refine sP ?_ | refine sQ fun _ => ?_ | refine sX fun _ => ?_ | refine zI ?_ ?_ | (intro hb; (try simp [-List.getD_eq_getElem?_getD] at hb); (try (exfalso; omega))))
  all_goals (first | rw [show decide (a = b) = false from decide_eq_false fun e => hb (by rw [e])] | rw [show decide (a = b) = true from decide_eq_true (by cases a; cases b; simp_all)])
  all_goals exact rT
end Go.Proofs.Ytfmbifnbmlhhjaa

