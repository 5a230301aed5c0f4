import Derived.Test.YtekdhfppbahidaaA5
namespace Go.Proofs.Ytekdhfppbahidaa
open Go Go.Vcg Go.IntWalk
set_option maxRecDepth 100000
set_option maxHeartbeats 4000000
set_option linter.unusedSimpArgs false
set_option linter.unusedVariables false

theorem c6 : CallOk Try.prog 6 := ⟨_, Try.func6, rfl, by kernel_rfl⟩
theorem c8 : CallOk Try.prog 8 := ⟨_, Try.func8, rfl, by kernel_rfl⟩
theorem sumN_replicate {α : Type} (ct : α → Nat) (n : Nat) (x : α) : sumN ct (List.replicate n x) = n * ct x := by
  induction n with
  | zero => simp [sumN]
  | succ n ih => rw [List.replicate_succ, sumN, ih, Nat.succ_mul]; omega
theorem newDisk_tot (n : Int) : totDisk (newDisk n) < 2 ^ 40 ∧ ctDisk (newDisk n) < 2 ^ 40 := by
  unfold newDisk
  split
  · simp only [totDisk, ctDisk, newSafe, sumN_replicate, List.length_replicate, List.length_nil, sumN]
    omega
  · simp [totDisk, ctDisk, sumN]
theorem lawNewDisk_ok {n : Int} : TSpec Try.prog 6 [] [.pl (.int .i64 n)] false [] (.pl (.bool true)) := by
  have ht := (newDisk_tot n).1
  have hc := (newDisk_tot n).2
  have hD := And.intro @decide_true (@decide_eq_true_eq)
  refine sT 55 [.tmp 2] Try.func6 fun w0 S0 ρ0 φ0 => ?_
  repeat' (first | apply W.seq | apply W.skip | apply W.region | apply W.block | apply N.code | apply N.blk | apply Sl.nil | apply W.exit | apply W.ret | apply E.hit | apply E.code | apply E.fin | refine zM ?_ | apply O.i | refine sP ?_ | refine sQ fun _ => ?_ | refine zg fun _ => ?_ | refine sX fun _ => ?_ | (refine k1 false [] c15 ?_; refine k2 spNewDisk_ok ?_) | (refine k1 false [] c16 ?_; refine k2 imNewDisk_ok ?_) | (refine k1 false [] c17 ?_; refine k2 eqDisk_ok ?_) | (refine k1 false [(1000000, 0, some 0), (1000001, 0, some 1)] c18 ?_; refine k2 (markDisk_ok (a := newDisk n)) ?_) | (refine k1 false [] c19 ?_; refine k2 (heldDisk_ok (a := newDisk n)) ?_) | refine zI ?_ ?_ | (intro hb; (try simp [-List.getD_eq_getElem?_getD] at hb); (try (exfalso; omega))))
  exact rT

theorem lawDiskOk_ok {a : DiskA} (h : lnDisk a := by exact pm) : TSpec Try.prog 8 [] [.ag (fDisk a)] false [] (.pl (.bool true)) := by
  obtain ⟨db, hdb⟩ : ∃ b : Bool, b = true ↔ diskOk a := by
    by_cases e : diskOk a
    · exact ⟨true, by simp [e]⟩
    · exact ⟨false, by simp [e]⟩
  simp only [fDisk]
  have hD := And.intro @decide_true (@decide_eq_true_eq)
  refine sT 27 [.tmp 2] Try.func8 fun w0 S0 ρ0 φ0 => ?_
  repeat' (first | apply W.seq | apply W.skip | apply W.region | apply W.block | apply N.code | apply N.blk | apply Sl.nil | apply W.exit | apply W.ret | apply E.hit | apply E.code | apply E.fin | refine zM ?_ | apply O.i | refine sP ?_ | refine sQ fun _ => ?_ | refine sX fun _ => ?_ | (refine k1 false [] c24 ?_; refine k2 (szDisk_ok (a := a)) ?_) | (refine k1 false [] c26 ?_; refine k2 (toDisk_ok (a := a)) ?_) | (refine k1 false [] c25 ?_; refine k2 (spDiskOk_ok (a := a) (b := db)) ?_) | (refine k1 false [] c27 ?_; refine k2 (imDiskOk_ok (a := a) (b := db)) ?_) | (refine rD (id := 10) anyW [] ?_; refine rP 0 true fun _ => ?_; refine rP 1 true fun _ => ?_; refine rO 2 fun _ _ _ _ _ => ?_; refine k1 false [] c26 ?_; refine k2 (toDisk_ok (a := a)) ?_; refine rO 3 fun _ _ _ _ _ => ?_; refine k1 false [] c17 ?_; refine k2 (eqDisk_ok (a := a) (b := a)) ?_; refine rP 4 false fun _ => ?_; refine rE ?_) | refine zI ?_ ?_ | (intro hb; (try simp [-List.getD_eq_getElem?_getD] at hb); (try (exfalso; omega))))
  all_goals exact rT
end Go.Proofs.Ytekdhfppbahidaa

