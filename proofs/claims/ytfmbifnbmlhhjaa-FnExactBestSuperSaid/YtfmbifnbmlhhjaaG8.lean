import Derived.Test.YtfmbifnbmlhhjaaG7
import Derived.Test.YtfmbifnbmlhhjaaUc
namespace Go.Proofs.Ytfmbifnbmlhhjaa
open Go Go.Vcg Go.IntWalk
set_option maxRecDepth 100000
set_option maxHeartbeats 20000000
set_option linter.unusedSimpArgs false
set_option linter.unusedVariables false
theorem c6 : CallOk Try.prog 6 := ⟨_, Try.func6, rfl, by kernel_rfl⟩
theorem lawBestSuper_ok {a : DiskA} (h : lnDisk a := by exact pm) (ho : okDisk a := by exact pm) : TSpec Try.prog 6 [] [.ag (fDisk a)] false [] (.pl (.bool true)) := by
  obtain ⟨db, hP⟩ : ∃ b : Bool, b = true ↔ diskOk a := by
    by_cases e : diskOk a
    · exact ⟨true, by simp [e]⟩
    · exact ⟨false, by simp [e]⟩
  by_cases htl : totDisk a < 2 ^ 40
  · have hsp := spBestSuper_ok htl hP ho
    have him := imBestSuper_ok htl hP ho
    generalize (if db then supK a 2 else super0) = su at *
    generalize (if db then decide ((supK a 2).Gen > 0) else false) = bo at *
    simp only [fDisk, fSuper] at hsp him ⊢
    have hD := @decide_true
    refine sT 41 [.tmp 2] Try.func6 fun w0 S0 ρ0 φ0 => ?_
    repeat' (first | apply W.seq | apply W.skip | apply W.region | apply W.block | apply N.code | apply N.blk | apply Sl.nil | apply W.exit | apply W.ret | apply E.hit | apply E.code | apply E.fin | refine zM ?_ | apply O.i | refine sP ?_ | refine sQ fun _ => ?_ | refine zg fun _ => ?_ | refine sX fun _ => ?_ | (refine k1 false [] c24 ?_; refine k2 (szDisk_ok (a := a)) ?_) | (refine k1 false [] c26 ?_; refine k2 (toDisk_ok (a := a)) ?_) | (refine k1 false [] c31 ?_; refine k2 hsp ?_) | (refine k1 false [] c32 ?_; refine k2 him ?_) | (refine k1 false [] c33 ?_; refine k2 (eqSuper_ok (a := su) (b := su)) ?_) | (refine rD (id := 10) anyW [] ?_; refine rP 0 true fun _ => ?_; refine rP 1 true fun _ => ?_; refine rO 2 fun _ _ _ _ _ => ?_; refine k1 false [] c26 ?_; refine k2 (toDisk_ok (a := a)) ?_; refine rO 3 fun _ _ _ _ _ => ?_; refine k1 false [] c21 ?_; refine k2 (eqDisk_ok (a := a) (b := a)) ?_; refine rP 4 false fun _ => ?_; refine rE ?_) | refine zI ?_ ?_ | (intro hb; (try simp [-List.getD_eq_getElem?_getD] at hb); (try (exfalso; omega))))
    all_goals exact rT
  · obtain ⟨su, hsu⟩ : ∃ s : SuperA, s = super0 := ⟨_, rfl⟩
    have hsp := super0
    have him := super0
    simp only [fDisk]
    have hD := @decide_true
    refine sT 41 [.tmp 2] Try.func6 fun w0 S0 ρ0 φ0 => ?_
    repeat' (first | apply W.seq | apply W.skip | apply W.region | apply W.block | apply N.code | apply N.blk | apply Sl.nil | apply W.exit | apply W.ret | apply E.hit | apply E.code | apply E.fin | refine zM ?_ | apply O.i | refine sP ?_ | refine sQ fun _ => ?_ | refine zg fun _ => ?_ | refine sX fun _ => ?_ | (refine k1 false [] c24 ?_; refine k2 (szDisk_ok (a := a)) ?_) | (refine k1 false [] c26 ?_; refine k2 (toDisk_ok (a := a)) ?_) | (refine k1 false [] c31 ?_; refine k2 hsp ?_) | (refine k1 false [] c32 ?_; refine k2 him ?_) | (refine k1 false [] c33 ?_; refine k2 (eqSuper_ok (a := su) (b := su)) ?_) | (refine rD (id := 10) anyW [] ?_; refine rP 0 true fun _ => ?_; refine rP 1 true fun _ => ?_; refine rO 2 fun _ _ _ _ _ => ?_; refine k1 false [] c26 ?_; refine k2 (toDisk_ok (a := a)) ?_; refine rO 3 fun _ _ _ _ _ => ?_; refine k1 false [] c21 ?_; refine k2 (eqDisk_ok (a := a) (b := a)) ?_; refine rP 4 false fun _ => ?_; refine rE ?_) | refine zI ?_ ?_ | (intro hb; (try simp [-List.getD_eq_getElem?_getD] at hb); (try (exfalso; omega))))
    all_goals exact rT
end Go.Proofs.Ytfmbifnbmlhhjaa

