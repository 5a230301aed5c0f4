import Derived.Test.YtfmbifnbmlhhjaaK2
import Derived.Test.YtfmbifnbmlhhjaaD3
import Derived.Test.YtfmbifnbmlhhjaaUc
namespace Go.Proofs.Ytfmbifnbmlhhjaa
open Go Go.Vcg Go.IntWalk
set_option maxRecDepth 100000
set_option maxHeartbeats 20000000
set_option linter.unusedSimpArgs false
set_option linter.unusedVariables false
theorem fmt_ok (n : Int) : fmtA n = ⟨[], []⟩ ∨ diskOk (fmtA n) := by
  unfold fmtA
  split
  · rename_i h
    exact .inr (playA_ok (newDisk_ok h) (opsG_do h) 5 (Nat.le_refl _))
  · exact .inl rfl
theorem fmt_tot (n : Int) : totDisk (fmtA n) < 2 ^ 40 := by
  rcases fmt_ok n with e | e
  · rw [e]
    exact Nat.two_pow_pos 40
  · have := diskOk_tot e
    omega
theorem lawFormat_ok {n : Int} : TSpec Try.prog 4 [] [.pl (.int .i64 n)] false [] (.pl (.bool true)) := by
  have ht := fmt_tot n
  have hc := totDisk_ct (fmtA n)
  have hsp := spFormat_ok (n := n)
  have him := imFormat_ok (n := n)
  generalize fmtA n = c at *
  generalize decide (8 ≤ n ∧ n ≤ 1024) = b at *
  simp only [oDisk] at hsp him
  have hD := @decide_true
  refine sT 55 [.tmp 2] Try.func4 fun w0 S0 ρ0 φ0 => ?_
  repeat' (first | apply W.seq | apply W.skip | apply W.region | apply W.block | apply N.code | apply N.blk | apply Sl.nil | apply W.exit | apply W.ret | apply E.hit | apply E.code | apply E.fin | refine zM ?_ | apply O.i | refine sP ?_ | refine sQ fun _ => ?_ | refine zg fun _ => ?_ | refine sX fun _ => ?_ | (refine k1 false [] c19 ?_; refine k2 hsp ?_) | (refine k1 false [] c20 ?_; refine k2 him ?_) | (refine k1 false [] c21 ?_; refine k2 (eqDisk_ok (a := c) (b := c)) ?_) | (refine k1 false [(1000000, 0, some 0), (1000001, 0, some 1)] c22 ?_; refine k2 (markDisk_ok (a := c)) ?_) | (refine k1 false [] c23 ?_; refine k2 (heldDisk_ok (a := c)) ?_) | refine zI ?_ ?_ | (intro hb; (try simp [-List.getD_eq_getElem?_getD] at hb); (try (exfalso; omega))))
  all_goals exact rT
end Go.Proofs.Ytfmbifnbmlhhjaa

