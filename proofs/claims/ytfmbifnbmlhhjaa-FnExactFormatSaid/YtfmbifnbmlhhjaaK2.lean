import Derived.Test.YtfmbifnbmlhhjaaK1
import Derived.Test.YtfmbifnbmlhhjaaUc
namespace Go.Proofs.Ytfmbifnbmlhhjaa
open Go Go.Vcg Go.IntWalk
set_option maxRecDepth 100000
set_option maxHeartbeats 20000000
set_option linter.unusedSimpArgs false
set_option linter.unusedVariables false
theorem c4 : CallOk Try.prog 4 := ⟨_, Try.func4, rfl, by kernel_rfl⟩

theorem opsG_row2 : encL fOp opsF ++ [[.pl (.int .i64 2), .pl (.int .i64 0), .pd []]] = encL fOp opsG := (encL_append fOp opsF [⟨2, 0, []⟩])
theorem opsG_tot : totOpS opsG < 2 ^ 40 := by
  have h : sumN totOp opsG ≤ 64 * opsG.length := sumN_bound totOp 64 opsG fun i hi => by
    rw [opsG_len] at hi
    show (opsG.getD i default).Data.length ≤ 64
    rcases Nat.lt_or_ge i 4 with e | e
    · rw [opsG_get i e]
      show (((encPage 1 1 (superB sup1)).drop (64 * i)).take 64).length ≤ 64
      rw [List.length_take]
      omega
    · obtain rfl : i = 4 := by omega
      rw [opsG_4]
      exact Nat.zero_le _
  unfold totOpS
  rw [opsG_len] at *
  omega
theorem spFormat_ok {n : Int} : TSpec Try.prog 19 [] [.pl (.int .i64 n)] false [] (.tu [.ag (oDisk (fmtA n)), .pl (.bool (decide (8 ≤ n ∧ n ≤ 1024)))]) := by
  simp only [oDisk]
  by_cases hn : 8 ≤ n ∧ n ≤ 1024
  · rw [decide_eq_true hn, show fmtA n = playA (newDisk (4 * n)) opsG 5 from if_pos hn]
    have hso := spSuperOps_ok (a := sup1) (b := true) ⟨fun _ => sup1_ok, fun _ => rfl⟩
    rw [if_pos rfl, show sup1.Gen % 2 = 1 from rfl] at hso
    have hso : TSpec Try.prog 50 [] [.ag (fSuper sup1)] false [] (.tu [.ow 3 (encL oOp opsF), .pl (.bool true)]) := hso
    have hgl := opsG_len
    have hfl := opsF_len
    have hnd := newDisk_ok hn
    have hnw := spNewDisk_ok (n := 4 * n)
    rw [decide_eq_true (show 1 ≤ 4 * n ∧ 4 * n ≤ 4096 by omega)] at hnw
    have htt := diskOk_tot hnd
    have hnp : (newDisk (4 * n)).Pending = [] := by rw [newDisk_eq hn]
    have hpl := spPlay_ok (a := newDisk (4 * n)) (ops := opsG) (m := 5) (db := true) (n := 5) (by omega) opsG_tot ⟨fun _ => ⟨hnd, by rw [opsG_len]; omega⟩, fun _ => rfl⟩ (playG hn)
    generalize newDisk (4 * n) = nd at *
    rw [if_pos rfl, if_pos rfl] at hpl
    generalize playA nd opsG 5 = pd at *
    simp only [oDisk, hnp, encL_nil] at hnw
    simp only [oDisk, fDisk, hnp, encL_nil, ← opsG_row2] at hpl
    simp only [fSuper, sup1] at hso
    have hD := (hfl)
    have hD := (hfl)
    refine sT 36 [.cell 2 35, .tmp 3] Try.func19 fun w0 S0 ρ0 φ0 => ?_
    repeat' (first | apply W.seq | apply W.skip | apply W.region | apply W.block | apply N.code | apply N.blk | apply Sl.nil | apply W.exit | apply W.ret | apply E.hit | apply E.code | apply E.fin | refine zM ?_ | apply O.i | refine sP ?_ | refine sQ fun _ => ?_ | refine zg fun _ => ?_ | refine sX fun _ => ?_ | (refine k1 false [] c52 ?_; refine k2 hnw ?_) | (refine k1 false [] c50 ?_; refine k2 hso ?_) | (refine rD (id := 5) anyW [4, 9] ?_; refine rP 1 false fun _ => ?_; refine rP 2 false fun _ => ?_; (focus (refine rA [0, 3] (xO (fun _ _ _ _ _ => ?_) (xO (fun _ _ _ _ _ => ?_) RX.nil)); (focus (refine sQ fun _ => ?_; refine rO 3 fun _ _ _ _ _ => ?_; refine sX fun _ => ?_; refine rO 4 fun _ _ _ _ _ => ?_; refine sX fun _ => ?_; refine rO 5 fun _ _ _ _ _ => ?_; refine k1 false [] c85 ?_; refine k2 hpl ?_; refine rP 6 false fun _ => ?_; refine rP 7 false fun _ => ?_; refine rP 8 false fun _ => ?_; refine rO 9 fun _ _ _ _ _ => ?_; refine sX fun _ => ?_; refine rE ?_)); rotate_left; (focus (refine sX fun _ => ?_; (focus (refine rA [0, 4] (xO (fun _ _ _ _ _ => ?_) (xO (fun _ _ _ _ _ => ?_) RX.nil)); (focus (refine sQ fun _ => ?_; refine rO 4 fun _ _ _ _ _ => ?_; refine sX fun _ => ?_; refine rO 5 fun _ _ _ _ _ => ?_; refine k1 false [] c85 ?_; refine k2 hpl ?_; refine rP 6 false fun _ => ?_; refine rP 7 false fun _ => ?_; refine rP 8 false fun _ => ?_; refine rO 9 fun _ _ _ _ _ => ?_; refine sX fun _ => ?_; refine rE ?_)); rotate_left; (focus (refine sX fun _ => ?_; refine rP 0 true fun _ => ?_; refine rO 5 fun _ _ _ _ _ => ?_; refine k1 false [] c85 ?_; refine k2 hpl ?_; refine rP 6 false fun _ => ?_; refine rP 7 false fun _ => ?_; refine rP 8 false fun _ => ?_; refine rO 9 fun _ _ _ _ _ => ?_; refine sX fun _ => ?_; refine rE ?_)); rotate_left)))); rotate_left 2))) | refine zI ?_ ?_ | (intro hb; (try simp [-List.getD_eq_getElem?_getD] at hb); (try (exfalso; omega))))
    all_goals exact rT
  · rw [decide_eq_false hn, show fmtA n = ⟨[], []⟩ from if_neg hn]
    have hso := hn
    have hnw := hn
    have hpl := hn
    have hD := @encL_nil
    have hD := @encL_nil
    refine sT 36 [.cell 2 35, .tmp 3] Try.func19 fun w0 S0 ρ0 φ0 => ?_
    repeat' (first | apply W.seq | apply W.skip | refine W.region (id := 0) ?_ | refine W.region (id := 1) ?_ | refine W.region (id := 2) ?_ | refine W.region (id := 3) ?_ | refine W.region (id := 4) ?_ | refine W.region (id := 6) ?_ | apply W.block | apply N.code | apply N.blk | apply Sl.nil | apply W.exit | apply W.ret | apply E.hit | apply E.code | apply E.fin | refine zM ?_ | apply O.i | refine sP ?_ | refine sQ fun _ => ?_ | refine zg fun _ => ?_ | refine sX fun _ => ?_ | (refine k1 false [] c52 ?_; refine k2 hnw ?_) | (refine k1 false [] c50 ?_; refine k2 hso ?_) | refine zI ?_ ?_ | (intro hb; (try simp [-List.getD_eq_getElem?_getD] at hb); (try (exfalso; omega))))
    exact rT
end Go.Proofs.Ytfmbifnbmlhhjaa

