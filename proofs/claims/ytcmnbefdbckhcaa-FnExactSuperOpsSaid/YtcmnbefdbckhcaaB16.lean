import Derived.Test.YtcmnbefdbckhcaaB15
import Derived.Test.YtcmnbefdbckhcaaE1
import Derived.Test.YtcmnbefdbckhcaaUc
namespace Go.Proofs.Ytcmnbefdbckhcaa
open Go Go.Vcg Go.IntWalk
set_option maxRecDepth 100000
set_option maxHeartbeats 4000000
set_option linter.unusedSimpArgs false
set_option linter.unusedVariables false
theorem txOk_len {a : TxA} (h : txOk a) : (encTx a).length < 300 := by
  have := h.1
  rw [encTx_length]
  omega
theorem encTxb_len {a : TxA} {b : Bool} (hP : b = true ↔ txOk a) : (if b then encTx a else []).length < 300 := by
  cases b with
  | false => simp
  | true => rw [if_pos rfl]; exact txOk_len (hP.mp rfl)
theorem ex_b (p : Prop) : ∃ b : Bool, b = true ↔ p := by
  by_cases e : p
  · exact ⟨true, by simp [e]⟩
  · exact ⟨false, by simp [e]⟩
theorem lawEncodeTx_ok {a : TxA} (h : lnTx a := by exact pm) : TSpec Try.prog 8 [] [.ag (fTx a)] false [] (.pl (.bool true)) := by
  obtain ⟨b, hP⟩ := ex_b (txOk a)
  have htot : totTx a = a.Ins.length + a.Outs.length := rfl
  have hct : ctTx a = sumN ctPoint a.Ins + a.Outs.length + 1 := rfl
  have hsp := sumPoint a.Ins
  by_cases hl : totTx a < 2 ^ 40
  · have hsp := spEncodeTx_ok hl hP
    have him := imEncodeTx_ok hl hP
    have hyl := encTxb_len hP
    obtain ⟨ys, hys⟩ : ∃ ys, ys = if b then encTx a else [] := ⟨_, rfl⟩
    rw [← hys] at hsp him hyl
    simp only [fTx] at hsp him ⊢
    have hD := @decide_true
    refine sT 88 [.tmp 2] Try.func8 fun w0 S0 ρ0 φ0 => ?_
    repeat' (first | apply W.seq | apply W.skip | apply W.region | apply W.block | apply N.code | apply N.blk | apply Sl.nil | apply W.exit | apply W.ret | apply E.hit | apply E.code | apply E.fin | refine zM ?_ | apply O.i | refine sP ?_ | refine sQ fun _ => ?_ | refine zg fun _ => ?_ | refine sX fun _ => ?_ | (refine k1 false [] c37 ?_; refine k2 (szTx_ok h (by omega)) ?_) | (refine k1 false [] c39 ?_; refine k2 toTx_ok ?_) | (refine k1 false [] c38 ?_; refine k2 hsp ?_) | (refine k1 false [] c40 ?_; refine k2 him ?_) | (refine k1 false [] c19 ?_; refine k2 eqByteS_ok ?_) | (focus (refine zs ?_ ?_; all_goals (intro hg; first | (exfalso; ((try simp [-List.getD_eq_getElem?_getD] at hg) <;> omega)) | ((first | subst hg | rw [hg] | skip); (focus (refine zj ?_ ?_; all_goals (intro hb; first | (exfalso; revert hb; decide) | ((try refine sA 52 ?_); (try refine sA 53 ?_); refine k1 false [] c19 ?_; refine k2 eqByteS_ok ?_) | refine Sl.weak (Weak.refl _ _) ?_))))))) | (refine rD (id := 10) anyW [] ?_; refine rP 0 true fun _ => ?_; refine rP 1 true fun _ => ?_; refine rO 2 fun _ _ _ _ _ => ?_; refine k1 false [] c39 ?_; refine k2 toTx_ok ?_; refine rO 3 fun _ _ _ _ _ => ?_; refine k1 false [] c41 ?_; refine k2 eqTx_ok ?_; refine rP 4 false fun _ => ?_; refine rE ?_) | (refine k1 false [(1000000, 0, some 0), (1000001, 0, some 1)] c42 ?_; refine k2 markTx_ok ?_) | (refine k1 false [(1000000, 0, none)] c23 ?_; refine k2 markByteS_ok ?_) | (refine k1 false [] c28 ?_; refine k2 heldByteS_ok ?_) | refine zI ?_ ?_ | (intro hb; (try simp [-List.getD_eq_getElem?_getD] at hb); (try (exfalso; omega))))
    all_goals exact rT
  · simp only [fTx]
    have hD := @decide_true
    refine sT 88 [.tmp 2] Try.func8 fun w0 S0 ρ0 φ0 => ?_
    repeat' (first | apply W.seq | apply W.skip | apply W.region | apply W.block | apply N.code | apply N.blk | apply Sl.nil | apply W.exit | apply W.ret | apply E.hit | apply E.code | apply E.fin | refine zM ?_ | apply O.i | refine sP ?_ | refine sQ fun _ => ?_ | refine zg fun _ => ?_ | refine sX fun _ => ?_ | (refine k1 false [] c37 ?_; refine k2 (szTx_ok h (by omega)) ?_) | (refine k1 false [] c39 ?_; refine k2 toTx_ok ?_) | (refine k1 false [] c38 ?_; refine k2 hsp ?_) | (refine k1 false [] c40 ?_; refine k2 him ?_) | (refine k1 false [] c19 ?_; refine k2 eqByteS_ok ?_) | (focus (refine zs ?_ ?_; all_goals (intro hg; first | (exfalso; ((try simp [-List.getD_eq_getElem?_getD] at hg) <;> omega)) | ((first | subst hg | rw [hg] | skip); (focus (refine zj ?_ ?_; all_goals (intro hb; first | (exfalso; revert hb; decide) | ((try refine sA 52 ?_); (try refine sA 53 ?_); refine k1 false [] c19 ?_; refine k2 eqByteS_ok ?_) | refine Sl.weak (Weak.refl _ _) ?_))))))) | (refine rD (id := 10) anyW [] ?_; refine rP 0 true fun _ => ?_; refine rP 1 true fun _ => ?_; refine rO 2 fun _ _ _ _ _ => ?_; refine k1 false [] c39 ?_; refine k2 toTx_ok ?_; refine rO 3 fun _ _ _ _ _ => ?_; refine k1 false [] c41 ?_; refine k2 eqTx_ok ?_; refine rP 4 false fun _ => ?_; refine rE ?_) | (refine k1 false [(1000000, 0, some 0), (1000001, 0, some 1)] c42 ?_; refine k2 markTx_ok ?_) | (refine k1 false [(1000000, 0, none)] c23 ?_; refine k2 markByteS_ok ?_) | (refine k1 false [] c28 ?_; refine k2 heldByteS_ok ?_) | refine zI ?_ ?_ | (intro hb; (try simp [-List.getD_eq_getElem?_getD] at hb); (try (exfalso; omega))))
    all_goals exact rT
end Go.Proofs.Ytcmnbefdbckhcaa

