import Derived.Test.YtnancifnodbkdaaB15
import Derived.Test.YtnancifnodbkdaaE1
import Derived.Test.YtnancifnodbkdaaUc
namespace Go.Proofs.Ytnancifnodbkdaa
open Go Go.Vcg Go.IntWalk
set_option maxRecDepth 100000
set_option maxHeartbeats 20000000
set_option linter.unusedSimpArgs false
set_option linter.unusedVariables false
theorem txOk_len {a : TxA} (h : txOk a) : (encTx a).length < 300 := by
  have := h.1
  rw [encTx_length]
  omega
theorem encTxb_len {a : TxA} {b : Bool} (hP : b = true ↔ txOk a) : (if b then encTx a else []).length < 300 := by
  cases b with
  | false => simp
  | true => rw [if_pos rfl]; exact txOk_len (hP.mp rfl)
theorem ex_b (p : Prop) : ∃ b : Bool, b = true ↔ p := by
  by_cases e : p
  · exact ⟨true, by simp [e]⟩
  · exact ⟨false, by simp [e]⟩
end Go.Proofs.Ytnancifnodbkdaa

