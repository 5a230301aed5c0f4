import Derived.Test.YtnancifnodbkdaaB17
namespace Go.Proofs.Ytnancifnodbkdaa
open Go Go.Vcg Go.IntWalk
set_option maxRecDepth 100000
set_option maxHeartbeats 20000000
set_option linter.unusedSimpArgs false
set_option linter.unusedVariables false
theorem okBytes_encTx {a : TxA} (h : txOk a) : okBytes (encTx a) := by
  have h0 := h.1
  unfold encTx
  refine okBytes_append (okBytes_append (okBytes_append (okBytes_append (okBytes_one (by omega)) ?_) (okBytes_one (by omega))) ?_) (okBytes_low _ _)
  · unfold encIns
    intro y hy
    obtain ⟨p, hp, hy⟩ := List.mem_flatMap.mp hy
    obtain ⟨i, hi, rfl⟩ := List.mem_iff_getElem.mp hp
    have h1 := h.2.1 i hi
    rw [List.getD_eq_getElem?_getD, List.getElem?_eq_getElem hi, Option.getD_some] at h1
    unfold inOk at h1
    exact okBytes_append a.Ins[i].Id.ok (okBytes_one (by omega)) y hy
  · unfold encOuts
    intro y hy
    obtain ⟨p, hp, hy⟩ := List.mem_flatMap.mp hy
    exact okBytes_low _ _ y hy
theorem conSV_rep32 : conSV (.int .u8 0) = .pl (.int .u8 0) := rfl
end Go.Proofs.Ytnancifnodbkdaa

