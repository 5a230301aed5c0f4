import Derived.Test.YtfmbifnbmlhhjaaA2
import Derived.Test.YtfmbifnbmlhhjaaUc
namespace Go.Proofs.Ytfmbifnbmlhhjaa
open Go Go.Vcg Go.IntWalk
set_option maxRecDepth 100000
set_option maxHeartbeats 20000000
set_option linter.unusedSimpArgs false
set_option linter.unusedVariables false
/-! ## Sets of numbers, as maps -/
def mSet (l : List Int) : List (Value × SV) := l.map fun x => (kI x, .pl (.bool true))
theorem lget_mSet (l : List Int) (k : Int) : lget (mSet l) (.int .i64 k) = if k ∈ l then some (.pl (.bool true)) else none := by
  induction l with
  | nil => rfl
  | cons x l ih =>
    unfold mSet at ih ⊢
    rw [List.map_cons, lget_cons, ih, veq_int]
    by_cases e : k = x
    · simp [e]
    · simp [e]
theorem lget_mSet2 (l : List Int) (k : Int) : (lget (mSet l) (.int .i64 k)).getD (.pl (.bool false)) = .pl (.bool (decide (k ∈ l))) := by
  rw [lget_mSet]
  by_cases e : k ∈ l <;> simp [e]
theorem lput_mSet (l : List Int) (k : Int) (h : k ∉ l) : lput (mSet l) (.int .i64 k) (.pl (.bool true)) = mSet (l ++ [k]) := by
  induction l with
  | nil => rfl
  | cons x l ih =>
    have h1 : ¬ k = x := fun e => h (e ▸ List.mem_cons_self ..)
    have h2 : k ∉ l := fun e => h (List.mem_cons_of_mem _ e)
    have := ih h2
    unfold mSet at this ⊢
    rw [List.map_cons, lput_cons, this, veq_int, List.cons_append, List.map_cons]
    simp [h1]
theorem mSet_keys (l : List Int) : keysE (.int .i64) (mSet l) = true := by
  unfold keysE mSet
  rw [List.all_map]
  exact List.all_eq_true.mpr fun p _ => rfl
theorem mSet_seen (l : List Int) : seenE (mSet l) = true := by
  unfold seenE mSet
  rw [List.all_map]
  exact List.all_eq_true.mpr fun p _ => rfl
theorem mSet_nil : mSet [] = [] := rfl
theorem killE_mSet (d : Nat) (l : List Int) : killE d (mSet l) = mSet l := by
  unfold killE mSet
  rw [List.map_map]
  rfl
theorem rnE_mSet (r : Nat → Option Nat) (l : List Int) : rnE r (mSet l) = mSet l := by
  unfold rnE mSet
  rw [List.map_map]
  rfl
theorem sbE_mSet (d : Nat) (g : SV → SV) (l : List Int) : sbE d g (mSet l) = mSet l := by
  unfold sbE mSet
  rw [List.map_map]
  rfl
theorem frzE_mSet (l : List Int) : frzE (mSet l) = mSet l := by
  rw [frzE_eq]
  unfold mSet
  rw [List.map_map]
  rfl
theorem shutE_mSet (l : List Int) : shutE (mSet l) = true := by
  rw [shutE_eq]
  unfold mSet
  rw [List.all_map]
  exact List.all_eq_true.mpr fun p _ => rfl
theorem cloE_mSet (l : List Int) : cloE (mSet l) = true := by
  unfold cloE mSet
  rw [List.all_map]
  exact List.all_eq_true.mpr fun p _ => rfl
attribute [go_sem] lget_mSet2 mSet_keys mSet_seen mSet_nil killE_mSet rnE_mSet sbE_mSet frzE_mSet shutE_mSet cloE_mSet
/-! ## Rows of one bool -/
def encBo (xs : List Bool) : List (List SV) := xs.map fun b => [.pl (.bool b)]
theorem encBo_length (xs : List Bool) : (encBo xs).length = xs.length := by simp [encBo]
theorem encBo_getD (xs : List Bool) (i : Nat) (h : i < xs.length) : (encBo xs).getD i [] = [.pl (.bool (xs.getD i false))] := by
  simp [encBo, List.getD_eq_getElem?_getD, h]
theorem encBo_set (xs : List Bool) (i : Nat) (x : Bool) : (encBo xs).set i [.pl (.bool x)] = encBo (xs.set i x) := by simp [encBo, List.map_set]
theorem encBo_replicate (n : Nat) (x : Bool) : List.replicate n [SV.pl (.bool x)] = encBo (List.replicate n x) := by simp [encBo]
theorem encBo_rowsLen (xs : List Bool) : RowsLen (encBo xs) 1 = True := by
  refine eq_true fun r hr => ?_
  obtain ⟨x, _, rfl⟩ := List.mem_map.mp hr
  rfl
theorem encBo_clo (xs : List Bool) : cloRows (encBo xs) = true := List.all_eq_true.mpr fun r hr => by obtain ⟨x, _, rfl⟩ := List.mem_map.mp hr; rfl
theorem encBo_dup (xs : List Bool) : dupRows (encBo xs) = true := List.all_eq_true.mpr fun r hr => by obtain ⟨x, _, rfl⟩ := List.mem_map.mp hr; rfl
theorem encBo_shut (xs : List Bool) : shutRows (encBo xs) = true := by rw [shutRows_eq]; exact List.all_eq_true.mpr fun r hr => by obtain ⟨x, _, rfl⟩ := List.mem_map.mp hr; simp [SV.shut]
theorem encBo_frz (xs : List Bool) : frzRows (encBo xs) = encBo xs := by
  rw [frzRows_eq]
  unfold encBo
  rw [List.map_map]
  exact List.map_congr_left fun x _ => by simp [frzL, SV.frz]
attribute [go_sem] encBo_length encBo_getD encBo_set encBo_replicate encBo_rowsLen encBo_clo encBo_dup encBo_shut encBo_frz
theorem zeroIsB : ZeroIs Try.prog 4 (.bool false) := by unfold ZeroIs; kernel_rfl
end Go.Proofs.Ytfmbifnbmlhhjaa

