/- What a guard has let in is there. -/
import Derived.Test.YtekdhfppbahidaaU27
namespace Go.Vcg
variable {C : Cx} {st : St} {K : St → Prop} {o : Oper}
theorem X.asm (t : Nat) {c : Bool} {s : SV} (h : st.get t = .cn c s) (hc : c = true) (hK : Sop C o (st.set t s) K) : Sop C o st K := by
  unfold Sop at hK ⊢
  intro Q a w hq ⟨ρ, φ, S, hs⟩
  refine hK Q a w hq ⟨ρ, φ, S, hs.reslot t ?_⟩
  have h1 := hs.slot t
  rw [h, hc] at h1
  generalize a.tmps.getD t undef = v at h1
  cases h1 with
  | per h => cases h
  | cn _ _ _ h1 _ => exact h1 rfl
section
variable {ops : Array Oper} {l : List Oper} {dst : Option Nat} {ty : Nat} {op : Op} {pos : String} {af : Array Edge}
/-- What the guard's bool is. -/
theorem O.split {j e : Nat} {want c g : Bool} {oj : Oper} (_hj : ops[j]? = some oj) (_hdj : oj.dst = some e) (_hv : gVal (st.get e) = some (c, g)) (h1 : g = true → Sl C ops ({ dst := dst, op := op, type := ty, pos := pos, after := af, guard := some (j, want) } :: l) st K)
    (h2 : g = false → Sl C ops ({ dst := dst, op := op, type := ty, pos := pos, after := af, guard := some (j, want) } :: l) st K) : Sl C ops ({ dst := dst, op := op, type := ty, pos := pos, after := af, guard := some (j, want) } :: l) st K := by
  cases g with
  | true => exact h1 rfl
  | false => exact h2 rfl
end
end Go.Vcg
