/- A pick whose bool is known. -/
import Derived.Test.YtcmnbefdbckhcaaUc
namespace Go.Vcg
section
variable {w0 : World} {M : Perm} {S0 : Nat → Prop} {ρ : Nat → Option Loc} {φ : Nat → Nat → Prop} {S : Nat → Prop} {st : St} {a : Act} {w : World} {C : Cx} {K : St → Prop} {ty d : Nat} {pos : String} {af : Array Edge} {g : Option (Nat × Bool)} {c x y : Operand}
theorem sPick {b : Bool} (hc : st.ev c = .pl (.bool b)) (hK : K (st.set d (if b then st.ev x else st.ev y))) (hd : d < st.n) : Sop C { dst := some d, op := .pick c x y, type := ty, pos := pos, after := af, guard := g } st K := by
  unfold Sop
  intro Q a w _ ⟨ρ, φ, S, h⟩
  have hrc := h.ev c
  rw [hc] at hrc
  refine wp_value (v := if b then a.eval x else a.eval y) (w' := w) ?_ ⟨_, hK, ρ, φ, S, h.setSlot hd ?_⟩
  · unfold execOp
    simp [hrc.pl_eq, asBool]
  · cases b
    · exact h.ev y
    · exact h.ev x
theorem sPt (hK : K (st.set d (st.ev x))) (hc : st.ev c = .pl (.bool true) := by exact ev) (hd : d < st.n := by exact nn) : Sop C { dst := some d, op := .pick c x y, type := ty, pos := pos, after := af, guard := g } st K := sPick hc hK hd
theorem sPf (hK : K (st.set d (st.ev y))) (hc : st.ev c = .pl (.bool false) := by exact ev) (hd : d < st.n := by exact nn) : Sop C { dst := some d, op := .pick c x y, type := ty, pos := pos, after := af, guard := g } st K := sPick hc hK hd
end
end Go.Vcg
