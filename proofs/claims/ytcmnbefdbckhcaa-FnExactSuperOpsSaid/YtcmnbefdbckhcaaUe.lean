/- A pick whose bool is known. -/
import Derived.Test.YtcmnbefdbckhcaaUc
namespace Go.Vcg
section
variable {w0 : World} {M : Perm} {S0 : Nat → Prop} {ρ : Nat → Option Loc} {φ : Nat → Nat → Prop} {S : Nat → Prop} {st : St} {a : Act} {w : World} {C : Cx} {K : St → Prop} {ty d : Nat} {pos : String} {af : Array Edge} {g : Option (Nat × Bool)} {c x y : Operand}
theorem sPick {b : Bool} (hc : st.ev c = .pl (.bool b)) (hK : K (st.set d (if b then st.ev x else st.ev y))) (hd : d < st.n) : Sop C { dst := some d, op := .pick c x y, type := ty, pos := pos, after := af, guard := g } st K := by
  unfold Sop
  intro Q a w _ ⟨ρ, φ, S, h⟩
  have hrc := h.ev c
  rw [hc] at hrc
  refine wp_value (v := if b then a.eval x else a.eval y) (w' := w) ?_ ⟨_, hK, ρ, φ, S, h.setSlot hd ?_⟩
  · unfold execOp
    simp [hrc.pl_eq, asBool]
  · cases b
    · exact h.ev y
    · exact h.ev x
theorem sPt (hK : K (st.set d (st.ev x))) (hc : st.ev c = .pl (.bool true) := by exact ev) (hd : d < st.n := by exact nn) : Sop C { dst := some d, op := .pick c x y, type := ty, pos := pos, after := af, guard := g } st K := sPick hc hK hd
theorem sPf (hK : K (st.set d (st.ev y))) (hc : st.ev c = .pl (.bool false) := by exact ev) (hd : d < st.n := by exact nn) : Sop C { dst := some d, op := .pick c x y, type := ty, pos := pos, after := af, guard := g } st K := sPick hc hK hd
def nnl : SV → Option Prop
  | .pd rows => some (0 < rows.length)
  | .sl _ _ n => some (0 < n)
  | _ => none
theorem nnl_ok {ρ : Nat → Option Loc} {S : Nat → Prop} {w : World} {v : Value} {s : SV} {p : Prop} (h : Rep ρ S w v s) (he : nnl s = some p) (hp : p) : ∃ ad n c, v = .slice (some ad) n c := by
  unfold nnl at he
  split at he
  · obtain rfl := Option.some.inj he
    cases h with
    | per h => cases h <;> first | exact ⟨_, _, _, rfl⟩ | (simp at hp; done)
  · obtain rfl := Option.some.inj he
    cases h with
    | per h => cases h
    | sl => exact ⟨_, _, _, rfl⟩
    | sl0 => exact absurd hp (by omega)
  · cases he
theorem eqs_none (P : Program) (d t e : Nat) (ad : Addr) (n c n' c' : Nat) (w' : World) (h : P.underlying t = some (.slice e)) : (Op.equalIn (d + 1) t (.slice (some ad) n c) (.slice none n' c')).run P w' = .ok false w' := by
  simp [Op.equalIn, run_underlying h]
theorem sEN {T : Nat → Option TI} {t e : Nat} {side : Prop} {yt : Nat} (hK : K (st.set d (.pl (.bool false)))) (hT : TOk C.P T := by exact tyOk) (ht : slK T t = some e := by exact ev) (hx : nnl (st.ev x) = some side := by exact ev) (hy : st.ev y = .nl := by exact ev) (hs : side := by exact pm) (hd : d < st.n := by exact nn) :
    Sop C { dst := some d, op := .binOp .eql t x y yt, type := ty, pos := pos, after := af, guard := g } st K := by
  unfold Sop
  intro Q a w _ ⟨ρ, φ, S, h⟩
  unfold slK at ht
  split at ht <;> try (cases ht; done)
  rename_i ti hti'
  split at ht <;> try (cases ht; done)
  rename_i e' hk
  obtain ⟨dd, u1, u2⟩ := (hT t ti hti').und
  rw [hk] at u2
  obtain rfl := tk_slice u2
  obtain ⟨ad, n, c', hv⟩ := nnl_ok (h.ev x) hx hs
  have hrs := h.ev y
  rw [hy] at hrs
  have hb : a.eval y = .slice none 0 0 := by
    generalize a.eval y = v at hrs
    cases hrs with
    | per hp => cases hp; rfl
  refine wp_value (v := .bool false) (w' := w) ?_ ⟨_, hK, ρ, φ, S, h.setSlot hd (.per (.pl _))⟩
  have key := (eql_of (P := C.P) x y (fun op => by rw [eqGuard_at_slice]; rfl) rfl rfl (eqs_none C.P _ t _ ad n c' 0 0 w u1)).1
  show Sem.run C.P (do
    let r ← (do
      eqGuard .eql t x y (a.eval x) (a.eval y)
      binOp .eql t (a.eval x) (a.eval y))
    pure (Next.value r)) w = _
  rw [hv, hb, Sem.run_bind, key]
  rfl
attribute [go_sem] nnl
end
end Go.Vcg
