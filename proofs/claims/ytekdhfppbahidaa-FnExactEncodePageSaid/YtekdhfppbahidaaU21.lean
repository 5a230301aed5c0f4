/- Rows of operations, as far as they go without a call. -/
import Derived.Test.YtekdhfppbahidaaU20
namespace Go.Vcg

variable {C : Cx} {st : St} {Q : SQ} {K : St → Prop} {ops : Array Oper} {l : List Oper} {ks : List Kont}

/-- One operation: what it wants, and the state behind it. -/
def stepO (T : Nat → Option TI) (wr : Nat → Prop) (ops : Array Oper) (st : St) (o : Oper) : Option (Prop × St) := match o.guard with
  | none => match o.dst with
    | some d => match pev T st st.ev o.op with
      | some (side, sv) => some (d < st.n ∧ side, st.set d sv)
      | none => xop T wr st (some d) o.op
    | none => xop T wr st none o.op
  | some (j, want) => match ops[j]?, o.dst with
    | some oj, some d => match oj.dst with
      | some e => match gVal (st.get e) with
        | some (c, g) => match pev T st (fun x => (st.ev x).assume (gWant want c g)) o.op with
          | some (side, sv) => some (e < st.n ∧ d < st.n ∧ (gWant want c g = true → side), st.set d (.cn (gWant want c g) sv))
          | none => none
        | none => none
      | none => none
    | _, _ => none

theorem stepO_ok {T : Nat → Option TI} (hT : TOk C.P T) {o : Oper} {p : Prop} {st' : St} (he : stepO T C.M.wr ops st o = some (p, st')) (hp : p) (hK : K st') : So C ops o st K := by
  unfold stepO at he
  split at he
  · rename_i hg
    split at he
    · rename_i d hd
      split at he
      · rename_i side sv hpe
        obtain ⟨rfl, rfl⟩ := Prod.mk.inj (Option.some.inj he)
        exact So.op hg (Sop.pure hT hpe hp.2 (by rw [hd]; exact hp.1) (by rw [hd]; exact hK))
      · exact So.op hg (xop_ok hT (by rw [hd]; exact he) hp hK)
    · rename_i hd
      exact So.op hg (xop_ok hT (by rw [hd]; exact he) hp hK)
  · rename_i j want hg
    split at he <;> try (cases he; done)
    rename_i oj d hj hd
    split at he <;> try (cases he; done)
    rename_i e hdj
    split at he <;> try (cases he; done)
    rename_i c g hv
    split at he <;> try (cases he; done)
    rename_i side sv hpe
    obtain ⟨rfl, rfl⟩ := Prod.mk.inj (Option.some.inj he)
    exact So.guardPure hT hg hj hdj hp.1 hv (by rw [hd]; exact hp.2.1) hpe hp.2.2 (by rw [hd]; exact hK)

def runM (T : Nat → Option TI) (wr : Nat → Prop) (ops : Array Oper) : List Oper → St → Prop × St × List Oper
  | [], st => (True, st, [])
  | o :: l, st => match stepO T wr ops st o with
    | some (p, st1) => (p ∧ (runM T wr ops l st1).1, (runM T wr ops l st1).2.1, (runM T wr ops l st1).2.2)
    | none => (True, st, o :: l)
theorem runM_ok {T : Nat → Option TI} (hT : TOk C.P T) : ∀ (l : List Oper) (st : St), (runM T C.M.wr ops l st).1 → Sl C ops (runM T C.M.wr ops l st).2.2 (runM T C.M.wr ops l st).2.1 K → Sl C ops l st K := by
  intro l
  induction l with
  | nil => intro st _ h; exact h
  | cons o l ih =>
    intro st hp h
    rw [runM] at hp h
    split at hp
    · rename_i p st1 he
      rw [he] at h
      exact Sl.cons (stepO_ok hT he hp.1 (ih st1 hp.2 h))
    · rename_i he
      rw [he] at h
      exact h
/-- At least one operation, and all that follow as far as it goes. -/
theorem O.run {T : Nat → Option TI} (hT : TOk C.P T) {o : Oper} {p q : Prop} {st1 st' : St} {rest : List Oper} (h1 : stepO T C.M.wr ops st o = some (p, st1)) (h2 : runM T C.M.wr ops l st1 = (q, st', rest)) (hp : p) (hq : q) (h : p → q → Sl C ops rest st' K) : Sl C ops (o :: l) st K :=
  Sl.cons (stepO_ok hT h1 hp (runM_ok hT l st1 (by rw [h2]; exact hq) (by rw [h2]; exact h hp hq)))

end Go.Vcg
