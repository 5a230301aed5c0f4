/- Structs among an argument's cells. -/
import Derived.Test.YtekdhfppbahidaaU24
namespace Go.Vcg

section
variable {H : Type} {enc : TypeId × Value → H} {P : Program} {w : World} {t : TypeId}

/-- A struct's fields, one behind the other. -/
def fieldsAt (P : Program) : List Field → Nat → Nat → Bool
  | [], o, n => o == n
  | f :: fs, o, n => f.offset == o && fieldsAt P fs (o + P.cellsOf f.type) n
/-- The rest of a struct's cells, from a field on. -/
def EncFs (enc : TypeId × Value → H) (P : Program) (w : World) (fs : List Field) {A : Type} (f : A → List SV) (ok : A → Prop) : Prop :=
  ∀ (o : Nat) (cs : List Value), fieldsAt P fs o (o + cs.length) = true → (∀ (g : Field), g ∈ fs → Rd enc P w g.type ((cs.drop (g.offset - o)).take (P.cellsOf g.type))) → ∃ a, RowRep w cs (f a) ∧ ok a
theorem EncFs.nil : EncFs enc P w [] (fun _ : Unit => []) (fun _ => True) := fun o cs h _ => by
  have : cs = [] := by
    simp only [fieldsAt, beq_iff_eq] at h
    exact List.length_eq_zero_iff.mp (by omega)
  subst this
  exact ⟨(), ⟨rfl, fun j v s h => by simp at h⟩, trivial⟩
theorem fieldsAt_ge {P : Program} : ∀ {fs : List Field} {o n : Nat}, fieldsAt P fs o n = true → o ≤ n ∧ ∀ g ∈ fs, o ≤ g.offset ∧ g.offset + P.cellsOf g.type ≤ n
  | [], o, n, h => by
    simp only [fieldsAt, beq_iff_eq] at h
    exact ⟨by omega, fun g hg => by simp at hg⟩
  | f :: fs, o, n, h => by
    simp only [fieldsAt, Bool.and_eq_true, beq_iff_eq] at h
    obtain ⟨h1, h2⟩ := fieldsAt_ge h.2
    refine ⟨by omega, fun g hg => ?_⟩
    rcases List.mem_cons.mp hg with rfl | hg
    · omega
    · have := h2 g hg; omega
theorem EncFs.cons {g : Field} {fs : List Field} {A B : Type} {f : A → List SV} {ok : A → Prop} {f' : B → List SV} {ok' : B → Prop} (h1 : EncP enc P w g.type f ok) (h2 : EncFs enc P w fs f' ok') : EncFs enc P w (g :: fs) (fun x : A × B => f x.1 ++ f' x.2) (fun x => ok x.1 ∧ ok' x.2) := fun o cs h hr => by
  have hge := (fieldsAt_ge h).2
  simp only [fieldsAt, Bool.and_eq_true, beq_iff_eq] at h
  have hg := hge g (by simp)
  have hn : P.cellsOf g.type ≤ cs.length := by omega
  have r0 := hr g (by simp)
  rw [h.1, Nat.sub_self, List.drop_zero] at r0
  obtain ⟨a, ha, oka⟩ := h1 _ r0
  have hl : (cs.drop (P.cellsOf g.type)).length = cs.length - P.cellsOf g.type := List.length_drop
  obtain ⟨b, hb, okb⟩ := h2 (o + P.cellsOf g.type) (cs.drop (P.cellsOf g.type)) (by rw [hl, show o + P.cellsOf g.type + (cs.length - P.cellsOf g.type) = o + cs.length from by omega]; exact h.2) fun g' hg' => by
    have h3 := hr g' (by simp [hg'])
    have h4 := (fieldsAt_ge h.2).2 g' hg'
    rw [List.drop_drop, show P.cellsOf g.type + (g'.offset - (o + P.cellsOf g.type)) = g'.offset - o from by omega]
    exact h3
  refine ⟨(a, b), ?_, oka, okb⟩
  have := ha.append hb
  rw [List.take_append_drop] at this
  exact this
theorem EncFs.struct {fs : Array Field} {A B : Type} {f : A → List SV} {ok : A → Prop} {g : B → List SV} {ok' : B → Prop} (ht : P.underlying t = some (.struct fs)) (hf : fieldsAt P fs.toList 0 (P.cellsOf t) = true) (h : EncFs enc P w fs.toList f ok) (m : A → B) (hm : ∀ a, f a = g (m a)) (ho : ∀ a, ok a → ok' (m a)) : EncP enc P w t g ok' := fun cs hr => by
  obtain ⟨h1, h2⟩ := hr.struct ht
  obtain ⟨a, ha, oka⟩ := h 0 cs (by rw [Nat.zero_add, h1]; exact hf) fun x hx => by
    obtain ⟨i, hi⟩ := List.getElem?_of_mem hx
    exact h2 i x (by rw [← Array.getElem?_toList]; exact hi)
  exact ⟨m a, hm a ▸ ha, ho a oka⟩
/-- Another way to say what holds. -/
theorem EncP.imp {A : Type} {f : A → List SV} {ok ok' : A → Prop} (h : EncP enc P w t f ok) (hi : ∀ a, ok a → ok' a) : EncP enc P w t f ok' := fun cs hr => let ⟨a, h1, h2⟩ := h cs hr; ⟨a, h1, hi a h2⟩

/-- The reading of an argument that is no struct. -/
theorem EncP.arg1 {A : Type} {s : A → SV} {ok : A → Prop} (h : EncP enc P w t (fun a => [s a]) ok) {v : Value} {d : DataW H} {ps : List MemPlace} (hv : v.cells.toList = [v]) (hd : DataW.Trod enc P w 0 (fun _ => true) true t v d ps) (hw : ∀ x ∈ d.weights P t, x ≤ reachBytes) : ∃ a, RepP (allBlk w) w v (s a) ∧ ok a := by
  obtain ⟨n, hn⟩ := hd
  obtain ⟨a, h1, h2⟩ := h _ ⟨n, d, ps, hn, hw⟩
  rw [hv] at h1
  exact ⟨a, (h1.rep 0 v (s a) rfl rfl).1, h2⟩
/-- The reading of a struct. -/
theorem EncP.argS {A : Type} {f : A → List SV} {ok : A → Prop} (h : EncP enc P w t f ok) {vs : Array Value} {d : DataW H} {ps : List MemPlace} (hd : DataW.Trod enc P w 0 (fun _ => true) true t (.agg vs) d ps) (hw : ∀ x ∈ d.weights P t, x ≤ reachBytes) : ∃ a, RepP (allBlk w) w (.agg vs) (.ag (f a)) ∧ ok a := by
  obtain ⟨n, hn⟩ := hd
  obtain ⟨a, h1, h2⟩ := h vs.toList ⟨n, d, ps, hn, hw⟩
  exact ⟨a, RepP.ag vs.toList (f a) h1.len fun i v c g1 g2 => (h1.rep i v c g1 g2).1, h2⟩
end

end Go.Vcg
