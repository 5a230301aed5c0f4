/- Building structs and arrays; numbers, texts, bools; all operations that only compute or read, together. -/
import Derived.Test.YtekdhfppbahidaaU6
import Derived.Laws.Tables
namespace Go.Vcg

variable {w0 : World} {M : Perm} {S0 : Nat → Prop} {ρ : Nat → Option Loc} {φ : Nat → Nat → Prop} {S : Nat → Prop} {st : St} {a : Act} {w : World} {P : Program} {T : Nat → Option TI}

/-! ## Cells of values -/

def RelL (ρ : Nat → Option Loc) (S : Nat → Prop) (w : World) (vs : List Value) (cs : List SV) : Prop :=
  vs.length = cs.length ∧ ∀ (i : Nat) (v : Value) (c : SV), vs[i]? = some v → cs[i]? = some c → Rep ρ S w v c

/-- A value's cells. -/
def SV.cells : SV → Option (List SV)
  | .ag cs => some cs
  | .pl (.agg vs) => some (vs.toList.map conSV)
  | .tu _ => none
  | .cn _ _ => none
  | .dead => none
  | s => some [s]

theorem relL_con (vs : List Value) : RelL ρ S w vs (vs.map conSV) := by
  refine ⟨by simp, fun i v c h1 h2 => ?_⟩
  rw [List.getElem?_map, h1] at h2
  simp at h2
  subst h2
  exact .per (conSV_rep S w v)
theorem relL_one {v : Value} {s : SV} (h : Rep ρ S w v s) : RelL ρ S w [v] [s] := by
  refine ⟨rfl, fun i u c h1 h2 => ?_⟩
  cases i with
  | zero => simp at h1 h2; subst h1; subst h2; exact h
  | succ i => simp at h1
theorem Rep.cells {v : Value} {s : SV} {cs : List SV} (h : Rep ρ S w v s) (hc : s.cells = some cs) : RelL ρ S w v.cells.toList cs := by
  unfold SV.cells at hc
  split at hc
  · obtain rfl := Option.some.inj hc
    obtain ⟨vs, rfl, hl, h⟩ := h.ag_inv
    exact ⟨hl, h⟩
  · obtain rfl := Option.some.inj hc
    obtain rfl := h.pl_eq
    exact relL_con _
  · cases hc
  · cases hc
  · cases hc
  · rename_i s h1 h2 h3 h4 h5
    obtain rfl := Option.some.inj hc
    have : v.cells = #[v] := by
      cases h with
      | per h =>
        cases h with
        | pl => cases v <;> first | rfl | exact absurd rfl (h2 _)
        | dead => exact absurd rfl h5
        | ag => exact absurd rfl (h1 _)
        | tu => exact absurd rfl (h3 _)
        | _ => rfl
      | cn => exact absurd rfl (h4 _ _)
      | ag => exact absurd rfl (h1 _)
      | tu => exact absurd rfl (h3 _)
      | _ => rfl
    rw [this]
    exact relL_one h

/-- Cells are laid into a row. -/
def putAt (row : List SV) (off : Nat) : List SV → List SV
  | [] => row
  | c :: cs => putAt (row.set off c) (off + 1) cs
theorem putAt_length (cs : List SV) : ∀ (row : List SV) (off : Nat), (putAt row off cs).length = row.length := by
  induction cs with
  | nil => intro row off; rfl
  | cons c cs ih => intro row off; rw [putAt, ih]; simp

theorem relL_set {arr : Array Value} {row : List SV} (h : RelL ρ S w arr.toList row) {i : Nat} {v : Value} {c : SV} (hr : Rep ρ S w v c) : RelL ρ S w (arr.setIfInBounds i v).toList (row.set i c) := by
  refine ⟨by simpa using h.1, fun j u d h1 h2 => ?_⟩
  simp only [Array.toList_setIfInBounds, List.getElem?_set] at h1 h2
  by_cases e : i = j
  · subst e
    rw [if_pos rfl] at h1 h2
    split at h1 <;> try (cases h1; done)
    split at h2 <;> try (cases h2; done)
    obtain rfl := Option.some.inj h1
    obtain rfl := Option.some.inj h2
    exact hr
  · rw [if_neg e] at h1 h2
    exact h.2 j u d h1 h2
theorem relL_fold (vs : List Value) : ∀ (cs : List SV) (k off : Nat) (arr : Array Value) (row : List SV), RelL ρ S w arr.toList row → RelL ρ S w vs cs →
    RelL ρ S w ((vs.zipIdx k).foldl (fun cs x => cs.setIfInBounds (off + x.2) x.1) arr).toList (putAt row (off + k) cs) := by
  induction vs with
  | nil =>
    intro cs k off arr row h hv
    have : cs = [] := List.length_eq_zero_iff.mp hv.1.symm
    subst this
    exact h
  | cons v vs ih =>
    intro cs k off arr row h hv
    cases cs with
    | nil => simp [RelL] at hv
    | cons c cs =>
      rw [List.zipIdx_cons, List.foldl_cons, putAt]
      have := ih cs (k + 1) off (arr.setIfInBounds (off + k) v) (row.set (off + k) c) (relL_set h (hv.2 0 v c rfl rfl)) ⟨by have := hv.1; simpa using this, fun i u d h1 h2 => hv.2 (i + 1) u d h1 h2⟩
      rw [show off + (k + 1) = off + k + 1 from by omega] at this
      exact this

/-! ## build -/

/-- The parts are laid where they belong. -/
def fillSV (place : Nat → Option (Nat × Nat)) (row : List SV) : List (Nat × SV) → Option (List SV)
  | [] => some row
  | (i, s) :: rest => match place i, s.cells with
    | some (off, size), some cs => if cs.length = size ∧ off + cs.length ≤ row.length then fillSV place (putAt row off cs) rest else none
    | _, _ => none
theorem fill_ok (place : Nat → Option (Nat × Nat)) (ps : List (Nat × Operand)) (ρa : Operand → Value) (ev : Operand → SV) (hev : ∀ x, Rep ρ S w (ρa x) (ev x)) :
    ∀ (arr : Array Value) (row row' : List SV), RelL ρ S w arr.toList row → fillSV place row (ps.map fun p => (p.1, ev p.2)) = some row' →
    ∃ arr', Instr.fill place arr (ps.map fun p => (p.1, ρa p.2)) = some arr' ∧ RelL ρ S w arr'.toList row' := by
  induction ps with
  | nil =>
    intro arr row row' h he
    simp only [List.map_nil, fillSV, Option.some.injEq] at he
    subst he
    exact ⟨arr, rfl, h⟩
  | cons p ps ih =>
    intro arr row row' h he
    simp only [List.map_cons, fillSV] at he
    split at he <;> try (cases he; done)
    rename_i off size cs hp hc
    split at he <;> try (cases he; done)
    rename_i hg
    have hrel := (hev p.2).cells hc
    have hsz : (ρa p.2).cells.size = size := by rw [← hg.1, ← hrel.1, Array.length_toList]
    have hsz2 : arr.size = row.length := by rw [← h.1, Array.length_toList]
    have hfold := relL_fold (ρa p.2).cells.toList cs 0 off arr row h hrel
    rw [Nat.add_zero] at hfold
    obtain ⟨arr', h1, h2⟩ := ih _ _ row' hfold he
    refine ⟨arr', ?_, h2⟩
    simp only [List.map_cons, Instr.fill, hp]
    have hcond : ¬ (((ρa p.2).cells.size ≠ size || decide (off + (ρa p.2).cells.size > arr.size)) = true) := by
      simp only [Bool.or_eq_true, decide_eq_true_eq, not_or]
      refine ⟨fun h => h hsz, ?_⟩
      rw [hsz, hsz2, ← hg.1]
      omega
    rw [if_neg hcond, ← h1]
    congr 1
    rw [← Array.foldl_toList]
    simp

def structPlace (T : Nat → Option TI) (fs : List (Nat × Nat)) (i : Nat) : Option (Nat × Nat) := match fs[i]? with
  | some (off, ft) => (T ft).map fun fi => (off, fi.size)
  | none => none
def allKnown (T : Nat → Option TI) (fs : List (Nat × Nat)) : Bool := fs.all fun f => (T f.2).isSome

def pBuild (T : Nat → Option TI) (t : Nat) (parts : List (Nat × SV)) : Option (Prop × SV) := match T t with
  | some ti => match ti.k with
    | .struct fs => if allKnown T fs then (fillSV (structPlace T fs) (ti.zero.map conSV) parts).map fun row => (True, .ag row) else none
    | .arr _ e => match T e with
      | some ei => (fillSV (fun i => some (i * ei.size, ei.size)) (ti.zero.map conSV) parts).map fun row => (True, .ag row)
      | none => none
    | _ => none
  | none => none

theorem places_ok (hT : TOk P T) (fs : List Field) (h : allKnown T (fs.map fun f => (f.offset, f.type)) = true) :
    ∃ places, fs.mapM (fun f => (P.info? f.type).map fun i => (f.offset, i.size)) = some places ∧ ∀ i, places[i]? = structPlace T (fs.map fun f => (f.offset, f.type)) i := by
  induction fs with
  | nil => exact ⟨[], rfl, fun i => by simp [structPlace]⟩
  | cons f fs ih =>
    simp only [allKnown, List.map_cons, List.all_cons, Bool.and_eq_true] at h
    obtain ⟨h1, h2⟩ := h
    obtain ⟨fi, h1⟩ := Option.isSome_iff_exists.mp h1
    obtain ⟨places, h3, h4⟩ := ih h2
    obtain ⟨i0, z, g1, _, _, g4, _⟩ := (hT _ fi h1).parts
    refine ⟨(f.offset, fi.size) :: places, ?_, fun i => ?_⟩
    · simp [List.mapM_cons, g1, h3, g4]
    · cases i with
      | zero => simp [structPlace, h1]
      | succ i => simpa [structPlace] using h4 i

theorem pBuild_ok (hT : TOk P T) {e : Operand → SV} (hev : ∀ x, Rep ρ S w (a.eval x) (e x)) {t : Nat} {parts : Array (Nat × Operand)} {sv : SV} {side : Prop} (he : pBuild T t (parts.toList.map fun p => (p.1, e p.2)) = some (side, sv)) :
    ∃ u, (∀ w', (Instr.build t (parts.map fun (i, x) => (i, a.eval x))).run P w' = .ok u w') ∧ Rep ρ S w u sv := by
  unfold pBuild at he
  split at he <;> try (cases he; done)
  rename_i ti ht
  obtain ⟨d, h1, h2⟩ := (hT t ti ht).run_und
  obtain ⟨z, h3, h4⟩ := (hT t ti ht).run_zero
  have hrel : RelL ρ S w z.cells.toList (ti.zero.map conSV) := by rw [h4]; exact relL_con _
  have hmap : (parts.map fun (i, x) => (i, a.eval x)).toList = parts.toList.map fun p => (p.1, a.eval p.2) := by simp
  split at he
  · rename_i fs hk
    split at he <;> try (cases he; done)
    rename_i hall
    obtain ⟨row, g1, g2⟩ := Option.map_eq_some_iff.mp he
    simp only [Prod.mk.injEq] at g2
    obtain ⟨_, rfl⟩ := g2
    rw [hk] at h2
    obtain ⟨arr, rfl, h6⟩ := tk_struct h2
    rw [← h6] at hall g1
    obtain ⟨places, p1, p2⟩ := places_ok hT arr.toList hall
    obtain ⟨arr', f1, f2⟩ := fill_ok (structPlace T (arr.toList.map fun f => (f.offset, f.type))) parts.toList a.eval e hev _ _ _ hrel g1
    refine ⟨.agg arr', fun w' => ?_, ?_⟩
    · have : (fun i => (places.toArray)[i]?) = structPlace T (arr.toList.map fun f => (f.offset, f.type)) := by
        funext i; rw [← p2 i]; simp
      simp only [Instr.build, Sem.run_bind, h3, Result.andThen_ok, h1, Array.mapM_eq_mapM_toList]
      have hp := run_places (P := P) w' arr.toList places p1
      simp only [Sem.run_map, bind_pure_comp, hp, Result.andThen_ok, hmap, this, f1, Sem.run_pure]
    · have := Rep.ag (ρ := ρ) (S := S) (w := w) arr'.toList row f2.1 f2.2
      simpa using this
  · rename_i n el hk
    split at he <;> try (cases he; done)
    rename_i ei hei
    obtain ⟨row, g1, g2⟩ := Option.map_eq_some_iff.mp he
    simp only [Prod.mk.injEq] at g2
    obtain ⟨_, rfl⟩ := g2
    rw [hk] at h2
    obtain rfl := tk_arr h2
    obtain ⟨arr', f1, f2⟩ := fill_ok (fun i => some (i * ei.size, ei.size)) parts.toList a.eval e hev _ _ _ hrel g1
    refine ⟨.agg arr', fun w' => ?_, ?_⟩
    · simp only [Instr.build, Sem.run_bind, h3, Result.andThen_ok, h1, (hT el ei hei).run_size, hmap, f1, Sem.run_pure]
    · have := Rep.ag (ρ := ρ) (S := S) (w := w) arr'.toList row f2.1 f2.2
      simpa using this
  · cases he

end Go.Vcg
