/- Named blocks; states; a state that holds of a frame and a world. -/
import Derived.Test.YtekdhfppbahidaaU0
namespace Go.Vcg

/-- What a named block holds: rows of k cells; the entries of a map. -/
inductive Bk where
  | c (k : Nat) (rows : Rows)
  | m (es : List (Value × SV))

def killRows (d : Nat) (rows : Rows) : Rows := rows.map fun r => r.map (SV.kill1 d)
def Bk.kill (d : Nat) : Bk → Bk
  | .c k rows => .c k (killRows d rows)
  | .m es => .m (es.map fun e => (e.1, e.2.kill1 d))

/-- n: the number of slots; sl: the slots; bl: the named blocks. -/
structure St where
  n : Nat
  sl : List (Nat × SV)
  bl : List (Nat × Bk)

def St.get (st : St) (t : Nat) : SV := (st.sl.lookup t).getD .dead
def St.set (st : St) (t : Nat) (s : SV) : St := { st with sl := (t, s) :: st.sl }
def St.blk (st : St) (b : Nat) : Option Bk := st.bl.lookup b
def St.setBlk (st : St) (b : Nat) (r : Bk) : St := { st with bl := (b, r) :: st.bl }
/-- A name is forgotten everywhere. -/
def St.kill (st : St) (d : Nat) : St :=
  { n := st.n, sl := st.sl.map fun p => (p.1, p.2.kill d), bl := (st.bl.filter fun p => p.1 != d).map fun p => (p.1, p.2.kill d) }

theorem lookup_cons_if {α : Type} (l : List (Nat × α)) (t u : Nat) (s : α) : ((t, s) :: l).lookup u = if u = t then some s else l.lookup u := by
  by_cases h : u = t
  · subst h; simp
  · simp [List.lookup_cons, h, beq_eq_false_iff_ne.mpr h]
theorem St.get_set (st : St) (t u : Nat) (s : SV) : (st.set t s).get u = if u = t then s else st.get u := by
  unfold St.get St.set
  rw [lookup_cons_if]
  split <;> rfl
theorem St.blk_setBlk (st : St) (b x : Nat) (r : Bk) : (st.setBlk b r).blk x = if x = b then some r else st.blk x := lookup_cons_if ..
theorem lookup_map_snd {α β : Type} (l : List (Nat × α)) (f : α → β) (u : Nat) : (l.map fun p => (p.1, f p.2)).lookup u = (l.lookup u).map f := by
  induction l with
  | nil => rfl
  | cons p l ih =>
    obtain ⟨t, s⟩ := p
    rw [List.map_cons, lookup_cons_if, lookup_cons_if, ih]
    split <;> rfl
theorem lookup_filter_ne {α : Type} (l : List (Nat × α)) (d u : Nat) : (l.filter fun p => p.1 != d).lookup u = if u = d then none else l.lookup u := by
  induction l with
  | nil => simp
  | cons p l ih =>
    obtain ⟨t, s⟩ := p
    by_cases h : t = d
    · subst h
      simp only [List.filter_cons, bne_self_eq_false, Bool.false_eq_true, if_false]
      rw [ih, lookup_cons_if]
      by_cases e : u = t
      · rw [if_pos e, if_pos e]
      · rw [if_neg e, if_neg e, if_neg e]
    · have h2 : (t != d) = true := by simpa using h
      simp only [List.filter_cons, h2, if_true]
      rw [lookup_cons_if, ih, lookup_cons_if]
      by_cases e : u = t
      · subst e; rw [if_pos rfl, if_pos rfl, if_neg h]
      · rw [if_neg e, if_neg e]
theorem St.get_kill (st : St) (d t : Nat) : (st.kill d).get t = (st.get t).kill d := by
  unfold St.get St.kill
  simp only [lookup_map_snd]
  cases st.sl.lookup t <;> rfl
theorem St.blk_kill (st : St) (d b : Nat) : (st.kill d).blk b = if b = d then none else (st.blk b).map (Bk.kill d) := by
  unfold St.blk St.kill
  simp only [lookup_map_snd, lookup_filter_ne]
  split <;> rfl

/-- A cell of a named block: it may name other blocks, or own what it stands for. -/
def CRep (ρ : Nat → Option Loc) (S : Nat → Prop) (w : World) (v : Value) (c : SV) (F : Nat → Prop) : Prop := Rep ρ S w v c ∨ RepO S w v c F

structure CellsAt (ρ : Nat → Option Loc) (S : Nat → Prop) (w : World) (l : Loc) (rows : Rows) (F : Nat → Prop) : Prop where
  free : ∀ o, w.frozen? ⟨l.blk, o, none⟩ = false
  len : ∀ (i : Nat) (r : List SV), rows[i]? = some r → r.length = l.esz
  long : rows.length = l.len
  cell : ∃ G : Nat → Nat → Nat → Prop, (∀ i j x, G i j x → F x) ∧ (∀ i j i' j' x, G i j x → G i' j' x → i = i' ∧ j = j') ∧
    ∀ (i : Nat) (r : List SV) (j : Nat) (c : SV), rows[i]? = some r → r[j]? = some c → ∃ v, w.cell? (l.addr i j) = some v ∧ v.oneCell' = true ∧ CRep ρ S w v c (G i j)
structure MapAt (ρ : Nat → Option Loc) (S : Nat → Prop) (w : World) (l : Loc) (es : List (Value × SV)) (F : Nat → Prop) : Prop where
  ex : ∃ (ents : Array MapEntry) (clk : Nat) (vs : List Value) (G : Nat → Nat → Prop), w.heap[l.blk]? = some (.map ents clk) ∧ EntriesOf ents ((es.map (·.1)).zip vs) ∧ vs.length = es.length ∧ (∀ i x, G i x → F x) ∧ (∀ i j x, G i x → G j x → i = j) ∧
    ∀ (i : Nat) (v : Value) (e : Value × SV), vs[i]? = some v → es[i]? = some e → CRep ρ S w v e.2 (G i)

def BkOk (ρ : Nat → Option Loc) (S : Nat → Prop) (w : World) (F : Nat → Prop) (b : Nat) : Bk → Prop
  | .c k rows => (ρ b = none ∧ rows = []) ∨ ∃ l, ρ b = some l ∧ l.esz = k ∧ CellsAt ρ S w l rows F
  | .m es => ∃ l, ρ b = some l ∧ MapAt ρ S w l es F

/-- What belongs to a name. -/
def owns (ρ : Nat → Option Loc) (φ : Nat → Nat → Prop) (b x : Nat) : Prop := (∃ l, ρ b = some l ∧ l.blk = x) ∨ φ b x

theorem owns_ne {ρ : Nat → Option Loc} {φ : Nat → Nat → Prop} {d b x : Nat} {l : Option Loc} {F : Nat → Prop} (h : b ≠ d) : owns (fun x => if x = d then l else ρ x) (fun x => if x = d then F else φ x) b x ↔ owns ρ φ b x := by
  unfold owns; simp only [if_neg h]
theorem owns_same {ρ : Nat → Option Loc} {φ : Nat → Nat → Prop} {d x : Nat} {l : Option Loc} {F : Nat → Prop} : owns (fun x => if x = d then l else ρ x) (fun x => if x = d then F else φ x) d x ↔ (∃ l', l = some l' ∧ l'.blk = x) ∨ F x := by
  unfold owns; simp only [if_true]

/-- Named blocks, in memory. -/
structure HOk (ρ : Nat → Option Loc) (φ : Nat → Nat → Prop) (S : Nat → Prop) (w : World) (B : Nat → Option Bk) : Prop where
  blk : ∀ b k, B b = some k → BkOk ρ S w (φ b) b k
  inj : ∀ b b' x, B b ≠ none → B b' ≠ none → owns ρ φ b x → owns ρ φ b' x → b = b'
  self : ∀ b l, B b ≠ none → ρ b = some l → ¬ φ b l.blk
  notS : ∀ b x, B b ≠ none → owns ρ φ b x → ¬ S x
  lt : ∀ b x, B b ≠ none → owns ρ φ b x → x < w.heap.size

inductive Bk.Names : Bk → Nat → Prop
  | c (k : Nat) (rows : Rows) (r : List SV) (c : SV) (x : Nat) (hr : r ∈ rows) (hc : c ∈ r) (h : c.Names x) : Bk.Names (.c k rows) x
  | m (es : List (Value × SV)) (e : Value × SV) (x : Nat) (he : e ∈ es) (h : e.2.Names x) : Bk.Names (.m es) x

section
variable {ρ ρ' : Nat → Option Loc} {φ φ' : Nat → Nat → Prop} {S S' : Nat → Prop} {w w' : World} {F F' : Nat → Prop}

theorem CRep.mono {v : Value} {c : SV} (h : CRep ρ S w v c F) (hS : ∀ i, S i → S' i) (hsz : w.heap.size ≤ w'.heap.size) (hw : ∀ i, S i ∨ F i → i < w.heap.size → w'.heap[i]? = w.heap[i]?) (hb : ∀ i, S i → i < w.heap.size)
    (hn : ∀ b, c.Names b → ρ' b = ρ b) (hz : ∀ x, rowSize w x ≤ rowSize w' x) (hF : ∀ x, F x → F' x) : CRep ρ' S' w' v c F' := by
  rcases h with h | h
  · exact .inl (h.mono hS (fun i hi => hw i (.inl hi) (hb i hi)) hn hz)
  · exact .inr ((h.mono hS hsz hw hb).sub hF)

theorem CellsAt.mono {l : Loc} {rows : Rows} (h : CellsAt ρ S w l rows F) (hS : ∀ i, S i → S' i) (hsz : w.heap.size ≤ w'.heap.size) (hl : w'.heap[l.blk]? = w.heap[l.blk]?) (hw : ∀ i, S i ∨ F i → i < w.heap.size → w'.heap[i]? = w.heap[i]?) (hb : ∀ i, S i → i < w.heap.size)
    (hn : ∀ r ∈ rows, ∀ c ∈ r, ∀ b, c.Names b → ρ' b = ρ b) (hz : ∀ x, rowSize w x ≤ rowSize w' x) (hF : ∀ x, F x → F' x) : CellsAt ρ' S' w' l rows F' := by
  refine ⟨fun o => by rw [frozen_congr hl]; exact h.free o, h.len, h.long, ?_⟩
  obtain ⟨G, h1, h2, h3⟩ := h.cell
  refine ⟨G, fun i j x g => hF x (h1 i j x g), h2, fun i r j c g1 g2 => ?_⟩
  obtain ⟨v, e1, e2, e3⟩ := h3 i r j c g1 g2
  refine ⟨v, by rw [cell_congr hl]; exact e1, e2, e3.mono hS hsz (fun x hx => hw x (hx.imp id (h1 i j x))) hb (hn r (List.mem_of_getElem? g1) c (List.mem_of_getElem? g2)) hz fun _ h => h⟩
theorem MapAt.mono {l : Loc} {es : List (Value × SV)} (h : MapAt ρ S w l es F) (hS : ∀ i, S i → S' i) (hsz : w.heap.size ≤ w'.heap.size) (hl : w'.heap[l.blk]? = w.heap[l.blk]?) (hw : ∀ i, S i ∨ F i → i < w.heap.size → w'.heap[i]? = w.heap[i]?) (hb : ∀ i, S i → i < w.heap.size)
    (hn : ∀ e ∈ es, ∀ b, e.2.Names b → ρ' b = ρ b) (hz : ∀ x, rowSize w x ≤ rowSize w' x) (hF : ∀ x, F x → F' x) : MapAt ρ' S' w' l es F' := by
  obtain ⟨ents, clk, vs, G, h0, h1, h2, h3, h4, h5⟩ := h.ex
  refine ⟨ents, clk, vs, G, by rw [hl]; exact h0, h1, h2, fun i x g => hF x (h3 i x g), h4, fun i v e g1 g2 => ?_⟩
  exact (h5 i v e g1 g2).mono hS hsz (fun x hx => hw x (hx.imp id (h3 i x))) hb (hn e (List.mem_of_getElem? g2)) hz fun _ h => h
theorem BkOk.mono {b : Nat} {k : Bk} (h : BkOk ρ S w F b k) (hρ : ρ' b = ρ b) (hS : ∀ i, S i → S' i) (hsz : w.heap.size ≤ w'.heap.size) (hl : ∀ l, ρ b = some l → w'.heap[l.blk]? = w.heap[l.blk]?) (hw : ∀ i, S i ∨ F i → i < w.heap.size → w'.heap[i]? = w.heap[i]?) (hb : ∀ i, S i → i < w.heap.size)
    (hn : ∀ x, k.Names x → ρ' x = ρ x) (hz : ∀ x, rowSize w x ≤ rowSize w' x) (hF : ∀ x, F x → F' x) : BkOk ρ' S' w' F' b k := by
  cases k with
  | c k rows =>
    rcases h with ⟨h1, h2⟩ | ⟨l, h1, h2, h3⟩
    · exact .inl ⟨hρ.trans h1, h2⟩
    · exact .inr ⟨l, hρ.trans h1, h2, h3.mono hS hsz (hl l h1) hw hb (fun r hr c hc x hx => hn x (.c k rows r c x hr hc hx)) hz hF⟩
  | m es =>
    obtain ⟨l, h1, h2⟩ := h
    exact ⟨l, hρ.trans h1, h2.mono hS hsz (hl l h1) hw hb (fun e he x hx => hn x (.m es e x he hx)) hz hF⟩

theorem killRows_get {d : Nat} {rows : Rows} {i : Nat} {r : List SV} (h : (killRows d rows)[i]? = some r) : ∃ r', rows[i]? = some r' ∧ r = r'.map (SV.kill1 d) := by
  unfold killRows at h
  rw [List.getElem?_map, Option.map_eq_some_iff] at h
  obtain ⟨r', h1, h2⟩ := h
  exact ⟨r', h1, h2.symm⟩
theorem CRep.kill1 {v : Value} {c : SV} (d : Nat) (h : CRep ρ S w v c F) : CRep ρ S w v (c.kill1 d) F := by
  rcases h with h | h
  · exact .inl (h.kill1 d)
  · cases c with
    | ifc t s =>
      cases h with
      | per h => exact .inl (Rep.kill1 d (.per h))
      | ifc _ h =>
        rw [SV.kill1]
        cases s with
        | ifc _ _ => exact .inl (.ifc t (.dead _))
        | fn _ _ _ => exact .inl (.ifc t (.dead _))
        | ag _ => exact .inl (.ifc t (.dead _))
        | tu _ => exact .inl (.ifc t (.dead _))
        | cn _ _ => exact .inl (.ifc t (.dead _))
        | sl _ _ _ => cases h with | per h => cases h
        | sa _ _ _ _ _ => cases h with | per h => cases h
        | pt _ _ _ => cases h with | per h => cases h
        | mr _ => cases h with | per h => cases h
        | _ => exact .inr (.ifc t h)
    | fn f a b => cases h with | per h => exact .inl (Rep.kill1 d (.per h))
    | ag _ => exact .inl (.dead _)
    | tu _ => exact .inl (.dead _)
    | cn _ _ => exact .inl (.dead _)
    | sl _ _ _ => cases h with | per h => cases h
    | sa _ _ _ _ _ => cases h with | per h => cases h
    | pt _ _ _ => cases h with | per h => cases h
    | mr _ => cases h with | per h => cases h
    | _ => exact .inr h
theorem BkOk.kill {b : Nat} {k : Bk} (d : Nat) (h : BkOk ρ S w F b k) : BkOk ρ S w F b (k.kill d) := by
  cases k with
  | c k rows =>
    rcases h with ⟨h1, h2⟩ | ⟨l, h1, h2, h3⟩
    · exact .inl ⟨h1, by subst h2; rfl⟩
    · refine .inr ⟨l, h1, h2, h3.free, fun i r g => ?_, by unfold killRows; simpa using h3.long, ?_⟩
      · obtain ⟨r', g', rfl⟩ := killRows_get g
        simpa using h3.len i r' g'
      · obtain ⟨G, e1, e2, e3⟩ := h3.cell
        refine ⟨G, e1, e2, fun i r j c g1 g2 => ?_⟩
        obtain ⟨r', g3, rfl⟩ := killRows_get g1
        rw [List.getElem?_map, Option.map_eq_some_iff] at g2
        obtain ⟨c', g4, rfl⟩ := g2
        obtain ⟨v, f1, f2, f3⟩ := e3 i r' j c' g3 g4
        exact ⟨v, f1, f2, f3.kill1 d⟩
  | m es =>
    obtain ⟨l, h1, h2⟩ := h
    obtain ⟨ents, clk, vs, G, e0, e1, e2, e3, e4, e5⟩ := h2.ex
    refine ⟨l, h1, ents, clk, vs, G, e0, ?_, by simpa using e2, e3, e4, fun i v e g1 g2 => ?_⟩
    · rw [List.map_map]; exact e1
    · rw [List.getElem?_map, Option.map_eq_some_iff] at g2
      obtain ⟨c', g2, rfl⟩ := g2
      exact (e5 i v c' g1 g2).kill1 d
theorem Bk.kill_names {d x : Nat} {k : Bk} (h : (k.kill d).Names x) : x ≠ d ∧ k.Names x := by
  cases k with
  | c k rows =>
    cases h with
    | c _ _ r c _ hr hc h =>
      unfold killRows at hr
      obtain ⟨r', hr', rfl⟩ := List.mem_map.mp hr
      obtain ⟨c', hc', rfl⟩ := List.mem_map.mp hc
      exact ⟨(SV.kill1_names h).1, .c k rows r' c' x hr' hc' (SV.kill1_names h).2⟩
  | m es =>
    cases h with
    | m _ e _ he h =>
      obtain ⟨e', he', rfl⟩ := List.mem_map.mp he
      exact ⟨(SV.kill1_names h).1, .m es e' x he' (SV.kill1_names h).2⟩
end

/-- may: what may be written, of the blocks that were there; pin: what the names from 1000000 to 1999999 stand for, for good; wr: the names that may be written; ro: the blocks of the others. -/
structure Perm where
  may : Nat → Prop
  pin : Nat → Option Loc
  wr : Nat → Prop
  ro : Nat → Nat → Prop
instance : CoeFun Perm (fun _ => Nat → Prop) := ⟨Perm.may⟩

def isPin (b : Nat) : Prop := 1000000 ≤ b ∧ b < 2000000
instance (b : Nat) : Decidable (isPin b) := by unfold isPin; infer_instance

/-- The world around is left alone: the system, the tape, what has been printed. -/
def IOk (w w' : World) : Prop := w'.os = w.os ∧ w'.tape = w.tape ∧ w'.output = w.output
theorem IOk.refl (w : World) : IOk w w := ⟨rfl, rfl, rfl⟩
theorem IOk.trans {w w' w'' : World} (h : IOk w w') (h' : IOk w' w'') : IOk w w'' := ⟨h'.1.trans h.1, h'.2.1.trans h.2.1, h'.2.2.trans h.2.2⟩

/-- The state holds of the frame and the world; w0: the world at the call; M: the blocks of that world that the call may write. -/
structure Sim (w0 : World) (M : Perm) (S0 : Nat → Prop) (ρ : Nat → Option Loc) (φ : Nat → Nat → Prop) (S : Nat → Prop) (st : St) (a : Act) (w : World) : Prop where
  size : a.tmps.size = st.n
  defers : a.defers = []
  slot : ∀ t, Rep ρ S w (a.tmps.getD t undef) (st.get t)
  heap : HOk ρ φ S w st.blk
  sb : ∀ i, S i → i < w.heap.size
  base : ∀ i, S0 i → S i
  from_ : ∀ i, S i → S0 i ∨ M i ∨ w0.heap.size ≤ i ∨ ∃ b, M.ro b i
  grow : w0.heap.size ≤ w.heap.size
  keep : ∀ i, i < w0.heap.size → ¬ M i → w.heap[i]? = w0.heap[i]?
  own : ∀ b x, st.blk b ≠ none → owns ρ φ b x → (M x ∨ w0.heap.size ≤ x) ∨ (¬ M.wr b ∧ M.ro b x)
  pin : ∀ b, isPin b → st.blk b ≠ none → ρ b = M.pin b
  small : st.n ≤ 1000000
  wide : IOk w0 w ∧ ∀ x, rowSize w0 x ≤ rowSize w x

/-- The state holds, whatever the names stand for. -/
def Holds (w0 : World) (M : Perm) (S0 : Nat → Prop) (st : St) (a : Act) (w : World) : Prop := ∃ ρ φ S, Sim w0 M S0 ρ φ S st a w

variable {w0 : World} {M : Perm} {S0 : Nat → Prop} {ρ : Nat → Option Loc} {φ : Nat → Nat → Prop} {S : Nat → Prop} {st : St} {a : Act} {w : World}

theorem getD_put (a : Act) (d t : Nat) (v : Value) (hd : d < a.tmps.size) : (a.put (some d) v).tmps.getD t undef = if t = d then v else a.tmps.getD t undef := by
  show (a.tmps.setIfInBounds d v).getD t undef = _
  simp only [Array.getD_eq_getD_getElem?, Array.getElem?_setIfInBounds]
  by_cases h : d = t
  · subst h; simp [hd]
  · rw [if_neg h, if_neg (fun e => h e.symm)]

theorem Sim.setSlot (h : Sim w0 M S0 ρ φ S st a w) {d : Nat} {v : Value} {s : SV} (hd : d < st.n) (hr : Rep ρ S w v s) : Sim w0 M S0 ρ φ S (st.set d s) (a.put (some d) v) w := by
  refine ⟨by simpa [Act.put, St.set] using h.size, h.defers, fun t => ?_, h.heap, h.sb, h.base, h.from_, h.grow, h.keep, h.own, h.pin, h.small, h.wide⟩
  rw [getD_put a d t v (by rw [h.size]; exact hd), St.get_set]
  split
  · exact hr
  · exact h.slot t

/-- A slot is read otherwise. -/
theorem Sim.reslot (h : Sim w0 M S0 ρ φ S st a w) (t : Nat) {s : SV} (hr : Rep ρ S w (a.tmps.getD t undef) s) : Sim w0 M S0 ρ φ S (st.set t s) a w := by
  refine ⟨h.size, h.defers, fun u => ?_, h.heap, h.sb, h.base, h.from_, h.grow, h.keep, h.own, h.pin, h.small, h.wide⟩
  rw [St.get_set]
  split
  · rename_i e; subst e; exact hr
  · exact h.slot u

theorem HOk.later {B : Nat → Option Bk} {w' : World} (h : HOk ρ φ S w B) (hsb : ∀ i, S i → i < w.heap.size) (hsz : w.heap.size ≤ w'.heap.size) (hk : ∀ i, (S i ∨ ∃ b, B b ≠ none ∧ owns ρ φ b i) → i < w.heap.size → w'.heap[i]? = w.heap[i]?) (hz : ∀ x, rowSize w x ≤ rowSize w' x) : HOk ρ φ S w' B := by
  refine ⟨fun b k hb => ?_, h.inj, h.self, h.notS, fun b x hb hx => Nat.lt_of_lt_of_le (h.lt b x hb hx) hsz⟩
  have hne : B b ≠ none := by rw [hb]; simp
  exact (h.blk b k hb).mono rfl (fun _ h => h) hsz (fun l hl => hk _ (.inr ⟨b, hne, .inl ⟨l, hl, rfl⟩⟩) (h.lt b _ hne (.inl ⟨l, hl, rfl⟩))) (fun i hi => hk i (hi.imp id fun g => ⟨b, hne, .inr g⟩)) hsb (fun _ _ => rfl) hz (fun _ h => h)

theorem rowSize_later {w w' : World} (hk : ∀ i, i < w.heap.size → w'.heap[i]? = w.heap[i]?) (x : Nat) : rowSize w x ≤ rowSize w' x := by
  by_cases hx : x < w.heap.size
  · rw [rowSize_congr (hk x hx)]; exact Nat.le_refl _
  · unfold rowSize; rw [Array.getElem?_eq_none (by omega)]; exact Nat.zero_le _

/-- Memory may be added. -/
theorem Sim.later {w' : World} (h : Sim w0 M S0 ρ φ S st a w) (hsz : w.heap.size ≤ w'.heap.size) (hk : ∀ i, i < w.heap.size → w'.heap[i]? = w.heap[i]?) (hio : IOk w w' := by exact ⟨rfl, rfl, rfl⟩) : Sim w0 M S0 ρ φ S st a w' := by
  have hz := rowSize_later hk
  refine ⟨h.size, h.defers, fun t => (h.slot t).mono (fun _ h => h) (fun i hi => hk i (h.sb i hi)) (fun _ _ => rfl) hz, h.heap.later h.sb hsz (fun i _ hi => hk i hi) hz, fun i hi => Nat.lt_of_lt_of_le (h.sb i hi) hsz, h.base, h.from_,
    Nat.le_trans h.grow hsz, fun i h1 h2 => (hk i (Nat.lt_of_lt_of_le h1 h.grow)).trans (h.keep i h1 h2), h.own, h.pin, h.small, h.wide.1.trans hio, fun x => Nat.le_trans (h.wide.2 x) (hz x)⟩

theorem Sim.drew (h : Sim w0 M S0 ρ φ S st a w) : Sim w0 M S0 ρ φ S st a { w with drawn := w.drawn + 1 } := h.later (Nat.le_refl _) fun _ _ => rfl

theorem blk_kill_ne {d b : Nat} {k : Bk} (h : (st.kill d).blk b = some k) : b ≠ d ∧ ∃ k', st.blk b = some k' ∧ k = k'.kill d := by
  rw [St.blk_kill] at h
  split at h
  · cases h
  · rw [Option.map_eq_some_iff] at h
    obtain ⟨k', h1, h2⟩ := h
    exact ⟨by assumption, k', h1, h2.symm⟩
theorem blk_kill_has {d b : Nat} (h : (st.kill d).blk b ≠ none) : b ≠ d ∧ st.blk b ≠ none := by
  obtain ⟨k, hk⟩ := Option.ne_none_iff_exists'.mp h
  obtain ⟨h1, k', h2, _⟩ := blk_kill_ne hk
  exact ⟨h1, by rw [h2]; simp⟩

/-- A name is forgotten. -/
theorem Sim.kill (h : Sim w0 M S0 ρ φ S st a w) (d : Nat) : Sim w0 M S0 ρ φ S (st.kill d) a w := by
  refine ⟨h.size, h.defers, fun t => by rw [St.get_kill]; exact (h.slot t).kill d, ⟨fun b k hb => ?_, fun b b' x h1 h2 => h.heap.inj b b' x (blk_kill_has h1).2 (blk_kill_has h2).2, fun b l h1 => h.heap.self b l (blk_kill_has h1).2,
    fun b x h1 => h.heap.notS b x (blk_kill_has h1).2, fun b x h1 => h.heap.lt b x (blk_kill_has h1).2⟩, h.sb, h.base, h.from_, h.grow, h.keep, fun b x h1 => h.own b x (blk_kill_has h1).2, fun b h1 h2 => h.pin b h1 (blk_kill_has h2).2, h.small, h.wide⟩
  obtain ⟨_, k', h1, rfl⟩ := blk_kill_ne hb
  exact (h.heap.blk b k' h1).kill d

/-- Nothing in the state bears the name. -/
def St.Free (st : St) (d : Nat) : Prop := st.blk d = none ∧ (∀ t, ¬ (st.get t).Names d) ∧ ∀ b k, st.blk b = some k → ¬ k.Names d
theorem St.kill_free (st : St) (d : Nat) : (st.kill d).Free d :=
  ⟨by rw [St.blk_kill, if_pos rfl], fun t h => by rw [St.get_kill] at h; exact (SV.kill_names h).1 rfl, fun b k hb h => by
    obtain ⟨_, k', _, rfl⟩ := blk_kill_ne hb
    exact (Bk.kill_names h).1 rfl⟩

/-- A free name may stand for anything. -/
theorem Sim.rename (h : Sim w0 M S0 ρ φ S st a w) {d : Nat} (hf : st.Free d) (l : Option Loc) (F : Nat → Prop) : Sim w0 M S0 (fun x => if x = d then l else ρ x) (fun x => if x = d then F else φ x) S st a w := by
  have hρ : ∀ x, x ≠ d → (fun x => if x = d then l else ρ x) x = ρ x := fun x hx => if_neg hx
  have hne : ∀ b, st.blk b ≠ none → b ≠ d := fun b hb e => hb (e ▸ hf.1)
  have ho : ∀ b x, st.blk b ≠ none → owns (fun x => if x = d then l else ρ x) (fun x => if x = d then F else φ x) b x → owns ρ φ b x := fun b x hb hx => by
    exact (owns_ne (hne b hb)).mp hx
  refine ⟨h.size, h.defers, fun t => (h.slot t).mono (fun _ h => h) (fun _ _ => rfl) (fun b hb => hρ b fun e => hf.2.1 t (e ▸ hb)) (fun _ => Nat.le_refl _), ⟨fun b k hb => ?_, fun b b' x h1 h2 e1 e2 => h.heap.inj b b' x h1 h2 (ho b x h1 e1) (ho b' x h2 e2), fun b l' h1 e1 => ?_,
    fun b x h1 e1 => h.heap.notS b x h1 (ho b x h1 e1), fun b x h1 e1 => h.heap.lt b x h1 (ho b x h1 e1)⟩, h.sb, h.base, h.from_, h.grow, h.keep, fun b x h1 e1 => h.own b x h1 (ho b x h1 e1), fun b h1 h2 => ?_, h.small, h.wide⟩
  · have hb' : st.blk b ≠ none := by rw [hb]; simp
    simp only [if_neg (hne b hb')]
    exact (h.heap.blk b k hb).mono (hρ b (hne b hb')) (fun _ h => h) (Nat.le_refl _) (fun _ _ => rfl) (fun _ _ _ => rfl) h.sb (fun x hx => hρ x fun e => hf.2.2 b k hb (e ▸ hx)) (fun _ => Nat.le_refl _) (fun _ h => h)
  · simp only [if_neg (hne b h1)] at e1 ⊢
    exact h.heap.self b l' h1 e1
  · simp only [if_neg (hne b h2)]; exact h.pin b h1 h2

/-- A new block under a name that is free. -/
theorem Sim.addBlk (h : Sim w0 M S0 ρ φ S st a w) {d : Nat} {k : Bk} (hd : st.blk d = none) (hp : ¬ isPin d) (hb : BkOk ρ S w (φ d) d k) (hi : ∀ b x, st.blk b ≠ none → owns ρ φ b x → ¬ owns ρ φ d x) (hs : ∀ l, ρ d = some l → ¬ φ d l.blk)
    (hS : ∀ x, owns ρ φ d x → ¬ S x) (hl : ∀ x, owns ρ φ d x → x < w.heap.size) (ho : ∀ x, owns ρ φ d x → M x ∨ w0.heap.size ≤ x) : Sim w0 M S0 ρ φ S (st.setBlk d k) a w := by
  have hh : ∀ b, (st.setBlk d k).blk b ≠ none → b = d ∨ st.blk b ≠ none := fun b hr => by
    rw [St.blk_setBlk] at hr
    by_cases e : b = d
    · exact .inl e
    · rw [if_neg e] at hr; exact .inr hr
  refine ⟨h.size, h.defers, h.slot, ⟨fun b r hr => ?_, fun b b' x h1 h2 e1 e2 => ?_, fun b l h1 => ?_, fun b x h1 => ?_, fun b x h1 => ?_⟩, h.sb, h.base, h.from_, h.grow, h.keep, fun b x h1 e1 => ?_, fun b h1 h2 => ?_, h.small, h.wide⟩
  · rw [St.blk_setBlk] at hr
    by_cases e : b = d
    · rw [if_pos e] at hr; obtain rfl := Option.some.inj hr; subst e; exact hb
    · rw [if_neg e] at hr; exact h.heap.blk b r hr
  · rcases hh b h1 with g1 | g1 <;> rcases hh b' h2 with g2 | g2
    · exact g1.trans g2.symm
    · subst g1; exact absurd e1 (hi b' x g2 e2)
    · subst g2; exact absurd e2 (hi b x g1 e1)
    · exact h.heap.inj b b' x g1 g2 e1 e2
  · rcases hh b h1 with rfl | g
    · exact hs l
    · exact h.heap.self b l g
  · rcases hh b h1 with rfl | g
    · exact hS x
    · exact h.heap.notS b x g
  · rcases hh b h1 with rfl | g
    · exact hl x
    · exact h.heap.lt b x g
  · rcases hh b h1 with rfl | g
    · exact .inl (ho x e1)
    · exact h.own b x g e1
  · rcases hh b h2 with rfl | g
    · exact absurd h1 hp
    · exact h.pin b h1 g

/-- A block turns, and what is said of it. -/
theorem Sim.turn {w' : World} (h : Sim w0 M S0 ρ φ S st a w) {b : Nat} (hw : M.wr b) {l : Loc} {k k' : Bk} (hb : st.blk b = some k) (hl : ρ b = some l) (hsz : w'.heap.size = w.heap.size) (hk : ∀ i, i ≠ l.blk → w'.heap[i]? = w.heap[i]?)
    (hz : rowSize w l.blk ≤ rowSize w' l.blk) (hok : BkOk ρ S w' (φ b) b k') (hio : IOk w w' := by exact ⟨rfl, rfl, rfl⟩) : Sim w0 M S0 ρ φ S (st.setBlk b k') a w' := by
  have hne : st.blk b ≠ none := by rw [hb]; simp
  have ho : owns ρ φ b l.blk := .inl ⟨l, hl, rfl⟩
  have hnS := h.heap.notS b _ hne ho
  have hz' : ∀ x, rowSize w x ≤ rowSize w' x := fun x => by
    by_cases e : x = l.blk
    · subst e; exact hz
    · rw [rowSize_congr (hk x e)]; exact Nat.le_refl _
  have hh : ∀ x, (st.setBlk b k').blk x ≠ none → st.blk x ≠ none := fun x hx => by
    rw [St.blk_setBlk] at hx
    by_cases e : x = b
    · subst e; exact hne
    · rw [if_neg e] at hx; exact hx
  refine ⟨h.size, h.defers, fun t => (h.slot t).mono (fun _ h => h) (fun i hi => hk i fun e => hnS (e ▸ hi)) (fun _ _ => rfl) hz', ⟨fun x r hr => ?_, fun x x' y h1 h2 => h.heap.inj x x' y (hh x h1) (hh x' h2), fun x l h1 => h.heap.self x l (hh x h1), fun x y h1 => h.heap.notS x y (hh x h1),
    fun x y h1 h2 => by rw [hsz]; exact h.heap.lt x y (hh x h1) h2⟩, fun i hi => by rw [hsz]; exact h.sb i hi, h.base, h.from_, by rw [hsz]; exact h.grow, fun i h1 h2 => ?_, fun x y h1 => h.own x y (hh x h1), fun x h1 h2 => h.pin x h1 (hh x h2), h.small, h.wide.1.trans hio, fun x => Nat.le_trans (h.wide.2 x) (hz' x)⟩
  · rw [St.blk_setBlk] at hr
    by_cases e : x = b
    · rw [if_pos e] at hr; obtain rfl := Option.some.inj hr; subst e; exact hok
    · rw [if_neg e] at hr
      have hx : st.blk x ≠ none := by rw [hr]; simp
      have hdis : ∀ y, owns ρ φ x y → y ≠ l.blk := fun y hy g => e (h.heap.inj x b y hx hne hy (g ▸ ho))
      exact (h.heap.blk x r hr).mono rfl (fun _ h => h) (by omega) (fun l' hl' => hk _ (hdis _ (.inl ⟨l', hl', rfl⟩))) (fun i hi _ => hk i (hi.elim (fun g e => hnS (e ▸ g)) fun g => hdis i (.inr g))) h.sb (fun _ _ => rfl) hz' (fun _ h => h)
  · rw [hk i ?_]
    · exact h.keep i h1 h2
    · rintro rfl
      rcases h.own b _ hne ho with (g | g) | g
      · exact h2 g
      · omega
      · exact g.1 hw

/-- A block of which the state does not speak turns. -/
theorem Sim.turnOff {w' : World} (h : Sim w0 M S0 ρ φ S st a w) (x : Nat) (hx : ¬ S x) (hn : ∀ b, st.blk b ≠ none → ¬ owns ρ φ b x) (hm : M x ∨ w0.heap.size ≤ x) (hsz : w'.heap.size = w.heap.size) (hk : ∀ i, i ≠ x → w'.heap[i]? = w.heap[i]?)
    (hz : rowSize w x ≤ rowSize w' x) (hio : IOk w w' := by exact ⟨rfl, rfl, rfl⟩) : Sim w0 M S0 ρ φ S st a w' := by
  have hz' : ∀ y, rowSize w y ≤ rowSize w' y := fun y => by
    by_cases e : y = x
    · subst e; exact hz
    · rw [rowSize_congr (hk y e)]; exact Nat.le_refl _
  refine ⟨h.size, h.defers, fun t => (h.slot t).mono (fun _ h => h) (fun i hi => hk i fun e => hx (e ▸ hi)) (fun _ _ => rfl) hz', h.heap.later h.sb (by omega) (fun i hi _ => hk i ?_) hz', fun i hi => by rw [hsz]; exact h.sb i hi, h.base, h.from_, by rw [hsz]; exact h.grow,
    fun i h1 h2 => ?_, h.own, h.pin, h.small, h.wide.1.trans hio, fun x => Nat.le_trans (h.wide.2 x) (hz' x)⟩
  · rintro rfl
    rcases hi with hi | ⟨b, hb, hi⟩
    · exact hx hi
    · exact hn b hb hi
  · rw [hk i ?_]
    · exact h.keep i h1 h2
    · rintro rfl
      rcases hm with g | g
      · exact h2 g
      · omega

theorem heap_alloc_old (w : World) (o : Obj) (i : Nat) (h : i < w.heap.size) : (w.alloc o).heap[i]? = w.heap[i]? := by
  show (w.heap.push o)[i]? = _
  rw [Array.getElem?_push, if_neg (by omega)]
theorem heap_alloc_at (w : World) (o : Obj) : (w.alloc o).heap[w.heap.size]? = some o := by
  show (w.heap.push o)[w.heap.size]? = _
  simp
theorem size_alloc (w : World) (o : Obj) : (w.alloc o).heap.size = w.heap.size + 1 := by
  show (w.heap.push o).size = _
  simp

/-- A new block in memory, under a name that is free; what it holds may own blocks of F that nobody else has. -/
theorem Sim.newBlk (h : Sim w0 M S0 ρ φ S st a w) {d : Nat} (hf : st.Free d) (hp : ¬ isPin d) (l : Loc) (hlb : l.blk = w.heap.size) (F : Nat → Prop) (k : Bk) (o : Obj)
    (hF1 : ∀ x, F x → ¬ S x ∧ x < w.heap.size ∧ (M x ∨ w0.heap.size ≤ x) ∧ ∀ b, st.blk b ≠ none → ¬ owns ρ φ b x)
    (hok : ∀ ρ', (∀ x, x ≠ d → ρ' x = ρ x) → ρ' d = some l → BkOk ρ' S (w.alloc o) F d k) : ∃ ρ' φ', Sim w0 M S0 ρ' φ' S (st.setBlk d k) a (w.alloc o) ∧ ρ' d = some l ∧ ∀ x, x ≠ d → ρ' x = ρ x := by
  have h1 := (h.later (w' := w.alloc o) (by rw [size_alloc]; omega) (fun i hi => heap_alloc_old w o i hi)).rename hf (some l) F
  refine ⟨_, _, h1.addBlk hf.1 hp ?_ ?_ ?_ ?_ ?_ ?_, if_pos rfl, fun x hx => if_neg hx⟩
  · simp only [if_true]; exact hok _ (fun x hx => if_neg hx) (if_pos rfl)
  · intro b x hb hx hx'
    have hbd : b ≠ d := fun e => hb (e ▸ hf.1)
    have hx := (owns_ne hbd).mp hx
    have hx' := owns_same.mp hx'
    rcases hx' with ⟨l', e1, e2⟩ | hx'
    · obtain rfl := Option.some.inj e1
      have := h.heap.lt b x hb hx
      omega
    · exact (hF1 x hx').2.2.2 b hb hx
  · intro l' e1 e2
    simp only [if_true] at e1 e2
    obtain rfl := Option.some.inj e1
    have := (hF1 _ e2).2.1
    omega
  · intro x hx hS
    have hx := owns_same.mp hx
    rcases hx with ⟨l', e1, e2⟩ | hx
    · obtain rfl := Option.some.inj e1
      have := h.sb x hS
      omega
    · exact (hF1 x hx).1 hS
  · intro x hx
    have hx := owns_same.mp hx
    rw [size_alloc]
    rcases hx with ⟨l', e1, e2⟩ | hx
    · obtain rfl := Option.some.inj e1
      omega
    · have := (hF1 x hx).2.1; omega
  · intro x hx
    have hx := owns_same.mp hx
    rcases hx with ⟨l', e1, e2⟩ | hx
    · obtain rfl := Option.some.inj e1
      have := h.grow
      exact .inr (by omega)
    · exact (hF1 x hx).2.2.1

theorem heap_setCell_other (w : World) (x : Addr) (v : Value) (i : Nat) (h : i ≠ x.block) : (w.setCell x v).heap[i]? = w.heap[i]? := by
  unfold World.setCell
  simp only [Array.getElem?_modify]
  rw [if_neg (fun e => h e.symm)]
theorem rowSize_setCell (w : World) (x : Addr) (v : Value) (i : Nat) : rowSize (w.setCell x v) i = rowSize w i := by
  unfold rowSize World.setCell
  simp only [Array.getElem?_modify]
  by_cases e : x.block = i
  · rw [if_pos e]
    cases hi : w.heap[i]? with
    | none => rfl
    | some o => cases o <;> simp <;> split <;> simp
  · rw [if_neg e]
theorem size_setCell (w : World) (x : Addr) (v : Value) : (w.setCell x v).heap.size = w.heap.size := by
  unfold World.setCell
  simp

end Go.Vcg
