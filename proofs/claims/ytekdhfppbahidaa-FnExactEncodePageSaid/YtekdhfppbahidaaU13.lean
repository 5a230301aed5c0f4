/- Contracts; what is handed to a call. -/
import Derived.Test.YtekdhfppbahidaaU12
namespace Go.Vcg

variable {w0 : World} {M : Perm} {S0 : Nat → Prop} {ρ : Nat → Option Loc} {φ : Nat → Nat → Prop} {S : Nat → Prop} {st : St} {a : Act} {w : World} {P : Program} {T : Nat → Option TI} {C : Cx} {K : St → Prop} {o : Oper}

/-- How a call ends. -/
inductive Out where
  | ret (s : SV)
  | pan (chain : List PanicEntry)

abbrev Pins := List (Nat × Bk)
def pk (ps : Pins) (b : Nat) : Option Bk := ps.lookup b

/-- What belongs to named blocks. -/
def ownsAny (ρ : Nat → Option Loc) (φ : Nat → Nat → Prop) (B : Nat → Option Bk) (x : Nat) : Prop := ∃ b, B b ≠ none ∧ owns ρ φ b x

structure MRet (S' : Nat → Prop) (ρ' : Nat → Option Loc) (φ' : Nat → Nat → Prop) (B' : Nat → Option Bk) (X : Nat → Prop) (w w' : World) (v : Value) (s : SV) : Prop where
  ex : ∃ F : Nat → Prop, RepO S' w' v s F ∧ ∀ x, F x → (X x ∨ w.heap.size ≤ x) ∧ x < w'.heap.size ∧ ¬ S' x ∧ ¬ ownsAny ρ' φ' B' x

/-- What a call leaves. -/
structure MPost (S : Nat → Prop) (w : World) (ρ : Nat → Option Loc) (φ : Nat → Nat → Prop) (pins : Pins) (sh : Bool) (e : Ending) (w' : World) (o : Out) (pins' : Pins) (ρ' : Nat → Option Loc) (φ' : Nat → Nat → Prop) (S' : Nat → Prop) : Prop where
  grow : w.heap.size ≤ w'.heap.size
  keep : ∀ i, i < w.heap.size → ¬ ownsAny ρ φ (pk pins) i → w'.heap[i]? = w.heap[i]?
  heap : HOk ρ' φ' S' w' (pk pins')
  same : ∀ b, pk pins' b ≠ none → pk pins b ≠ none ∧ ρ' b = ρ b
  part : ∀ x, ownsAny ρ' φ' (pk pins') x → ownsAny ρ φ (pk pins) x ∨ w.heap.size ≤ x
  perm : ∀ i, S' i → (sh = true ∧ S i) ∨ w.heap.size ≤ i ∨ ownsAny ρ φ (pk pins) i
  slt : ∀ i, S' i → i < w'.heap.size
  wide : IOk w w' ∧ ∀ x, rowSize w x ≤ rowSize w' x
  out : match o with
    | .ret s => ∃ v, e = .returned v ∧ MRet S' ρ' φ' (pk pins') (ownsAny ρ φ (pk pins)) w w' v s
    | .pan ch => e = .panicked ch

/-- A contract: pins: the named blocks that are handed over to be written; sh: what comes back may share memory with the arguments. -/
def MSpec (P : Program) (f : Nat) (pins : Pins) (args : List SV) (sh : Bool) (post : Pins → Out → Prop) : Prop :=
  ∀ (w : World) (S : Nat → Prop) (ρ : Nat → Option Loc) (φ : Nat → Nat → Prop) (vals : List Value), (∀ i, S i → i < w.heap.size) → HOk ρ φ S w (pk pins) → (∀ b, pk pins b ≠ none → isPin b) → vals.length = args.length →
    (∀ (i : Nat) (v : Value) (s : SV), vals[i]? = some v → args[i]? = some s → Rep ρ S w v s) →
    Calls P f vals.toArray w fun e w' => ∃ o pins' ρ' φ' S', post pins' o ∧ MPost S w ρ φ pins sh e w' o pins' ρ' φ' S'

/-- Contracts of functions that write nothing that is there. -/
def FSpec (P : Program) (f : Nat) (args : List SV) (sh : Bool) (r : SV) : Prop := MSpec P f [] args sh fun ps o => ps = [] ∧ o = .ret r

/-! ## Names are turned, several at once -/

def SV.rn0 (r : Nat → Option Nat) : SV → SV
  | .sl b i n => match r b with
    | some b' => .sl b' i n
    | none => .dead
  | .sa b i o k n => match r b with
    | some b' => .sa b' i o k n
    | none => .dead
  | .pt b i o => match r b with
    | some b' => .pt b' i o
    | none => .dead
  | .mr b => match r b with
    | some b' => .mr b'
    | none => .dead
  | .ifc _ _ => .dead
  | .fn _ _ _ => .dead
  | .ag _ => .dead
  | .tu _ => .dead
  | .cn _ _ => .dead
  | s => s
def SV.rn1 (r : Nat → Option Nat) : SV → SV
  | .ifc t s => .ifc t (s.rn0 r)
  | .fn f a b => .fn f (a.map (SV.rn0 r)) (b.map (SV.rn0 r))
  | s => s.rn0 r
def rnRows (r : Nat → Option Nat) (rows : Rows) : Rows := rows.map fun x => x.map (SV.rn1 r)
def Bk.rn (r : Nat → Option Nat) : Bk → Bk
  | .c k rows => .c k (rnRows r rows)
  | .m es => .m (es.map fun e => (e.1, e.2.rn1 r))

section
variable {ρ' : Nat → Option Loc} {S' : Nat → Prop} {r : Nat → Option Nat}
theorem Rep.rn0 (hr : ∀ b b', r b = some b' → ρ' b' = ρ b) (hS : ∀ i, S i → S' i) {v : Value} {s : SV} (h : Rep ρ S w v s) : Rep ρ' S' w v (s.rn0 r) := by
  cases s with
  | sl b i n =>
    rw [SV.rn0]
    split
    · rename_i b' e
      cases h with
      | sl _ _ _ cap l hb hc hi hz => exact .sl b' i n cap l ((hr b b' e).trans hb) hc hi hz
      | sl0 ad => exact .sl0 ad b' i
      | per h => cases h
    · exact .dead v
  | sa b i o k n =>
    rw [SV.rn0]
    split
    · rename_i b' e
      cases h with
      | sa _ _ _ _ _ cap l hb hc hi ho => exact .sa b' i o k n cap l ((hr b b' e).trans hb) hc hi ho
      | per h => cases h
    · exact .dead v
  | pt b i o =>
    rw [SV.rn0]
    split
    · rename_i b' e
      cases h with
      | pt _ _ _ l hb => exact .pt b' i o l ((hr b b' e).trans hb)
      | per h => cases h
    · exact .dead v
  | mr b =>
    rw [SV.rn0]
    split
    · rename_i b' e
      cases h with
      | mr _ l hb => exact .mr b' l ((hr b b' e).trans hb)
      | per h => cases h
    · exact .dead v
  | ifc _ _ => exact .dead v
  | fn _ _ _ => exact .dead v
  | ag _ => exact .dead v
  | tu _ => exact .dead v
  | cn _ _ => exact .dead v
  | _ => cases h with | per h => exact .per (h.mono hS fun _ _ => rfl)
theorem Rep.rn1 (hr : ∀ b b', r b = some b' → ρ' b' = ρ b) (hS : ∀ i, S i → S' i) {v : Value} {s : SV} (h : Rep ρ S w v s) : Rep ρ' S' w v (s.rn1 r) := by
  cases s with
  | ifc t s =>
    cases h with
    | ifc _ h => exact .ifc t (h.rn0 hr hS)
    | per h => cases h with
      | ifc _ h => exact .ifc t (Rep.rn0 (ρ := ρ) hr hS (.per h))
  | fn f x y =>
    cases h with
    | fn _ va vb _ _ ha hb h1 h2 => exact .fn f va vb _ _ (by simpa using ha) (by simpa using hb) (relmap (fun v c h => h.rn0 hr hS) h1) (relmap (fun v c h => h.rn0 hr hS) h2)
    | per h => cases h with
      | fn _ va vb _ _ ha hb h1 h2 => exact .fn f va vb _ _ (by simpa using ha) (by simpa using hb) (relmap (fun v c h => Rep.rn0 (ρ := ρ) hr hS (.per h)) h1) (relmap (fun v c h => Rep.rn0 (ρ := ρ) hr hS (.per h)) h2)
  | _ => exact h.rn0 hr hS
theorem CRep.rn1 (hr : ∀ b b', r b = some b' → ρ' b' = ρ b) (hS : ∀ i, S i → S' i) (hb : ∀ i, S i → i < w.heap.size) {F : Nat → Prop} {v : Value} {c : SV} (h : CRep ρ S w v c F) : CRep ρ' S' w v (c.rn1 r) F := by
  rcases h with h | h
  · exact .inl (h.rn1 hr hS)
  · have hm : ∀ {v c}, RepO S w v c F → RepO S' w v c F := fun h => h.mono hS (Nat.le_refl _) (fun _ _ _ => rfl) hb
    cases c with
    | ifc t s =>
      cases h with
      | per h => exact .inl (Rep.rn1 (ρ := ρ) hr hS (.per h))
      | ifc _ h =>
        rw [SV.rn1]
        cases s with
        | ifc _ _ => exact .inl (.ifc t (.dead _))
        | fn _ _ _ => exact .inl (.ifc t (.dead _))
        | ag _ => exact .inl (.ifc t (.dead _))
        | tu _ => exact .inl (.ifc t (.dead _))
        | cn _ _ => exact .inl (.ifc t (.dead _))
        | sl _ _ _ => cases h with | per h => cases h
        | sa _ _ _ _ _ => cases h with | per h => cases h
        | pt _ _ _ => cases h with | per h => cases h
        | mr _ => cases h with | per h => cases h
        | _ => exact .inr (.ifc t (hm h))
    | fn f a b => cases h with | per h => exact .inl (Rep.rn1 (ρ := ρ) hr hS (.per h))
    | ag _ => exact .inl (.dead _)
    | tu _ => exact .inl (.dead _)
    | cn _ _ => exact .inl (.dead _)
    | sl _ _ _ => cases h with | per h => cases h
    | sa _ _ _ _ _ => cases h with | per h => cases h
    | pt _ _ _ => cases h with | per h => cases h
    | mr _ => cases h with | per h => cases h
    | _ => exact .inr (hm h)
theorem BkOk.rn (hr : ∀ b b', r b = some b' → ρ' b' = ρ b) (hS : ∀ i, S i → S' i) (hb : ∀ i, S i → i < w.heap.size) {F : Nat → Prop} {b b' : Nat} {k : Bk} (h : BkOk ρ S w F b k) (hbb : ρ' b' = ρ b) : BkOk ρ' S' w F b' (k.rn r) := by
  cases k with
  | c k rows =>
    rcases h with ⟨h1, h2⟩ | ⟨l, h1, h2, h3⟩
    · exact .inl ⟨hbb.trans h1, by subst h2; rfl⟩
    · have hk : ∀ {i : Nat} {x : List SV}, (rnRows r rows)[i]? = some x → ∃ r', rows[i]? = some r' ∧ x = r'.map (SV.rn1 r) := fun {i x} h => by
        unfold rnRows at h
        rw [List.getElem?_map, Option.map_eq_some_iff] at h
        obtain ⟨r', h1, h2⟩ := h
        exact ⟨r', h1, h2.symm⟩
      refine .inr ⟨l, hbb.trans h1, h2, h3.free, fun i r g => ?_, by unfold rnRows; simpa using h3.long, ?_⟩
      · obtain ⟨r', g', rfl⟩ := hk g
        simpa using h3.len i r' g'
      · obtain ⟨G, e1, e2, e3⟩ := h3.cell
        refine ⟨G, e1, e2, fun i r j c g1 g2 => ?_⟩
        obtain ⟨r', g3, rfl⟩ := hk g1
        rw [List.getElem?_map, Option.map_eq_some_iff] at g2
        obtain ⟨c', g4, rfl⟩ := g2
        obtain ⟨v, f1, f2, f3⟩ := e3 i r' j c' g3 g4
        exact ⟨v, f1, f2, f3.rn1 hr hS hb⟩
  | m es =>
    obtain ⟨l, h1, h2⟩ := h
    obtain ⟨ents, clk, vs, G, e0, e1, e2, e3, e4, e5⟩ := h2.ex
    refine ⟨l, hbb.trans h1, ents, clk, vs, G, e0, ?_, by simpa using e2, e3, e4, fun i v e g1 g2 => ?_⟩
    · rw [List.map_map]; exact e1
    · rw [List.getElem?_map, Option.map_eq_some_iff] at g2
      obtain ⟨c', g2, rfl⟩ := g2
      exact (e5 i v c' g1 g2).rn1 hr hS hb
end

/-! ## What is lent -/

/-- A value as one sees it who may not write: cells of its own memory, frozen. -/
def lend0 (B : Nat → Option Bk) : SV → SV
  | .sl b i n => match B b with
    | some k => frzRef k (.sl b i n)
    | none => .dead
  | .sa b i o k' n => match B b with
    | some k => frzRef k (.sa b i o k' n)
    | none => .dead
  | .pt b i o => match B b with
    | some k => frzRef k (.pt b i o)
    | none => .dead
  | .mr b => match B b with
    | some k => frzRef k (.mr b)
    | none => .dead
  | .nl => .pd []
  | s => s.frz
def lendRows (B : Nat → Option Bk) (rows : Rows) : Rows := rows.map fun r => r.map (lend0 B)
/-- One step further: a pointer to a variable, a slice, whose cells name other blocks. -/
def lend1 (B : Nat → Option Bk) : SV → SV
  | .pt b i o => match B b with
    | some (.c _ rows) => .bp ((rows.getD i []).map (lend0 B)) o
    | _ => .dead
  | .sl b i n => match B b with
    | some (.c _ rows) => .pd (lendRows B ((rows.drop i).take n))
    | _ => .dead
  | s => lend0 B s

def argL (B : Nat → Option Bk) (r : Nat → Option Nat) : SV → SV
  | .sl b i n => match r b with
    | some p => .sl p i n
    | none => lend1 B (.sl b i n)
  | .sa b i o k n => match r b with
    | some p => .sa p i o k n
    | none => lend1 B (.sa b i o k n)
  | .pt b i o => match r b with
    | some p => .pt p i o
    | none => lend1 B (.pt b i o)
  | .mr b => match r b with
    | some p => .mr p
    | none => lend1 B (.mr b)
  | s => lend1 B s
def arg1 (B : Nat → Option Bk) (r : Nat → Option Nat) : SV → SV
  | .ifc t s => .ifc t (argL B r s)
  | .fn f a b => .fn f (a.map (argL B r)) (b.map (argL B r))
  | s => argL B r s
/-- What is handed over for a value. -/
def argSV (B : Nat → Option Bk) (r : Nat → Option Nat) : SV → SV
  | .ag cs => .ag (cs.map (arg1 B r))
  | s => arg1 B r s

section
variable {Sc : Nat → Prop} {ρc : Nat → Option Loc} {B : Nat → Option Bk} {r : Nat → Option Nat}

theorem lend0_ok (hh : HOk ρ φ S w B) (hS : ∀ i, S i → Sc i) (hO : ∀ b x, B b ≠ none → owns ρ φ b x → Sc x) {F : Nat → Prop} (hF : ∀ x, F x → Sc x) {v : Value} {s : SV} (h : CRep ρ S w v s F) : RepP Sc w v (lend0 B s) := by
  have hR : ∀ {b : Nat} {k : Bk} {s : SV}, B b = some k → s.Names b → Rep ρ S w v s → RepP Sc w v (frzRef k s) := fun {b k s} hb hn hr => by
    have hne : B b ≠ none := by rw [hb]; simp
    exact frzRef_ok (hh.blk b k hb) hS (fun x hx => hO b x hne (.inr hx)) (fun l hl => hO b _ hne (.inl ⟨l, hl, rfl⟩)) hn hr
  cases s with
  | sl b i n =>
    rw [lend0]
    split
    · rename_i k e; exact hR e (.sl ..) (h.elim id fun h => by cases h with | per h => exact .per h)
    · exact .dead v
  | sa b i o k' n =>
    rw [lend0]
    split
    · rename_i k e; exact hR e (.sa ..) (h.elim id fun h => by cases h with | per h => exact .per h)
    · exact .dead v
  | pt b i o =>
    rw [lend0]
    split
    · rename_i k e; exact hR e (.pt ..) (h.elim id fun h => by cases h with | per h => exact .per h)
    · exact .dead v
  | mr b =>
    rw [lend0]
    split
    · rename_i k e; exact hR e (.mr ..) (h.elim id fun h => by cases h with | per h => exact .per h)
    · exact .dead v
  | nl =>
    have : v = .slice none 0 0 := by
      rcases h with h | h
      · exact h.nl_eq
      · cases h with | per h => cases h; rfl
    subst this
    exact .pd0 none 0
  | _ => exact h.frz hS hF

theorem lend1_ok (hh : HOk ρ φ S w B) (hS : ∀ i, S i → Sc i) (hO : ∀ b x, B b ≠ none → owns ρ φ b x → Sc x) {v : Value} {s : SV} (h : Rep ρ S w v s) : RepP Sc w v (lend1 B s) := by
  have h0 : ∀ {s : SV}, Rep ρ S w v s → RepP Sc w v (lend0 B s) := fun h => lend0_ok (F := fun _ => False) hh hS hO (fun _ hx => hx.elim) (.inl h)
  cases s with
  | pt b i o =>
    rw [lend1]
    split
    · rename_i k rows e
      cases h with
      | per h => cases h
      | pt _ _ _ l hl =>
        have hne : B b ≠ none := by rw [e]; simp
        rcases hh.blk b _ e with ⟨h1, _⟩ | ⟨l', h1, h2, h3⟩
        · rw [hl] at h1; cases h1
        · rw [hl] at h1; obtain rfl := Option.some.inj h1
          obtain ⟨G, e1, e2, e3⟩ := h3.cell
          have hr : ∀ (j : Nat) (c : SV), ((rows.getD i []).map (lend0 B))[j]? = some c → ∃ c' r, rows[i]? = some r ∧ r[j]? = some c' ∧ c = lend0 B c' := fun j c g => by
            rw [List.getElem?_map, Option.map_eq_some_iff] at g
            obtain ⟨c', g1, g2⟩ := g
            rw [List.getD_eq_getElem?_getD] at g1
            cases e : rows[i]? with
            | none => rw [e] at g1; simp at g1
            | some r => rw [e] at g1; exact ⟨c', r, rfl, g1, g2.symm⟩
          refine RepP.bp l.blk (l.base + i * l.esz) o _ (fun j => (w.cell? (l.addr i j)).getD undef) (hO b _ hne (.inl ⟨l, hl, rfl⟩)) (fun j c g => ?_) (fun j c g => ?_)
          · obtain ⟨c', r, g1, g2, rfl⟩ := hr j c g
            obtain ⟨v, f1, f2, _⟩ := e3 i r j c' g1 g2
            have : w.cell? ⟨l.blk, l.base + i * l.esz + j, none⟩ = some v := f1
            rw [this, show w.cell? (l.addr i j) = some v from f1]
            exact ⟨rfl, f2⟩
          · obtain ⟨c', r, g1, g2, rfl⟩ := hr j c g
            obtain ⟨v, f1, _, f3⟩ := e3 i r j c' g1 g2
            rw [show w.cell? (l.addr i j) = some v from f1]
            exact lend0_ok hh hS hO (fun x hx => hO b x hne (.inr (e1 _ _ x hx))) f3
    · exact .dead v
  | sl b i n =>
    rw [lend1]
    split
    · rename_i k rows e
      have hne : B b ≠ none := by rw [e]; simp
      cases h with
      | per h => cases h
      | sl0 ad _ _ => simp only [List.take_zero, lendRows, List.map_nil]; exact .pd0 ad 0
      | sl _ _ _ cap l hl hc hi hz =>
        rcases hh.blk b _ e with ⟨h1, _⟩ | ⟨l', h1, h2, h3⟩
        · rw [hl] at h1; cases h1
        · rw [hl] at h1; obtain rfl := Option.some.inj h1
          obtain ⟨G, e1, e2, e3⟩ := h3.cell
          have hlen : ((rows.drop i).take n).length = n := by rw [List.length_take, List.length_drop, h3.long]; omega
          have hrow : ∀ (i' : Nat) (r : List SV), (lendRows B ((rows.drop i).take n))[i']? = some r → ∃ r', rows[i + i']? = some r' ∧ r = r'.map (lend0 B) := fun i' r g => by
            unfold lendRows at g
            rw [List.getElem?_map, Option.map_eq_some_iff] at g
            obtain ⟨r', g1, rfl⟩ := g
            rw [List.getElem?_take] at g1
            split at g1
            · rw [List.getElem?_drop] at g1; exact ⟨r', g1, rfl⟩
            · cases g1
          have key := RepP.pd (S := Sc) (w := w) l.blk (l.base + i * l.esz) l.esz cap (lendRows B ((rows.drop i).take n)) (fun i' j => (w.cell? (l.addr (i + i') j)).getD undef) (hO b _ hne (.inl ⟨l, hl, rfl⟩)) (by unfold lendRows; rw [List.length_map, hlen]; exact hc) (fun i' r g => by
              obtain ⟨r', g1, rfl⟩ := hrow i' r g
              rw [List.length_map]
              exact h3.len _ r' g1) (fun i' r j c g gj => by
              obtain ⟨r', g1, rfl⟩ := hrow i' r g
              rw [List.getElem?_map, Option.map_eq_some_iff] at gj
              obtain ⟨c', g2, rfl⟩ := gj
              obtain ⟨v, f1, f2, _⟩ := e3 _ r' j c' g1 g2
              have : w.cell? ⟨l.blk, l.base + i * l.esz + i' * l.esz + j, none⟩ = some v := by rw [← f1]; unfold Loc.addr; rw [Nat.add_mul]; congr 2; omega
              rw [this, show w.cell? (l.addr (i + i') j) = some v from f1]
              exact ⟨rfl, f2⟩) (fun i' r j c g gj => by
              obtain ⟨r', g1, rfl⟩ := hrow i' r g
              rw [List.getElem?_map, Option.map_eq_some_iff] at gj
              obtain ⟨c', g2, rfl⟩ := gj
              obtain ⟨v, f1, f2, f3⟩ := e3 _ r' j c' g1 g2
              rw [show w.cell? (l.addr (i + i') j) = some v from f1]
              exact lend0_ok hh hS hO (fun x hx => hO b x hne (.inr (e1 _ _ x hx))) f3)
          have hll : (lendRows B ((rows.drop i).take n)).length = n := by unfold lendRows; rw [List.length_map, hlen]
          rw [hll] at key
          exact key
    · exact .dead v
  | _ => exact h0 h

theorem argL_ok (hh : HOk ρ φ S w B) (hS : ∀ i, S i → Sc i) (hO : ∀ b x, B b ≠ none → owns ρ φ b x → Sc x) (hr : ∀ b b', r b = some b' → ρc b' = ρ b) {v : Value} {s : SV} (h : Rep ρ S w v s) : Rep ρc Sc w v (argL B r s) := by
  have h1 : ∀ {s : SV}, Rep ρ S w v s → Rep ρc Sc w v (lend1 B s) := fun h => .per (lend1_ok hh hS hO h)
  have h2 : ∀ {s : SV}, Rep ρ S w v s → Rep ρc Sc w v (s.rn0 r) := fun h => h.rn0 hr hS
  cases s with
  | sl b i n =>
    have := h2 h
    rw [SV.rn0] at this
    rw [argL]
    split
    · rename_i p e; rw [e] at this; exact this
    · exact h1 h
  | sa b i o k n =>
    have := h2 h
    rw [SV.rn0] at this
    rw [argL]
    split
    · rename_i p e; rw [e] at this; exact this
    · exact h1 h
  | pt b i o =>
    have := h2 h
    rw [SV.rn0] at this
    rw [argL]
    split
    · rename_i p e; rw [e] at this; exact this
    · exact h1 h
  | mr b =>
    have := h2 h
    rw [SV.rn0] at this
    rw [argL]
    split
    · rename_i p e; rw [e] at this; exact this
    · exact h1 h
  | _ => exact h1 h
theorem arg1_ok (hh : HOk ρ φ S w B) (hS : ∀ i, S i → Sc i) (hO : ∀ b x, B b ≠ none → owns ρ φ b x → Sc x) (hr : ∀ b b', r b = some b' → ρc b' = ρ b) {v : Value} {s : SV} (h : Rep ρ S w v s) : Rep ρc Sc w v (arg1 B r s) := by
  have hL : ∀ {v s}, Rep ρ S w v s → Rep ρc Sc w v (argL B r s) := fun h => argL_ok hh hS hO hr h
  cases s with
  | ifc t s =>
    cases h with
    | ifc _ h => exact .ifc t (hL h)
    | per h => cases h with
      | ifc _ h => exact .ifc t (hL (.per h))
  | fn f x y =>
    cases h with
    | fn _ va vb _ _ ha hb h1 h2 => exact .fn f va vb _ _ (by simpa using ha) (by simpa using hb) (relmap (fun v c h => hL h) h1) (relmap (fun v c h => hL h) h2)
    | per h => cases h with
      | fn _ va vb _ _ ha hb h1 h2 => exact .fn f va vb _ _ (by simpa using ha) (by simpa using hb) (relmap (fun v c h => hL (.per h)) h1) (relmap (fun v c h => hL (.per h)) h2)
  | _ => exact hL h
theorem argSV_ok (hh : HOk ρ φ S w B) (hS : ∀ i, S i → Sc i) (hO : ∀ b x, B b ≠ none → owns ρ φ b x → Sc x) (hr : ∀ b b', r b = some b' → ρc b' = ρ b) {v : Value} {s : SV} (h : Rep ρ S w v s) : Rep ρc Sc w v (argSV B r s) := by
  cases s with
  | ag cs =>
    obtain ⟨vs, rfl, hl, h⟩ := h.ag_inv
    exact .ag vs _ (by simpa using hl) (relmap (fun v c h => arg1_ok hh hS hO hr h) h)
  | _ => exact arg1_ok hh hS hO hr h
end

end Go.Vcg
