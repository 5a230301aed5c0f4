/- Steps that only say otherwise what holds: a block is kept for good; a name is turned; what a cell names becomes its own, and the other way round. -/
import Derived.Test.YtekdhfppbahidaaU1
namespace Go.Vcg

variable {w0 : World} {M : Perm} {S0 : Nat → Prop} {ρ : Nat → Option Loc} {φ : Nat → Nat → Prop} {S : Nat → Prop} {st : St} {a : Act} {w : World}

theorem Rep.frz {v : Value} {s : SV} (h : Rep ρ S w v s) : RepP S w v s.frz := by
  induction h with
  | per h => exact h.frz
  | sl | sl0 | sa | pt | mr | cn => rw [SV.frz] <;> first | exact .dead _ | (intros; contradiction) | simp
  | ifc t _ ih => rw [SV.frz]; exact .ifc t ih
  | fn f va vb a b ha hb _ _ ih1 ih2 =>
    rw [SV.frz, frzL_eq, frzL_eq]
    exact .fn f va vb _ _ (by simpa using ha) (by simpa using hb) (fun i v c h1 h2 => by
      rw [List.getElem?_map, Option.map_eq_some_iff] at h2
      obtain ⟨c', h2, rfl⟩ := h2
      exact ih1 i v c' h1 h2) (fun i v c h1 h2 => by
      rw [List.getElem?_map, Option.map_eq_some_iff] at h2
      obtain ⟨c', h2, rfl⟩ := h2
      exact ih2 i v c' h1 h2)
  | ag vs cs hl _ ih =>
    rw [SV.frz, frzL_eq]
    exact .ag vs _ (by simpa using hl) fun i v c h1 h2 => by
      rw [List.getElem?_map, Option.map_eq_some_iff] at h2
      obtain ⟨c', h2, rfl⟩ := h2
      exact ih i v c' h1 h2
  | tu vs cs hl _ ih =>
    rw [SV.frz, frzL_eq]
    exact .tu vs _ (by simpa using hl) fun i v c h1 h2 => by
      rw [List.getElem?_map, Option.map_eq_some_iff] at h2
      obtain ⟨c', h2, rfl⟩ := h2
      exact ih i v c' h1 h2
theorem CRep.frz {S' F : Nat → Prop} {v : Value} {s : SV} (h : CRep ρ S w v s F) (hS : ∀ i, S i → S' i) (hF : ∀ i, F i → S' i) : RepP S' w v s.frz := by
  rcases h with h | h
  · exact h.frz.mono hS fun _ _ => rfl
  · exact h.frz hS hF

/-! ## Names are replaced -/

def SV.sb0 (d : Nat) (g : SV → SV) : SV → SV
  | .sl b i n => if b = d then g (.sl b i n) else .sl b i n
  | .sa b i o k n => if b = d then g (.sa b i o k n) else .sa b i o k n
  | .pt b i o => if b = d then g (.pt b i o) else .pt b i o
  | .mr b => if b = d then g (.mr b) else .mr b
  | .ifc _ _ => .dead
  | .fn _ _ _ => .dead
  | .ag _ => .dead
  | .tu _ => .dead
  | .cn _ _ => .dead
  | s => s
def SV.sb1 (d : Nat) (g : SV → SV) : SV → SV
  | .ifc t s => .ifc t (s.sb0 d g)
  | .fn f a b => .fn f (a.map (SV.sb0 d g)) (b.map (SV.sb0 d g))
  | s => s.sb0 d g
def SV.sb2 (d : Nat) (g : SV → SV) : SV → SV
  | .ag cs => .ag (cs.map (SV.sb1 d g))
  | s => s.sb1 d g
def SV.sb (d : Nat) (g : SV → SV) : SV → SV
  | .tu cs => .tu (cs.map (SV.sb2 d g))
  | .cn c s => .cn c (s.sb2 d g)
  | s => s.sb2 d g
def sbRows (d : Nat) (g : SV → SV) (rows : Rows) : Rows := rows.map fun r => r.map (SV.sb1 d g)
def Bk.sb (d : Nat) (g : SV → SV) : Bk → Bk
  | .c k rows => .c k (sbRows d g rows)
  | .m es => .m (es.map fun e => (e.1, e.2.sb1 d g))

/-- The ways to replace that serve. -/
structure Sb (ρ ρ' : Nat → Option Loc) (S S' : Nat → Prop) (w : World) (d : Nat) (g : SV → SV) : Prop where
  ref : ∀ v s, s.Names d → Rep ρ S w v s → Rep ρ' S' w v (g s)
  other : ∀ b, b ≠ d → ρ' b = ρ b
  toS : ∀ i, S i → S' i
  emp : ∀ (ad : Option Addr) (i : Nat), Rep ρ' S' w (.slice ad 0 0) (g (.sl d i 0))

section
variable {ρ' : Nat → Option Loc} {S' : Nat → Prop} {d : Nat} {g : SV → SV}
theorem Rep.sb0 (hs : Sb ρ ρ' S S' w d g) {v : Value} {s : SV} (h : Rep ρ S w v s) : Rep ρ' S' w v (s.sb0 d g) := by
  have hp : ∀ {v s}, RepP S w v s → Rep ρ' S' w v s := fun h => .per (h.mono hs.toS fun _ _ => rfl)
  cases s with
  | sl b i n =>
    rw [SV.sb0]
    split
    · rename_i e; subst e; exact hs.ref v _ (.sl ..) h
    · rename_i e
      exact h.mono hs.toS (fun _ _ => rfl) (fun x hx => by cases hx; exact hs.other _ e) (fun _ => Nat.le_refl _)
  | sa b i o k n =>
    rw [SV.sb0]
    split
    · rename_i e; subst e; exact hs.ref v _ (.sa ..) h
    · rename_i e
      exact h.mono hs.toS (fun _ _ => rfl) (fun x hx => by cases hx; exact hs.other _ e) (fun _ => Nat.le_refl _)
  | pt b i o =>
    rw [SV.sb0]
    split
    · rename_i e; subst e; exact hs.ref v _ (.pt ..) h
    · rename_i e
      exact h.mono hs.toS (fun _ _ => rfl) (fun x hx => by cases hx; exact hs.other _ e) (fun _ => Nat.le_refl _)
  | mr b =>
    rw [SV.sb0]
    split
    · rename_i e; subst e; exact hs.ref v _ (.mr ..) h
    · rename_i e
      exact h.mono hs.toS (fun _ _ => rfl) (fun x hx => by cases hx; exact hs.other _ e) (fun _ => Nat.le_refl _)
  | ifc _ _ => exact .dead v
  | fn _ _ _ => exact .dead v
  | ag _ => exact .dead v
  | tu _ => exact .dead v
  | cn _ _ => exact .dead v
  | _ => cases h with | per h => exact hp h
theorem Rep.sb1 (hs : Sb ρ ρ' S S' w d g) {v : Value} {s : SV} (h : Rep ρ S w v s) : Rep ρ' S' w v (s.sb1 d g) := by
  cases s with
  | ifc t s =>
    cases h with
    | ifc _ h => exact .ifc t (h.sb0 hs)
    | per h => cases h with
      | ifc _ h => exact .ifc t (Rep.sb0 hs (.per h))
  | fn f x y =>
    cases h with
    | fn _ va vb _ _ ha hb h1 h2 => exact .fn f va vb _ _ (by simpa using ha) (by simpa using hb) (relmap (fun v c h => h.sb0 hs) h1) (relmap (fun v c h => h.sb0 hs) h2)
    | per h => cases h with
      | fn _ va vb _ _ ha hb h1 h2 => exact .fn f va vb _ _ (by simpa using ha) (by simpa using hb) (relmap (fun v c h => Rep.sb0 hs (.per h)) h1) (relmap (fun v c h => Rep.sb0 hs (.per h)) h2)
  | _ => exact h.sb0 hs
theorem Rep.sb2 (hs : Sb ρ ρ' S S' w d g) {v : Value} {s : SV} (h : Rep ρ S w v s) : Rep ρ' S' w v (s.sb2 d g) := by
  cases s with
  | ag cs =>
    cases h with
    | ag vs _ hl h => exact .ag vs _ (by simpa using hl) (relmap (fun v c h => h.sb1 hs) h)
    | per h => cases h with
      | ag vs _ hl h => exact .ag vs _ (by simpa using hl) (relmap (fun v c h => Rep.sb1 hs (.per h)) h)
  | _ => exact h.sb1 hs
theorem Rep.sb (hs : Sb ρ ρ' S S' w d g) {v : Value} {s : SV} (h : Rep ρ S w v s) : Rep ρ' S' w v (s.sb d g) := by
  cases s with
  | tu cs =>
    cases h with
    | tu vs _ hl h => exact .tu vs _ (by simpa using hl) (relmap (fun v c h => h.sb2 hs) h)
    | per h => cases h with
      | tu vs _ hl h => exact .tu vs _ (by simpa using hl) (relmap (fun v c h => Rep.sb2 hs (.per h)) h)
  | cn c s =>
    cases h with
    | cn _ _ _ h h0 => exact .cn v c _ (fun hc => (h hc).sb2 hs) h0
    | per h => cases h
  | _ => exact h.sb2 hs

theorem CRep.sb1 (hs : Sb ρ ρ' S S' w d g) {F : Nat → Prop} {v : Value} {c : SV} (h : CRep ρ S w v c F) (hb : ∀ i, S i → i < w.heap.size) : CRep ρ' S' w v (c.sb1 d g) F := by
  rcases h with h | h
  · exact .inl (h.sb1 hs)
  · have hm : ∀ {v c}, RepO S w v c F → RepO S' w v c F := fun h => h.mono hs.toS (Nat.le_refl _) (fun _ _ _ => rfl) hb
    cases c with
    | ifc t s =>
      cases h with
      | per h => exact .inl (Rep.sb1 hs (.per h))
      | ifc _ h =>
        rw [SV.sb1]
        cases s with
        | ifc _ _ => exact .inl (.ifc t (.dead _))
        | fn _ _ _ => exact .inl (.ifc t (.dead _))
        | ag _ => exact .inl (.ifc t (.dead _))
        | tu _ => exact .inl (.ifc t (.dead _))
        | cn _ _ => exact .inl (.ifc t (.dead _))
        | sl _ _ _ => cases h with | per h => cases h
        | sa _ _ _ _ _ => cases h with | per h => cases h
        | pt _ _ _ => cases h with | per h => cases h
        | mr _ => cases h with | per h => cases h
        | _ => exact .inr (.ifc t (hm h))
    | fn f a b => cases h with | per h => exact .inl (Rep.sb1 hs (.per h))
    | ag _ => exact .inl (.dead _)
    | tu _ => exact .inl (.dead _)
    | cn _ _ => exact .inl (.dead _)
    | sl _ _ _ => cases h with | per h => cases h
    | sa _ _ _ _ _ => cases h with | per h => cases h
    | pt _ _ _ => cases h with | per h => cases h
    | mr _ => cases h with | per h => cases h
    | _ => exact .inr (hm h)

theorem BkOk.sb (hs : Sb ρ ρ' S S' w d g) {F : Nat → Prop} {b b' : Nat} {k : Bk} (h : BkOk ρ S w F b k) (hb : ρ' b' = ρ b) (hS : ∀ i, S i → i < w.heap.size) : BkOk ρ' S' w F b' (k.sb d g) := by
  cases k with
  | c k rows =>
    rcases h with ⟨h1, h2⟩ | ⟨l, h1, h2, h3⟩
    · exact .inl ⟨hb.trans h1, by subst h2; rfl⟩
    · have hk : ∀ {i : Nat} {r : List SV}, (sbRows d g rows)[i]? = some r → ∃ r', rows[i]? = some r' ∧ r = r'.map (SV.sb1 d g) := fun {i r} h => by
        unfold sbRows at h
        rw [List.getElem?_map, Option.map_eq_some_iff] at h
        obtain ⟨r', h1, h2⟩ := h
        exact ⟨r', h1, h2.symm⟩
      refine .inr ⟨l, hb.trans h1, h2, h3.free, fun i r g => ?_, by unfold sbRows; simpa using h3.long, ?_⟩
      · obtain ⟨r', g', rfl⟩ := hk g
        simpa using h3.len i r' g'
      · obtain ⟨G, e1, e2, e3⟩ := h3.cell
        refine ⟨G, e1, e2, fun i r j c g1 g2 => ?_⟩
        obtain ⟨r', g3, rfl⟩ := hk g1
        rw [List.getElem?_map, Option.map_eq_some_iff] at g2
        obtain ⟨c', g4, rfl⟩ := g2
        obtain ⟨v, f1, f2, f3⟩ := e3 i r' j c' g3 g4
        exact ⟨v, f1, f2, f3.sb1 hs hS⟩
  | m es =>
    obtain ⟨l, h1, h2⟩ := h
    obtain ⟨ents, clk, vs, G, e0, e1, e2, e3, e4, e5⟩ := h2.ex
    refine ⟨l, hb.trans h1, ents, clk, vs, G, e0, ?_, by simpa using e2, e3, e4, fun i v e g1 g2 => ?_⟩
    · rw [List.map_map]; exact e1
    · rw [List.getElem?_map, Option.map_eq_some_iff] at g2
      obtain ⟨c', g2, rfl⟩ := g2
      exact (e5 i v c' g1 g2).sb1 hs hS
end

/-! ## A block is kept for good -/

/-- A row, in pieces. -/
def chunks (row : List SV) (k len : Nat) : Rows := (List.range len).map fun i => (row.drop (i * k)).take k

/-- What a reference into a block is, when the block is kept for good. -/
def frzRef (k : Bk) : SV → SV
  | .sl _ i n => match k with
    | .c _ rows => .pd (frzRows ((rows.drop i).take n))
    | .m _ => .dead
  | .sa _ i o k' n => match k with
    | .c _ rows => .pd (frzRows (chunks ((rows.getD i []).drop o) k' n))
    | .m _ => .dead
  | .pt _ i o => match k with
    | .c _ rows => .bp (frzL (rows.getD i [])) o
    | .m _ => .dead
  | .mr _ => match k with
    | .c _ _ => .dead
    | .m es => .pm (frzE es)
  | _ => .dead

theorem CellsAt.cellP {S' F : Nat → Prop} {l : Loc} {rows : Rows} (h : CellsAt ρ S w l rows F) (hS : ∀ i, S i → S' i) (hF : ∀ i, F i → S' i) {i : Nat} {r : List SV} {j : Nat} {c : SV} (h1 : rows[i]? = some r) (h2 : r[j]? = some c) :
    w.cell? (l.addr i j) = some ((w.cell? (l.addr i j)).getD undef) ∧ ((w.cell? (l.addr i j)).getD undef).oneCell' = true ∧ RepP S' w ((w.cell? (l.addr i j)).getD undef) c.frz := by
  obtain ⟨G, e1, e2, e3⟩ := h.cell
  obtain ⟨v, f1, f2, f3⟩ := e3 i r j c h1 h2
  rw [f1]
  exact ⟨rfl, f2, f3.frz hS fun x hx => hF x (e1 i j x hx)⟩

theorem CellsAt.rowsP {S' F : Nat → Prop} {l : Loc} {rows : Rows} (h : CellsAt ρ S w l rows F) (hS : ∀ i, S i → S' i) (hF : ∀ i, F i → S' i) (hl : S' l.blk) (i n cap : Nat) (hc : n ≤ cap) (hi : i + n ≤ l.len) : RepP S' w (.slice (some (l.addr i 0)) n cap) (.pd (frzRows ((rows.drop i).take n))) := by
  have hn : ((rows.drop i).take n).length = n := by rw [List.length_take, List.length_drop, h.long]; omega
  have hget : ∀ (i' : Nat) (r : List SV), (((rows.drop i).take n).map frzL)[i']? = some r → ∃ r', rows[i + i']? = some r' ∧ r = r'.map SV.frz := fun i' r g => by
    rw [List.getElem?_map, Option.map_eq_some_iff] at g
    obtain ⟨r', g1, g2⟩ := g
    rw [List.getElem?_take] at g1
    split at g1
    · rw [List.getElem?_drop] at g1; exact ⟨r', g1, by rw [← g2, frzL_eq]⟩
    · cases g1
  have := RepP.pd (S := S') (w := w) l.blk (l.base + i * l.esz + 0) l.esz cap (((rows.drop i).take n).map frzL) (fun i' j => (w.cell? (l.addr (i + i') j)).getD undef) hl (by rw [List.length_map, hn]; exact hc) (fun i' r g => by
      obtain ⟨r', g1, rfl⟩ := hget i' r g
      simpa using h.len _ r' g1)
    (fun i' r j c g1 g2 => by
      obtain ⟨r', g3, rfl⟩ := hget i' r g1
      rw [List.getElem?_map, Option.map_eq_some_iff] at g2
      obtain ⟨c', g4, rfl⟩ := g2
      obtain ⟨e1, e2, _⟩ := h.cellP hS hF g3 g4
      refine ⟨?_, e2⟩
      rw [← e1]
      congr 2
      show l.base + i * l.esz + 0 + i' * l.esz + j = l.base + (i + i') * l.esz + j
      rw [Nat.add_mul]; omega)
    (fun i' r j c g1 g2 => by
      obtain ⟨r', g3, rfl⟩ := hget i' r g1
      rw [List.getElem?_map, Option.map_eq_some_iff] at g2
      obtain ⟨c', g4, rfl⟩ := g2
      exact (h.cellP hS hF g3 g4).2.2)
  rw [frzRows_eq]
  rw [List.length_map, hn] at this
  exact this

theorem chunks_length (row : List SV) (k n : Nat) : (chunks row k n).length = n := by simp [chunks]
theorem chunks_get {row : List SV} {k n i : Nat} {r : List SV} (h : (chunks row k n)[i]? = some r) : i < n ∧ r = (row.drop (i * k)).take k := by
  unfold chunks at h
  rw [List.getElem?_map, Option.map_eq_some_iff] at h
  obtain ⟨x, h1, h2⟩ := h
  rw [List.getElem?_eq_some_iff] at h1
  obtain ⟨g1, g2⟩ := h1
  simp only [List.length_range] at g1
  simp only [List.getElem_range] at g2
  subst g2
  exact ⟨g1, h2.symm⟩

theorem CellsAt.sliceP {S' F : Nat → Prop} {l : Loc} {rows : Rows} (h : CellsAt ρ S w l rows F) (hS : ∀ i, S i → S' i) (hF : ∀ i, F i → S' i) (hl : S' l.blk) (i o k n cap : Nat) (hc : n ≤ cap) (hi : i < l.len) (ho : o + n * k ≤ l.esz) :
    RepP S' w (.slice (some (l.addr i o)) n cap) (.pd (frzRows (chunks ((rows.getD i []).drop o) k n))) := by
  have hi' : i < rows.length := by rw [h.long]; exact hi
  have hr : rows[i]? = some (rows.getD i []) := by simp [List.getD_eq_getElem?_getD, hi']
  have hlen := h.len i _ hr
  generalize rows.getD i [] = row at hr hlen
  have hget : ∀ (i' : Nat) (r : List SV), ((chunks (row.drop o) k n).map frzL)[i']? = some r → i' < n ∧ r = (((row.drop o).drop (i' * k)).take k).map SV.frz := fun i' r g => by
    rw [List.getElem?_map, Option.map_eq_some_iff] at g
    obtain ⟨r', g1, g2⟩ := g
    obtain ⟨g3, rfl⟩ := chunks_get g1
    exact ⟨g3, by rw [← g2, frzL_eq]⟩
  have hcell : ∀ (i' j : Nat) (c : SV), i' < n → (((row.drop o).drop (i' * k)).take k)[j]? = some c → row[o + i' * k + j]? = some c := fun i' j c g1 g2 => by
    rw [List.getElem?_take] at g2
    split at g2
    · rw [List.getElem?_drop, List.getElem?_drop] at g2
      rw [← g2]; congr 1; omega
    · cases g2
  have := RepP.pd (S := S') (w := w) l.blk (l.base + i * l.esz + o) k cap ((chunks (row.drop o) k n).map frzL) (fun i' j => (w.cell? (l.addr i (o + i' * k + j))).getD undef) hl (by rw [List.length_map, chunks_length]; exact hc) (fun i' r g => by
      obtain ⟨g1, rfl⟩ := hget i' r g
      have : i' * k + k ≤ n * k := by rw [← Nat.succ_mul]; exact Nat.mul_le_mul_right _ g1
      simp only [List.length_map, List.length_take, List.length_drop]
      omega)
    (fun i' r j c g1 g2 => by
      obtain ⟨g3, rfl⟩ := hget i' r g1
      rw [List.getElem?_map, Option.map_eq_some_iff] at g2
      obtain ⟨c', g4, rfl⟩ := g2
      obtain ⟨e1, e2, _⟩ := h.cellP hS hF hr (hcell i' j c' g3 g4)
      refine ⟨?_, e2⟩
      rw [← e1]
      congr 2
      show l.base + i * l.esz + o + i' * k + j = l.base + i * l.esz + (o + i' * k + j)
      omega)
    (fun i' r j c g1 g2 => by
      obtain ⟨g3, rfl⟩ := hget i' r g1
      rw [List.getElem?_map, Option.map_eq_some_iff] at g2
      obtain ⟨c', g4, rfl⟩ := g2
      exact (h.cellP hS hF hr (hcell i' j c' g3 g4)).2.2)
  rw [frzRows_eq]
  rw [List.length_map, chunks_length] at this
  exact this

theorem CellsAt.ptP {S' F : Nat → Prop} {l : Loc} {rows : Rows} (h : CellsAt ρ S w l rows F) (hS : ∀ i, S i → S' i) (hF : ∀ i, F i → S' i) (hl : S' l.blk) (i o : Nat) : RepP S' w (.pointer (some (l.addr i o))) (.bp (frzL (rows.getD i [])) o) := by
  rw [frzL_eq]
  have hr : ∀ (j : Nat) (c : SV), ((rows.getD i []).map SV.frz)[j]? = some c → ∃ r c', rows[i]? = some r ∧ r[j]? = some c' ∧ c = c'.frz := fun j c g => by
    rw [List.getElem?_map, Option.map_eq_some_iff] at g
    obtain ⟨c', g1, g2⟩ := g
    rw [List.getD_eq_getElem?_getD] at g1
    cases e : rows[i]? with
    | none => rw [e] at g1; simp at g1
    | some r => rw [e] at g1; exact ⟨r, c', rfl, g1, g2.symm⟩
  exact RepP.bp l.blk (l.base + i * l.esz) o _ (fun j => (w.cell? (l.addr i j)).getD undef) hl (fun j c g => by
      obtain ⟨r, c', g1, g2, rfl⟩ := hr j c g
      obtain ⟨e1, e2, _⟩ := h.cellP hS hF g1 g2
      exact ⟨e1, e2⟩)
    (fun j c g => by
      obtain ⟨r, c', g1, g2, rfl⟩ := hr j c g
      exact (h.cellP hS hF g1 g2).2.2)

/-- References into a block that is kept for good. -/
theorem frzRef_ok {S' F : Nat → Prop} {b : Nat} {k : Bk} (h : BkOk ρ S w F b k) (hS : ∀ i, S i → S' i) (hF : ∀ i, F i → S' i) (hl : ∀ l, ρ b = some l → S' l.blk) {v : Value} {s : SV} (hn : s.Names b) (hr : Rep ρ S w v s) : RepP S' w v (frzRef k s) := by
  cases k with
  | c k rows =>
    cases hr with
    | sl _ i n cap l hb hc hi hz =>
      cases hn
      rcases h with ⟨h1, _⟩ | ⟨l', h1, h2, h3⟩
      · rw [hb] at h1; cases h1
      · rw [hb] at h1; obtain rfl := Option.some.inj h1
        exact h3.rowsP hS hF (hl l hb) i n cap hc hi
    | sl0 ad _ i => rw [frzRef, List.take_zero, frzRows]; exact .pd0 ad 0
    | sa _ i o k' n cap l hb hc hi ho =>
      cases hn
      rcases h with ⟨h1, _⟩ | ⟨l', h1, h2, h3⟩
      · rw [hb] at h1; cases h1
      · rw [hb] at h1; obtain rfl := Option.some.inj h1
        exact h3.sliceP hS hF (hl l hb) i o k' n cap hc hi ho
    | pt _ i o l hb =>
      cases hn
      rcases h with ⟨h1, _⟩ | ⟨l', h1, h2, h3⟩
      · rw [hb] at h1; cases h1
      · rw [hb] at h1; obtain rfl := Option.some.inj h1
        exact h3.ptP hS hF (hl l hb) i o
    | per hp => cases hn <;> first | (cases hp; done) | exact .dead _
    | _ => exact .dead _
  | m es =>
    cases hr with
    | mr _ l hb =>
      cases hn
      obtain ⟨l', h1, h2⟩ := h
      rw [hb] at h1; obtain rfl := Option.some.inj h1
      obtain ⟨ents, clk, vs, G, e0, e1, e2, e3, e4, e5⟩ := h2.ex
      rw [frzRef, frzE_eq]
      refine .pm l.blk clk ents _ vs (hl l hb) e0 ?_ (by simpa using e2) (fun i v e g1 g2 => ?_)
      · rw [List.map_map]; exact e1
      · rw [List.getElem?_map, Option.map_eq_some_iff] at g2
        obtain ⟨c', g2, rfl⟩ := g2
        exact (e5 i v c' g1 g2).frz hS fun x hx => hF x (e3 i x hx)
    | per hp => cases hn <;> first | (cases hp; done) | exact .dead _
    | _ => exact .dead _

def St.frzWith (st : St) (b : Nat) (k : Bk) : St :=
  { n := st.n, sl := st.sl.map fun p => (p.1, p.2.sb b (frzRef k)), bl := (st.bl.filter fun p => p.1 != b).map fun p => (p.1, p.2.sb b (frzRef k)) }
def St.frz (st : St) (b : Nat) : St := match st.blk b with
  | some k => st.frzWith b k
  | none => st
theorem St.get_frzWith (st : St) (b : Nat) (k : Bk) (t : Nat) : (st.frzWith b k).get t = (st.get t).sb b (frzRef k) := by
  unfold St.get St.frzWith
  simp only [lookup_map_snd]
  cases st.sl.lookup t <;> rfl
theorem St.blk_frzWith (st : St) (b : Nat) (k : Bk) (x : Nat) : (st.frzWith b k).blk x = if x = b then none else (st.blk x).map (Bk.sb b (frzRef k)) := by
  unfold St.blk St.frzWith
  simp only [lookup_map_snd, lookup_filter_ne]
  split <;> rfl

/-- A block is kept for good. -/
theorem Sim.frz (h : Sim w0 M S0 ρ φ S st a w) (b : Nat) : ∃ S', (∀ i, S i → S' i) ∧ Sim w0 M S0 ρ φ S' (st.frz b) a w := by
  unfold St.frz
  split
  · rename_i k hk
    have hne : st.blk b ≠ none := by rw [hk]; simp
    have hs : Sb ρ ρ S (fun x => S x ∨ owns ρ φ b x) w b (frzRef k) := ⟨fun v s hn hr => .per (frzRef_ok (h.heap.blk b k hk) (fun _ hi => .inl hi) (fun _ hi => .inr (.inr hi)) (fun l hl => .inr (.inl ⟨l, hl, rfl⟩)) hn hr),
      fun _ _ => rfl, fun _ hi => .inl hi, fun ad i => by
        cases k with
        | c k rows => rw [frzRef, List.take_zero, frzRows]; exact .per (.pd0 ad 0)
        | m es => exact .dead _⟩
    have hh : ∀ x, (st.frzWith b k).blk x ≠ none → x ≠ b ∧ st.blk x ≠ none := fun x hx => by
      rw [St.blk_frzWith] at hx
      by_cases e : x = b
      · rw [if_pos e] at hx; exact absurd rfl hx
      · rw [if_neg e] at hx
        exact ⟨e, fun g => hx (by rw [g]; rfl)⟩
    refine ⟨fun x => S x ∨ owns ρ φ b x, fun _ hi => .inl hi, h.size, h.defers, fun t => by rw [St.get_frzWith]; exact (h.slot t).sb hs, ⟨fun x r hx => ?_, fun x x' y h1 h2 => h.heap.inj x x' y (hh x h1).2 (hh x' h2).2, fun x l h1 => h.heap.self x l (hh x h1).2, fun x y h1 h2 h3 => ?_,
      fun x y h1 => h.heap.lt x y (hh x h1).2⟩, fun i hi => hi.elim (h.sb i) (h.heap.lt b i hne), fun i hi => .inl (h.base i hi), fun i hi => ?_, h.grow, h.keep, fun x y h1 => h.own x y (hh x h1).2, fun x h1 h2 => h.pin x h1 (hh x h2).2, h.small, h.wide⟩
    · rw [St.blk_frzWith] at hx
      split at hx
      · cases hx
      · rw [Option.map_eq_some_iff] at hx
        obtain ⟨r', g1, rfl⟩ := hx
        exact (h.heap.blk x r' g1).sb hs rfl h.sb
    · rcases h3 with h3 | h3
      · exact h.heap.notS x y (hh x h1).2 h2 h3
      · exact (hh x h1).1 (h.heap.inj x b y (hh x h1).2 hne h2 h3)
    · rcases hi with hi | hi
      · exact h.from_ i hi
      · rcases h.own b i hne hi with (g | g) | g
        · exact .inr (.inl g)
        · exact .inr (.inr (.inl g))
        · exact .inr (.inr (.inr ⟨b, g.2⟩))
  · exact ⟨S, fun _ h => h, h⟩

/-! ## A name is turned -/

def renRef (d' : Nat) : SV → SV
  | .sl _ i n => .sl d' i n
  | .sa _ i o k n => .sa d' i o k n
  | .pt _ i o => .pt d' i o
  | .mr _ => .mr d'
  | s => s

def St.renWith (st : St) (d d' : Nat) (k : Bk) : St :=
  { n := st.n, sl := st.sl.map fun p => (p.1, p.2.sb d (renRef d')), bl := (d', k.sb d (renRef d')) :: (st.bl.filter fun p => p.1 != d).map fun p => (p.1, p.2.sb d (renRef d')) }
/-- The name d is turned into d', which is forgotten before. -/
def St.ren (st : St) (d d' : Nat) : St := match (st.kill d').blk d with
  | some k => if isPin d' then st else (st.kill d').renWith d d' k
  | none => st
theorem St.get_renWith (st : St) (d d' : Nat) (k : Bk) (t : Nat) : (st.renWith d d' k).get t = (st.get t).sb d (renRef d') := by
  unfold St.get St.renWith
  simp only [lookup_map_snd]
  cases st.sl.lookup t <;> rfl
theorem St.blk_renWith (st : St) (d d' : Nat) (k : Bk) (x : Nat) : (st.renWith d d' k).blk x = if x = d' then some (k.sb d (renRef d')) else if x = d then none else (st.blk x).map (Bk.sb d (renRef d')) := by
  unfold St.blk St.renWith
  rw [lookup_cons_if]
  split
  · rfl
  · simp only [lookup_map_snd, lookup_filter_ne]
    split <;> rfl

theorem Sim.ren (h : Sim w0 M S0 ρ φ S st a w) (d d' : Nat) (hw : M.wr d) : ∃ ρ' φ', Sim w0 M S0 ρ' φ' S (st.ren d d') a w := by
  unfold St.ren
  split
  · rename_i k hk
    split
    · exact ⟨ρ, φ, h⟩
    rename_i hpin
    have h0 := h.kill d'
    have hdd : d ≠ d' := (blk_kill_ne hk).1
    have hf := st.kill_free d'
    have h1 := h0.rename hf (ρ d) (φ d)
    have hne : (st.kill d').blk d ≠ none := by rw [hk]; simp
    generalize st.kill d' = s0 at hk h0 hf h1 hne
    have hs : Sb (fun x => if x = d' then ρ d else ρ x) (fun x => if x = d' then ρ d else ρ x) S S w d (renRef d') := ⟨fun v s hn hr => by
        cases hn with
        | sl _ i n => cases hr with
          | sl _ _ _ cap l hb hc hi hz => exact .sl d' i n cap l (by simp only [if_true]; rw [if_neg hdd] at hb; exact hb) hc hi hz
          | sl0 ad => exact .sl0 ad d' i
          | per h => cases h
        | sa _ i o k n => cases hr with
          | sa _ _ _ _ _ cap l hb hc hi ho => exact .sa d' i o k n cap l (by simp only [if_true]; rw [if_neg hdd] at hb; exact hb) hc hi ho
          | per h => cases h
        | pt _ i o => cases hr with
          | pt _ _ _ l hb => exact .pt d' i o l (by simp only [if_true]; rw [if_neg hdd] at hb; exact hb)
          | per h => cases h
        | mr _ => cases hr with
          | mr _ l hb => exact .mr d' l (by simp only [if_true]; rw [if_neg hdd] at hb; exact hb)
          | per h => cases h
        | _ => exact hr, fun _ _ => rfl, fun _ h => h, fun ad i => .sl0 ad d' i⟩
    have hh : ∀ x, (s0.renWith d d' k).blk x ≠ none → x = d' ∨ (x ≠ d' ∧ x ≠ d ∧ s0.blk x ≠ none) := fun x hx => by
      rw [St.blk_renWith] at hx
      by_cases e : x = d'
      · exact .inl e
      · rw [if_neg e] at hx
        by_cases e' : x = d
        · rw [if_pos e'] at hx; exact absurd rfl hx
        · rw [if_neg e'] at hx
          exact .inr ⟨e, e', fun g => hx (by rw [g]; rfl)⟩
    have ho : ∀ x y, (s0.renWith d d' k).blk x ≠ none → owns (fun x => if x = d' then ρ d else ρ x) (fun x => if x = d' then φ d else φ x) x y → ∃ x', s0.blk x' ≠ none ∧ owns ρ φ x' y ∧ ((x = d' ∧ x' = d) ∨ (x' = x ∧ x ≠ d)) := fun x y hx hy => by
      rcases hh x hx with rfl | ⟨e1, e2, e3⟩
      · exact ⟨d, hne, (owns_same.mp hy), .inl ⟨rfl, rfl⟩⟩
      · exact ⟨x, e3, (owns_ne e1).mp hy, .inr ⟨rfl, e2⟩⟩
    refine ⟨_, fun x => if x = d' then φ d else φ x, h0.size, h0.defers, fun t => by rw [St.get_renWith]; exact (h1.slot t).sb hs, ⟨fun x r hx => ?_, fun x x' y g1 g2 e1 e2 => ?_, fun x l g1 e1 e2 => ?_, fun x y g1 e1 => ?_, fun x y g1 e1 => ?_⟩, h0.sb, h0.base, h0.from_, h0.grow, h0.keep, fun x y g1 e1 => ?_, fun x g1 g2 => ?_, h0.small, h0.wide⟩
    · rw [St.blk_renWith] at hx
      by_cases e : x = d'
      · rw [if_pos e] at hx
        obtain rfl := Option.some.inj hx
        subst e
        have := h1.heap.blk d k hk
        simp only [if_neg hdd] at this
        simp only [if_true]
        exact this.sb hs (by simp only [if_true, if_neg hdd]) h0.sb
      · rw [if_neg e] at hx
        split at hx
        · cases hx
        · rw [Option.map_eq_some_iff] at hx
          obtain ⟨r', g1, rfl⟩ := hx
          exact (h1.heap.blk x r' g1).sb hs rfl h0.sb
    · obtain ⟨z, f1, f2, f3⟩ := ho x y g1 e1
      obtain ⟨z', f1', f2', f3'⟩ := ho x' y g2 e2
      have := h0.heap.inj z z' y f1 f1' f2 f2'
      rcases f3 with ⟨q1, q2⟩ | ⟨q1, q2⟩ <;> rcases f3' with ⟨q3, q4⟩ | ⟨q3, q4⟩ <;> omega
    · rcases hh x g1 with rfl | ⟨q1, q2, q3⟩
      · simp only [if_true] at e1 e2
        exact h0.heap.self d l hne e1 e2
      · simp only [if_neg q1] at e1 e2
        exact h0.heap.self x l q3 e1 e2
    · obtain ⟨z, f1, f2, _⟩ := ho x y g1 e1
      exact h0.heap.notS z y f1 f2
    · obtain ⟨z, f1, f2, _⟩ := ho x y g1 e1
      exact h0.heap.lt z y f1 f2
    · obtain ⟨z, f1, f2, f3⟩ := ho x y g1 e1
      rcases f3 with ⟨q1, q2⟩ | ⟨q1, q2⟩
      · subst q2
        rcases h0.own z y f1 f2 with g | g
        · exact .inl g
        · exact absurd hw g.1
      · subst q1
        exact h0.own z y f1 f2
    · rcases hh x g2 with rfl | ⟨q1, q2, q3⟩
      · exact absurd g1 hpin
      · simp only [if_neg q1]; exact h0.pin x g1 q3
  · exact ⟨ρ, φ, h⟩

end Go.Vcg
