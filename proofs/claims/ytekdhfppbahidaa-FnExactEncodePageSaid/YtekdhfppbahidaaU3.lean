/- What a cell names becomes the cell's own, and the other way round; a nil slice is taken for an empty buffer; a state that says less. -/
import Derived.Test.YtekdhfppbahidaaU2
namespace Go.Vcg

variable {w0 : World} {M : Perm} {S0 : Nat → Prop} {ρ : Nat → Option Loc} {φ : Nat → Nat → Prop} {S : Nat → Prop} {st : St} {a : Act} {w : World}

/-- Kept for good. -/
def SV.cloP : SV → Bool
  | .pl _ | .nl | .pd _ | .bp _ _ | .pm _ | .dead => true
  | _ => false
/-- No names. -/
def SV.clo0 : SV → Bool
  | .pl _ | .nl | .pd _ | .bp _ _ | .pm _ | .dead | .ow _ _ | .bo _ | .mo _ => true
  | _ => false
def SV.clo : SV → Bool
  | .ifc _ s => s.clo0
  | .fn _ a b => a.all SV.cloP && b.all SV.cloP
  | s => s.clo0
def cloRow (row : List SV) : Bool := row.all SV.clo
def cloRows (rows : Rows) : Bool := rows.all cloRow
def cloE (es : List (Value × SV)) : Bool := es.all fun e => e.2.clo

theorem Rep.cloP {v : Value} {s : SV} (h : Rep ρ S w v s) (hc : s.cloP = true) : RepP S w v s := by
  cases h with
  | per h => exact h
  | _ => cases hc
theorem Rep.clo0 {v : Value} {s : SV} (h : Rep ρ S w v s) (hc : s.clo0 = true) : RepP S w v s := by
  cases h with
  | per h => exact h
  | _ => cases hc
theorem CRep.toO {F : Nat → Prop} {v : Value} {c : SV} (h : CRep ρ S w v c F) (hc : c.clo = true) : RepO S w v c F := by
  rcases h with h | h
  · cases h with
    | per h => exact .per h
    | ifc t h => exact .ifc t (.per (h.clo0 hc))
    | fn f va vb x y ha hb h1 h2 =>
      simp only [SV.clo, Bool.and_eq_true, List.all_eq_true] at hc
      exact .per (.fn f va vb x y ha hb (fun i v c g1 g2 => (h1 i v c g1 g2).cloP (hc.1 c (List.mem_of_getElem? g2))) (fun i v c g1 g2 => (h2 i v c g1 g2).cloP (hc.2 c (List.mem_of_getElem? g2))))
    | _ => cases hc
  · exact h
theorem cloRows_get {rows : Rows} (h : cloRows rows = true) {i : Nat} {r : List SV} {j : Nat} {c : SV} (h1 : rows[i]? = some r) (h2 : r[j]? = some c) : c.clo = true := by
  simp only [cloRows, cloRow, List.all_eq_true] at h
  exact h r (List.mem_of_getElem? h1) c (List.mem_of_getElem? h2)

/-- What a reference stands for, as something that owns its memory; what must hold; the name that is used up. -/
def foldRef0 (B : Nat → Option Bk) : SV → Option (Prop × SV × Nat)
  | .sl n i m => match B n with
    | some (.c k rows) => some (cloRows rows = true, .ow k ((rows.drop i).take m), n)
    | _ => none
  | .pt n i o => match B n with
    | some (.c _ rows) => some (i = 0 ∧ o = 0 ∧ rows.length = 1 ∧ cloRows rows = true, .bo (rows.getD 0 []), n)
    | _ => none
  | .mr n => match B n with
    | some (.m es) => some (cloE es = true, .mo es, n)
    | _ => none
  | _ => none
def foldRef (B : Nat → Option Bk) : SV → Option (Prop × SV × Nat)
  | .ifc t s => match foldRef0 B s with
    | some (p, s', n) => some (p, .ifc t s', n)
    | none => none
  | s => foldRef0 B s

theorem CellsAt.toO {F F' : Nat → Prop} {l : Loc} {rows : Rows} (h : CellsAt ρ S w l rows F) (hc : cloRows rows = true) (hl : F' l.blk) (hF : ∀ x, F x → F' x) (hs : ¬ F l.blk) (hlt : l.blk < w.heap.size) (i n cap : Nat) (h1 : n ≤ cap) (h2 : i + n ≤ l.len) (hz : l.base + (i + cap) * l.esz ≤ rowSize w l.blk) :
    RepO S w (.slice (some (l.addr i 0)) n cap) (.ow l.esz ((rows.drop i).take n)) F' := by
  obtain ⟨G, e1, e2, e3⟩ := h.cell
  have hn : ((rows.drop i).take n).length = n := by rw [List.length_take, List.length_drop, h.long]; omega
  have hget : ∀ (i' : Nat) (r : List SV), ((rows.drop i).take n)[i']? = some r → rows[i + i']? = some r := fun i' r g1 => by
    rw [List.getElem?_take] at g1
    split at g1
    · rw [List.getElem?_drop] at g1; exact g1
    · cases g1
  have hcell : ∀ (i' : Nat) (r : List SV) (j : Nat) (c : SV), ((rows.drop i).take n)[i']? = some r → r[j]? = some c → w.cell? (l.addr (i + i') j) = some ((w.cell? (l.addr (i + i') j)).getD undef) ∧ ((w.cell? (l.addr (i + i') j)).getD undef).oneCell' = true ∧
      RepO S w ((w.cell? (l.addr (i + i') j)).getD undef) c (G (i + i') j) := fun i' r j c g1 g2 => by
    obtain ⟨v, f1, f2, f3⟩ := e3 _ r j c (hget i' r g1) g2
    rw [f1]
    exact ⟨rfl, f2, f3.toO (cloRows_get hc (hget i' r g1) g2)⟩
  have := RepO.ow (S := S) (w := w) l.blk (l.base + i * l.esz + 0) l.esz cap ((rows.drop i).take n) (fun i' j => (w.cell? (l.addr (i + i') j)).getD undef) (fun i' j => G (i + i') j) F' hl (fun i' j x g => ⟨hF x (e1 _ _ x g), fun e => hs (e ▸ e1 _ _ x g)⟩)
    (fun p q p' q' x g1 g2 => by have := e2 _ _ _ _ x g1 g2; omega) hlt h.free (by rw [hn]; exact h1) (by rw [Nat.add_mul] at hz; omega) (fun i' r g => h.len _ r (hget i' r g))
    (fun i' r j c g1 g2 => by
      obtain ⟨f1, f2, _⟩ := hcell i' r j c g1 g2
      refine ⟨?_, f2⟩
      rw [← f1]
      congr 2
      show l.base + i * l.esz + 0 + i' * l.esz + j = l.base + (i + i') * l.esz + j
      rw [Nat.add_mul]; omega)
    (fun i' r j c g1 g2 => (hcell i' r j c g1 g2).2.2)
  rw [hn] at this
  exact this

theorem foldRef0_ok (h : Sim w0 M S0 ρ φ S st a w) {v : Value} {s s' : SV} {n : Nat} {p : Prop} (hr : Rep ρ S w v s) (he : foldRef0 st.blk s = some (p, s', n)) (hp : p) : st.blk n ≠ none ∧ RepO S w v s' (owns ρ φ n) := by
  unfold foldRef0 at he
  split at he
  · rename_i n' i m
    split at he <;> try (cases he; done)
    rename_i k rows hB
    simp only [Option.some.injEq, Prod.mk.injEq] at he
    obtain ⟨rfl, rfl, rfl⟩ := he
    have hne : st.blk n' ≠ none := by rw [hB]; simp
    refine ⟨hne, ?_⟩
    cases hr with
    | sl _ _ _ cap l hb hc hi hz =>
      have hok := h.heap.blk n' _ hB
      rcases hok with ⟨h1, _⟩ | ⟨l', h1, h2, h3⟩
      · rw [hb] at h1; cases h1
      · rw [hb] at h1; obtain rfl := Option.some.inj h1
        subst h2
        exact h3.toO hp (.inl ⟨l, hb, rfl⟩) (fun x hx => .inr hx) (h.heap.self n' l hne hb) (h.heap.lt n' _ hne (.inl ⟨l, hb, rfl⟩)) i m cap hc hi hz
    | sl0 ad => rw [List.take_zero]; exact .ow0 ad k _
    | per h => cases h
  · rename_i n' i o
    split at he <;> try (cases he; done)
    rename_i k rows hB
    simp only [Option.some.injEq, Prod.mk.injEq] at he
    obtain ⟨rfl, rfl, rfl⟩ := he
    have hne : st.blk n' ≠ none := by rw [hB]; simp
    refine ⟨hne, ?_⟩
    obtain ⟨rfl, rfl, hlen, hclo⟩ := hp
    cases hr with
    | pt _ _ _ l hb =>
      have hok := h.heap.blk n' _ hB
      rcases hok with ⟨h1, _⟩ | ⟨l', h1, h2, h3⟩
      · rw [hb] at h1; cases h1
      · rw [hb] at h1; obtain rfl := Option.some.inj h1
        obtain ⟨G, e1, e2, e3⟩ := h3.cell
        have hr0 : rows[0]? = some (rows.getD 0 []) := by simp [List.getD_eq_getElem?_getD, hlen]
        refine RepO.bo l.blk (l.base + 0 * l.esz + 0) _ (fun j => (w.cell? (l.addr 0 j)).getD undef) (fun j => G 0 j) _ (.inl ⟨l, hb, rfl⟩) (fun j x g => ⟨.inr (e1 _ _ x g), fun e => h.heap.self n' l hne hb (e ▸ e1 _ _ x g)⟩)
          (fun p q x g1 g2 => (e2 _ _ _ _ x g1 g2).2) (h.heap.lt n' _ hne (.inl ⟨l, hb, rfl⟩)) h3.free (fun j c g => ?_) (fun j c g => ?_)
        · obtain ⟨v, f1, f2, _⟩ := e3 0 _ j c hr0 g
          have : w.cell? ⟨l.blk, l.base + 0 * l.esz + 0 + j, none⟩ = w.cell? (l.addr 0 j) := by unfold Loc.addr; simp
          rw [this, f1]
          exact ⟨rfl, f2⟩
        · obtain ⟨v, f1, _, f3⟩ := e3 0 _ j c hr0 g
          rw [f1]
          exact f3.toO (cloRows_get hclo hr0 g)
    | per h => cases h
  · rename_i n'
    split at he <;> try (cases he; done)
    rename_i es hB
    simp only [Option.some.injEq, Prod.mk.injEq] at he
    obtain ⟨rfl, rfl, rfl⟩ := he
    have hne : st.blk n' ≠ none := by rw [hB]; simp
    refine ⟨hne, ?_⟩
    cases hr with
    | mr _ l hb =>
      have hok := h.heap.blk n' _ hB
      obtain ⟨l', h1, h2⟩ := hok
      rw [hb] at h1; obtain rfl := Option.some.inj h1
      obtain ⟨ents, clk, vs, G, e0, e1, e2, e3, e4, e5⟩ := h2.ex
      simp only [cloE, List.all_eq_true] at hp
      exact .mo l.blk clk ents es vs G _ (.inl ⟨l, hb, rfl⟩) (fun j x g => ⟨.inr (e3 j x g), fun e => h.heap.self n' l hne hb (e ▸ e3 j x g)⟩) e4 e0 e1 e2 fun i v e g1 g2 => (e5 i v e g1 g2).toO (hp e (List.mem_of_getElem? g2))
    | per h => cases h
  · cases he
theorem foldRef_ok (h : Sim w0 M S0 ρ φ S st a w) {v : Value} {s s' : SV} {n : Nat} {p : Prop} (hr : Rep ρ S w v s) (he : foldRef st.blk s = some (p, s', n)) (hp : p) : st.blk n ≠ none ∧ RepO S w v s' (owns ρ φ n) := by
  unfold foldRef at he
  split at he
  · rename_i t s
    split at he <;> try (cases he; done)
    rename_i p' s2 n' h1
    simp only [Option.some.injEq, Prod.mk.injEq] at he
    obtain ⟨rfl, rfl, rfl⟩ := he
    cases hr with
    | ifc _ hr =>
      obtain ⟨g1, g2⟩ := foldRef0_ok h hr h1 hp
      exact ⟨g1, .ifc t g2⟩
    | per hr => cases hr with
      | ifc _ hr =>
        obtain ⟨g1, g2⟩ := foldRef0_ok h (.per hr) h1 hp
        exact ⟨g1, .ifc t g2⟩
  · exact foldRef0_ok h hr he hp

/-- The block n goes into the block b. -/
theorem Sim.absorb (h : Sim w0 M S0 ρ φ S st a w) {b n : Nat} (hbn : b ≠ n) (hb : st.blk b ≠ none) (hn : st.blk n ≠ none) (hw : M.wr n) {k' : Bk} (hok : BkOk ρ S w (fun x => φ b x ∨ owns ρ φ n x) b k') :
    Sim w0 M S0 ρ (fun x => if x = b then (fun y => φ b y ∨ owns ρ φ n y) else φ x) S ((st.kill n).setBlk b k') a w := by
  have h0 := h.kill n
  have hh : ∀ x, ((st.kill n).setBlk b k').blk x ≠ none → st.blk x ≠ none ∧ x ≠ n := fun x hx => by
    rw [St.blk_setBlk] at hx
    by_cases e : x = b
    · subst e; exact ⟨hb, hbn⟩
    · rw [if_neg e] at hx; exact (blk_kill_has hx).symm
  have ho : ∀ x y, owns ρ (fun x => if x = b then (fun y => φ b y ∨ owns ρ φ n y) else φ x) x y → owns ρ φ x y ∨ (x = b ∧ owns ρ φ n y) := fun x y hy => by
    unfold owns at hy
    rcases hy with hy | hy
    · exact .inl (.inl hy)
    · by_cases e : x = b
      · simp only [if_pos e] at hy
        subst e
        exact hy.elim (fun g => .inl (.inr g)) fun g => .inr ⟨rfl, g⟩
      · simp only [if_neg e] at hy; exact .inl (.inr hy)
  refine ⟨h0.size, h0.defers, h0.slot, ⟨fun x r hx => ?_, fun x x' y g1 g2 e1 e2 => ?_, fun x l g1 e1 e2 => ?_, fun x y g1 e1 => ?_, fun x y g1 e1 => ?_⟩, h0.sb, h0.base, h0.from_, h0.grow, h0.keep, fun x y g1 e1 => ?_, fun x g1 g2 => h.pin x g1 (hh x g2).1, h0.small, h0.wide⟩
  · rw [St.blk_setBlk] at hx
    by_cases e : x = b
    · rw [if_pos e] at hx; obtain rfl := Option.some.inj hx
      subst e
      simp only [if_true]
      exact hok
    · rw [if_neg e] at hx
      simp only [if_neg e]
      exact h0.heap.blk x r hx
  · obtain ⟨f1, f2⟩ := hh x g1
    obtain ⟨f3, f4⟩ := hh x' g2
    rcases ho x y e1 with q1 | ⟨rfl, q1⟩ <;> rcases ho x' y e2 with q2 | ⟨rfl, q2⟩
    · exact h.heap.inj x x' y f1 f3 q1 q2
    · exact absurd (h.heap.inj x n y f1 hn q1 q2) f2
    · exact absurd (h.heap.inj x' n y f3 hn q2 q1) f4
    · rfl
  · obtain ⟨f1, f2⟩ := hh x g1
    by_cases e : x = b
    · simp only [if_pos e] at e2
      subst e
      rcases e2 with e2 | e2
      · exact h.heap.self x l f1 e1 e2
      · exact f2 (h.heap.inj x n _ f1 hn (.inl ⟨l, e1, rfl⟩) e2)
    · simp only [if_neg e] at e2; exact h.heap.self x l f1 e1 e2
  · rcases ho x y e1 with q | ⟨_, q⟩
    · exact h.heap.notS x y (hh x g1).1 q
    · exact h.heap.notS n y hn q
  · rcases ho x y e1 with q | ⟨_, q⟩
    · exact h.heap.lt x y (hh x g1).1 q
    · exact h.heap.lt n y hn q
  · rcases ho x y e1 with q | ⟨_, q⟩
    · exact h.own x y (hh x g1).1 q
    · rcases h.own n y hn q with g | g
      · exact .inl g
      · exact absurd hw g.1

/-- What cell (i, j) of block b names becomes its own. -/
def St.foldAt (st : St) (b i j : Nat) : Option (Prop × St) := match st.blk b with
  | some (.c k rows) => match foldRef st.blk ((rows.getD i []).getD j .dead) with
    | some (p, c', n) => some (p ∧ b ≠ n ∧ i < rows.length ∧ j < (rows.getD i []).length, (st.kill n).setBlk b (Bk.kill n (.c k (rows.set i ((rows.getD i []).set j c')))))
    | none => none
  | some (.m es) => match foldRef st.blk (es.getD i (.nilIface, .dead)).2 with
    | some (p, c', n) => some (p ∧ b ≠ n ∧ i < es.length ∧ j = 0, (st.kill n).setBlk b (Bk.kill n (.m (es.set i ((es.getD i (.nilIface, .dead)).1, c')))))
    | none => none
  | none => none

theorem getD_some' {α : Type} {l : List α} {i : Nat} {x : α} (h : i < l.length) : l[i]? = some (l.getD i x) := by
  rw [List.getD_eq_getElem?_getD, List.getElem?_eq_getElem h]; rfl

theorem CellsAt.setCell {F F' : Nat → Prop} {l : Loc} {rows : Rows} (h : CellsAt ρ S w l rows F) {i j : Nat} (hi : i < rows.length) (hj : j < (rows.getD i []).length) {c' : SV} {X : Nat → Prop} (hX : ∀ x, X x → ¬ F x) (hF : ∀ x, F x ∨ X x → F' x)
    (hc : ∀ v, w.cell? (l.addr i j) = some v → v.oneCell' = true → (∃ F0 : Nat → Prop, CRep ρ S w v ((rows.getD i []).getD j .dead) F0) → CRep ρ S w v c' X) : CellsAt ρ S w l (rows.set i ((rows.getD i []).set j c')) F' := by
  obtain ⟨G, e1, e2, e3⟩ := h.cell
  have hri := getD_some' (x := ([] : List SV)) hi
  have hrj := getD_some' (x := SV.dead) hj
  generalize rows.getD i [] = row at *
  generalize row.getD j .dead = c at *
  refine ⟨h.free, fun i' r g => ?_, by simpa using h.long, fun p q x => (if p = i ∧ q = j then X x else G p q x), fun p q x g => ?_, fun p q p' q' x g1 g2 => ?_, fun p r q d g1 g2 => ?_⟩
  · rw [List.getElem?_set] at g
    by_cases e : i = i'
    · rw [if_pos e, if_pos (by omega)] at g
      obtain rfl := Option.some.inj g; rw [List.length_set]; exact h.len _ _ hri
    · rw [if_neg e] at g; exact h.len _ _ g
  · dsimp only at g
    split at g
    · exact hF x (.inr g)
    · exact hF x (.inl (e1 p q x g))
  · dsimp only at g1 g2
    split at g1 <;> split at g2
    · rename_i u1 u2; exact ⟨u1.1.trans u2.1.symm, u1.2.trans u2.2.symm⟩
    · exact absurd (e1 _ _ x g2) (hX x g1)
    · exact absurd (e1 _ _ x g1) (hX x g2)
    · exact e2 _ _ _ _ x g1 g2
  · rw [List.getElem?_set] at g1
    by_cases ep : i = p
    · subst ep
      rw [if_pos rfl, if_pos hi] at g1
      obtain rfl := Option.some.inj g1
      rw [List.getElem?_set] at g2
      by_cases eq : j = q
      · subst eq
        rw [if_pos rfl, if_pos hj] at g2
        obtain rfl := Option.some.inj g2
        obtain ⟨v, f1, f2, f3⟩ := e3 _ _ _ _ hri hrj
        exact ⟨v, f1, f2, by simp only [and_self, if_true]; exact hc v f1 f2 ⟨_, f3⟩⟩
      · rw [if_neg eq] at g2
        obtain ⟨v, f1, f2, f3⟩ := e3 _ _ _ _ hri g2
        refine ⟨v, f1, f2, ?_⟩
        have : (fun x => if i = i ∧ q = j then X x else G i q x) = G i q := funext fun x => if_neg fun g => eq g.2.symm
        show CRep ρ S w v d (fun x => if i = i ∧ q = j then X x else G i q x)
        rw [this]; exact f3
    · rw [if_neg ep] at g1
      obtain ⟨v, f1, f2, f3⟩ := e3 _ _ _ _ g1 g2
      refine ⟨v, f1, f2, ?_⟩
      have : ¬ (p = i ∧ q = j) := fun g => ep g.1.symm
      simp only [if_neg this]; exact f3

theorem MapAt.setVal {F F' : Nat → Prop} {l : Loc} {es : List (Value × SV)} (h : MapAt ρ S w l es F) {i : Nat} (hi : i < es.length) {c' : SV} {X : Nat → Prop} (hX : ∀ x, X x → ¬ F x) (hF : ∀ x, F x ∨ X x → F' x)
    (hc : ∀ v, (∃ F0 : Nat → Prop, CRep ρ S w v (es.getD i (.nilIface, .dead)).2 F0) → CRep ρ S w v c' X) : MapAt ρ S w l (es.set i ((es.getD i (.nilIface, .dead)).1, c')) F' := by
  obtain ⟨ents, clk, vs, G, e0, e1, e2, e3, e4, e5⟩ := h.ex
  have hri := getD_some' (x := ((.nilIface, .dead) : Value × SV)) hi
  generalize es.getD i (.nilIface, .dead) = c at *
  refine ⟨ents, clk, vs, fun p x => (if p = i then X x else G p x), e0, ?_, by simpa using e2, fun p x g => ?_, fun p q x g1 g2 => ?_, fun p v e g1 g2 => ?_⟩
  · rw [List.map_set]
    have : (es.map (·.1)).set i c.1 = es.map (·.1) := by
      apply List.ext_getElem?
      intro q
      rw [List.getElem?_set]
      split
      · rename_i g; subst g
        rw [if_pos (by simpa using hi), List.getElem?_map, hri]; rfl
      · rfl
    rw [this]; exact e1
  · dsimp only at g
    split at g
    · exact hF x (.inr g)
    · exact hF x (.inl (e3 p x g))
  · dsimp only at g1 g2
    split at g1 <;> split at g2
    · rename_i u1 u2; exact u1.trans u2.symm
    · exact absurd (e3 _ x g2) (hX x g1)
    · exact absurd (e3 _ x g1) (hX x g2)
    · exact e4 _ _ x g1 g2
  · rw [List.getElem?_set] at g2
    by_cases ep : i = p
    · subst ep
      rw [if_pos rfl, if_pos hi] at g2
      obtain rfl := Option.some.inj g2
      simp only [if_true]
      exact hc v ⟨_, e5 _ _ _ g1 hri⟩
    · rw [if_neg ep] at g2
      have : ¬ p = i := fun g => ep g.symm
      simp only [if_neg this]
      exact e5 _ _ _ g1 g2

theorem Sim.foldAt (h : Sim w0 M S0 ρ φ S st a w) {b i j : Nat} {p : Prop} {st' : St} (he : st.foldAt b i j = some (p, st')) (hp : p) (hw : ∀ n, M.wr n) : ∃ φ', Sim w0 M S0 ρ φ' S st' a w := by
  unfold St.foldAt at he
  split at he
  · rename_i k rows hB
    split at he <;> try (cases he; done)
    rename_i p' c' n hf
    simp only [Option.some.injEq, Prod.mk.injEq] at he
    obtain ⟨rfl, rfl⟩ := he
    obtain ⟨hp, hbn, hi, hj⟩ := hp
    have hb : st.blk b ≠ none := by rw [hB]; simp
    have hok := h.heap.blk b _ hB
    rcases hok with ⟨_, h2⟩ | ⟨l, h1, h2, h3⟩
    · subst h2; simp at hi
    have hnn : st.blk n ≠ none := by
      obtain ⟨G, e1, e2, e3⟩ := h3.cell
      obtain ⟨v, f1, f2, f3⟩ := e3 _ _ _ _ (getD_some' (x := ([] : List SV)) hi) (getD_some' (x := SV.dead) hj)
      have hr : Rep ρ S w v ((rows.getD i []).getD j .dead) := by
        rcases f3 with f3 | f3
        · exact f3
        · generalize (rows.getD i []).getD j .dead = c at hf f3
          unfold foldRef at hf
          split at hf
          · rename_i t s
            split at hf <;> try (cases hf; done)
            rename_i h1
            cases f3 with
            | per h => exact .per h
            | ifc _ h => cases h with
              | per h => exact .ifc t (.per h)
              | _ => unfold foldRef0 at h1; cases h1
          · cases f3 with
            | per h => exact .per h
            | _ => unfold foldRef0 at hf; cases hf
      exact (foldRef_ok h hr hf hp).1
    refine ⟨_, h.absorb hbn hb hnn (hw n) (BkOk.kill n (.inr ⟨l, h1, h2, h3.setCell hi hj (X := owns ρ φ n) (fun x hx hx' => hbn (h.heap.inj b n x hb hnn (.inr hx') hx)) (fun x hx => hx) ?_⟩))⟩
    rintro v f1 f2 ⟨F0, f3⟩
    have hr : Rep ρ S w v ((rows.getD i []).getD j .dead) := by
      rcases f3 with f3 | f3
      · exact f3
      · generalize (rows.getD i []).getD j .dead = c at hf f3
        unfold foldRef at hf
        split at hf
        · rename_i t s
          split at hf <;> try (cases hf; done)
          rename_i h1
          cases f3 with
          | per h => exact .per h
          | ifc _ h => cases h with
            | per h => exact .ifc t (.per h)
            | _ => unfold foldRef0 at h1; cases h1
        · cases f3 with
          | per h => exact .per h
          | _ => unfold foldRef0 at hf; cases hf
    exact .inr (foldRef_ok h hr hf hp).2
  · rename_i es hB
    split at he <;> try (cases he; done)
    rename_i p' c' n hf
    simp only [Option.some.injEq, Prod.mk.injEq] at he
    obtain ⟨rfl, rfl⟩ := he
    obtain ⟨hp, hbn, hi, _⟩ := hp
    have hb : st.blk b ≠ none := by rw [hB]; simp
    obtain ⟨l, h1, h3⟩ := h.heap.blk b _ hB
    have hconv : ∀ v (F0 : Nat → Prop), CRep ρ S w v (es.getD i (.nilIface, .dead)).2 F0 → Rep ρ S w v (es.getD i (.nilIface, .dead)).2 := fun v F0 f3 => by
      rcases f3 with f3 | f3
      · exact f3
      · generalize (es.getD i (.nilIface, .dead)).2 = c at hf f3
        unfold foldRef at hf
        split at hf
        · rename_i t s
          split at hf <;> try (cases hf; done)
          rename_i h1
          cases f3 with
          | per h => exact .per h
          | ifc _ h => cases h with
            | per h => exact .ifc t (.per h)
            | _ => unfold foldRef0 at h1; cases h1
        · cases f3 with
          | per h => exact .per h
          | _ => unfold foldRef0 at hf; cases hf
    have hnn : st.blk n ≠ none := by
      obtain ⟨ents, clk, vs, G, e0, e1, e2, e3, e4, e5⟩ := h3.ex
      have hv : i < vs.length := by rw [e2]; exact hi
      have := e5 i vs[i] _ (by simp [hv]) (getD_some' (x := ((.nilIface, .dead) : Value × SV)) hi)
      exact (foldRef_ok h (hconv _ _ this) hf hp).1
    refine ⟨_, h.absorb hbn hb hnn (hw n) (BkOk.kill n ⟨l, h1, h3.setVal hi (X := owns ρ φ n) (fun x hx hx' => hbn (h.heap.inj b n x hb hnn (.inr hx') hx)) (fun x hx => hx) ?_⟩)⟩
    rintro v ⟨F0, f3⟩
    exact .inr (foldRef_ok h (hconv v F0 f3) hf hp).2
  · cases he

end Go.Vcg
