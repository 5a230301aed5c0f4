/- What a cell owns gets a name; a nil slice is taken for an empty buffer; a state that says less. -/
import Derived.Test.YtekdhfppbahidaaU3
namespace Go.Vcg

variable {w0 : World} {M : Perm} {S0 : Nat → Prop} {ρ : Nat → Option Loc} {φ : Nat → Nat → Prop} {S : Nat → Prop} {st : St} {a : Act} {w : World}

def openC0 (n : Nat) : SV → Option (SV × Bk)
  | .ow k rows => some (.sl n 0 rows.length, .c k rows)
  | .bo row => some (.pt n 0 0, .c row.length [row])
  | .mo es => some (.mr n, .m es)
  | _ => none
def openC (n : Nat) : SV → Option (SV × Bk)
  | .ifc t s => match openC0 n s with
    | some (s', k) => some (.ifc t s', k)
    | none => none
  | s => openC0 n s

/-- What owns its memory can get a name. -/
structure Opens (S : Nat → Prop) (w : World) (v : Value) (c' : SV) (n : Nat) (Bn : Bk) (F : Nat → Prop) (lo : Option Loc) (Fn : Nat → Prop) : Prop where
  ok : ∀ ρ' : Nat → Option Loc, ρ' n = lo → BkOk ρ' S w Fn n Bn ∧ Rep ρ' S w v c'
  sub : ∀ x, Fn x → F x
  loc : ∀ l, lo = some l → F l.blk ∧ ¬ Fn l.blk

theorem open0_ok {v : Value} {c c' : SV} {n : Nat} {Bn : Bk} {F : Nat → Prop} (h : RepO S w v c F) (he : openC0 n c = some (c', Bn)) : ∃ lo Fn, Opens S w v c' n Bn F lo Fn := by
  cases h with
  | per h => cases h <;> cases he
  | ow0 ad k =>
    simp only [openC0, Option.some.injEq, Prod.mk.injEq] at he
    obtain ⟨rfl, rfl⟩ := he
    exact ⟨none, fun _ => False, fun ρ' h => ⟨.inl ⟨h, rfl⟩, .sl0 ad n 0⟩, fun _ h => h.elim, fun l h => by cases h⟩
  | ow blk off k cap rows f G _ h1 h2 h3 h4 h5 h6 h7 h8 h9 h10 =>
    simp only [openC0, Option.some.injEq, Prod.mk.injEq] at he
    obtain ⟨rfl, rfl⟩ := he
    have e : (⟨blk, off, none⟩ : Addr) = Loc.addr ⟨blk, off, k, rows.length⟩ 0 0 := by simp [Loc.addr]
    refine ⟨some ⟨blk, off, k, rows.length⟩, fun x => F x ∧ x ≠ blk, fun ρ' h => ⟨.inr ⟨_, h, rfl, h5, h8, rfl, G, fun i j x g => h2 i j x g, h3, fun i r j c g1 g2 => ?_⟩, ?_⟩, fun x g => g.1, fun l g => ?_⟩
    · obtain ⟨f1, f2⟩ := h9 i r j c g1 g2
      exact ⟨f i j, f1, f2, .inr (h10 i r j c g1 g2)⟩
    · rw [e]
      exact .sl n 0 rows.length cap _ h h6 (by simp) (by simpa using h7)
    · obtain rfl := Option.some.inj g
      exact ⟨h1, fun g => g.2 rfl⟩
  | bo blk off row f G _ h1 h2 h3 h4 h5 h6 h7 =>
    simp only [openC0, Option.some.injEq, Prod.mk.injEq] at he
    obtain ⟨rfl, rfl⟩ := he
    have e : (⟨blk, off, none⟩ : Addr) = Loc.addr ⟨blk, off, row.length, 1⟩ 0 0 := by simp [Loc.addr]
    have hr : ∀ (i : Nat) (r : List SV), [row][i]? = some r → i = 0 ∧ r = row := fun i r g => by
      cases i with
      | zero => simp at g; exact ⟨rfl, g.symm⟩
      | succ i => simp at g
    refine ⟨some ⟨blk, off, row.length, 1⟩, fun x => F x ∧ x ≠ blk, fun ρ' h => ⟨.inr ⟨_, h, rfl, h5, fun i r g => by rw [(hr i r g).2], rfl, fun i j x => i = 0 ∧ G j x, fun i j x g => h2 j x g.2, fun i j i' j' x g g' => ⟨g.1.trans g'.1.symm, h3 _ _ x g.2 g'.2⟩, fun i r j c g1 g2 => ?_⟩, ?_⟩, fun x g => g.1, fun l g => ?_⟩
    · obtain ⟨rfl, rfl⟩ := hr i r g1
      obtain ⟨f1, f2⟩ := h6 j c g2
      refine ⟨f j, ?_, f2, .inr ((h7 j c g2).sub fun x hx => ⟨rfl, hx⟩)⟩
      rw [← f1]; simp [Loc.addr]
    · rw [e]; exact .pt n 0 0 _ h
    · obtain rfl := Option.some.inj g
      exact ⟨h1, fun g => g.2 rfl⟩
  | mo blk clk ents es vs G _ h1 h2 h3 h4 h5 h6 h7 =>
    simp only [openC0, Option.some.injEq, Prod.mk.injEq] at he
    obtain ⟨rfl, rfl⟩ := he
    refine ⟨some ⟨blk, 0, 0, 0⟩, fun x => F x ∧ x ≠ blk, fun ρ' h => ⟨⟨_, h, ents, clk, vs, G, h4, h5, h6, fun i x g => h2 i x g, h3, fun i v e g1 g2 => .inr (h7 i v e g1 g2)⟩, .mr n ⟨blk, 0, 0, 0⟩ h⟩, fun x g => g.1, fun l g => ?_⟩
    obtain rfl := Option.some.inj g
    exact ⟨h1, fun g => g.2 rfl⟩
  | ifc | ag | tu => cases he
theorem open_ok {v : Value} {c c' : SV} {n : Nat} {Bn : Bk} {F : Nat → Prop} (h : RepO S w v c F) (he : openC n c = some (c', Bn)) : ∃ lo Fn, Opens S w v c' n Bn F lo Fn := by
  unfold openC at he
  split at he
  · rename_i t s
    split at he <;> try (cases he; done)
    rename_i s' k h1
    simp only [Option.some.injEq, Prod.mk.injEq] at he
    obtain ⟨rfl, rfl⟩ := he
    cases h with
    | per h => cases h with
      | ifc _ h => cases h <;> cases h1
    | ifc _ h =>
      obtain ⟨lo, Fn, g⟩ := open0_ok h h1
      exact ⟨lo, Fn, fun ρ' hρ => ⟨(g.ok ρ' hρ).1, .ifc t (g.ok ρ' hρ).2⟩, g.sub, g.loc⟩
  · exact open0_ok h he

/-- The block b gives a part of what it owns to the name n. -/
theorem Sim.split (h : Sim w0 M S0 ρ φ S st a w) {b n : Nat} (hf : st.Free n) (hp : ¬ isPin n) (hb : st.blk b ≠ none) (hw : M.wr b) (X : Nat → Prop) (hX : ∀ x, X x → φ b x) {B' Bn : Bk} {lo : Option Loc} {Fn : Nat → Prop} (hsub : ∀ x, Fn x → X x) (hlo : ∀ l, lo = some l → X l.blk ∧ ¬ Fn l.blk)
    (hB' : ∀ ρ' : Nat → Option Loc, (∀ x, x ≠ n → ρ' x = ρ x) → ρ' n = lo → BkOk ρ' S w (fun x => φ b x ∧ ¬ X x) b B') (hBn : ∀ ρ' : Nat → Option Loc, ρ' n = lo → BkOk ρ' S w Fn n Bn) :
    ∃ ρ' φ', Sim w0 M S0 ρ' φ' S ((st.setBlk b B').setBlk n Bn) a w := by
  have hbn : b ≠ n := fun e => hb (e ▸ hf.1)
  have h1 := h.rename hf lo Fn
  have hh : ∀ x, ((st.setBlk b B').setBlk n Bn).blk x ≠ none → x = n ∨ (x ≠ n ∧ st.blk x ≠ none) := fun x hx => by
    rw [St.blk_setBlk] at hx
    by_cases e : x = n
    · exact .inl e
    · rw [if_neg e, St.blk_setBlk] at hx
      refine .inr ⟨e, ?_⟩
      by_cases e' : x = b
      · subst e'; exact hb
      · rw [if_neg e'] at hx; exact hx
  let ρ' : Nat → Option Loc := fun x => if x = n then lo else ρ x
  let φ' : Nat → Nat → Prop := fun x => if x = n then Fn else if x = b then (fun y => φ b y ∧ ¬ X y) else φ x
  have hon : ∀ y, owns ρ' φ' n y → X y := fun y hy => by
    rcases hy with ⟨l, e1, e2⟩ | hy
    · simp only [ρ', if_true] at e1
      exact e2 ▸ (hlo l e1).1
    · simp only [φ', if_true] at hy; exact hsub y hy
  have ho : ∀ x y, x ≠ n → owns ρ' φ' x y → owns ρ φ x y ∧ (x = b → ¬ X y ∨ ∃ l, ρ b = some l ∧ l.blk = y) := fun x y hx hy => by
    rcases hy with ⟨l, e1, e2⟩ | hy
    · simp only [ρ', if_neg hx] at e1
      exact ⟨.inl ⟨l, e1, e2⟩, fun e => .inr ⟨l, e ▸ e1, e2⟩⟩
    · simp only [φ', if_neg hx] at hy
      by_cases e : x = b
      · simp only [if_pos e] at hy
        subst e
        exact ⟨.inr hy.1, fun _ => .inl hy.2⟩
      · simp only [if_neg e] at hy
        exact ⟨.inr hy, fun g => absurd g e⟩
  have hXo : ∀ y, X y → owns ρ φ b y := fun y hy => .inr (hX y hy)
  have hdis : ∀ x y, x ≠ n → st.blk x ≠ none → owns ρ' φ' x y → ¬ X y := fun x y hx hb' hy hXy => by
    obtain ⟨g1, g2⟩ := ho x y hx hy
    have := h.heap.inj x b y hb' hb g1 (hXo y hXy)
    subst this
    rcases g2 rfl with g | ⟨l, g3, g4⟩
    · exact g hXy
    · exact h.heap.self _ l hb g3 (g4 ▸ hX y hXy)
  refine ⟨ρ', φ', h1.size, h1.defers, h1.slot, ⟨fun x r hx => ?_, fun x x' y g1 g2 e1 e2 => ?_, fun x l g1 e1 e2 => ?_, fun x y g1 e1 => ?_, fun x y g1 e1 => ?_⟩, h1.sb, h1.base, h1.from_, h1.grow, h1.keep, fun x y g1 e1 => ?_, fun x g1 g2 => ?_, h1.small, h1.wide⟩
  · rw [St.blk_setBlk] at hx
    by_cases e : x = n
    · rw [if_pos e] at hx
      obtain rfl := Option.some.inj hx
      subst e
      simp only [φ', if_true]
      exact hBn _ (if_pos rfl)
    · rw [if_neg e, St.blk_setBlk] at hx
      by_cases e' : x = b
      · rw [if_pos e'] at hx
        obtain rfl := Option.some.inj hx
        subst e'
        simp only [φ', if_neg e, if_true]
        exact hB' _ (fun y hy => if_neg hy) (if_pos rfl)
      · rw [if_neg e'] at hx
        have := h1.heap.blk x r hx
        simp only [if_neg e] at this
        simp only [φ', if_neg e, if_neg e']
        exact this
  · rcases hh x g1 with rfl | ⟨q1, q2⟩ <;> rcases hh x' g2 with rfl | ⟨q3, q4⟩
    · rfl
    · exact absurd (hon y e1) (hdis x' y q3 q4 e2)
    · exact absurd (hon y e2) (hdis x y q1 q2 e1)
    · exact h.heap.inj x x' y q2 q4 (ho x y q1 e1).1 (ho x' y q3 e2).1
  · rcases hh x g1 with rfl | ⟨q1, q2⟩
    · simp only [ρ', φ', if_true] at e1 e2
      exact (hlo l e1).2 e2
    · simp only [ρ', φ', if_neg q1] at e1 e2
      by_cases e : x = b
      · simp only [if_pos e] at e2
        subst e
        exact h.heap.self _ l q2 e1 e2.1
      · simp only [if_neg e] at e2
        exact h.heap.self x l q2 e1 e2
  · rcases hh x g1 with rfl | ⟨q1, q2⟩
    · exact h.heap.notS b y hb (hXo y (hon y e1))
    · exact h.heap.notS x y q2 (ho x y q1 e1).1
  · rcases hh x g1 with rfl | ⟨q1, q2⟩
    · exact h.heap.lt b y hb (hXo y (hon y e1))
    · exact h.heap.lt x y q2 (ho x y q1 e1).1
  · rcases hh x g1 with rfl | ⟨q1, q2⟩
    · rcases h.own b y hb (hXo y (hon y e1)) with g | g
      · exact .inl g
      · exact absurd hw g.1
    · exact h.own x y q2 (ho x y q1 e1).1
  · rcases hh x g2 with rfl | ⟨q1, q2⟩
    · exact absurd g1 hp
    · simp only [ρ', if_neg q1]; exact h.pin x g1 q2

/-- What cell (i, j) of block b owns gets the name n. -/
def St.unfoldAt (st : St) (b i j n : Nat) : Option (Prop × St) := match (st.kill n).blk b with
  | some (.c k rows) => match openC n ((rows.getD i []).getD j .dead) with
    | some (c', Bn) => some (¬ isPin n ∧ i < rows.length ∧ j < (rows.getD i []).length, ((st.kill n).setBlk b (.c k (rows.set i ((rows.getD i []).set j c')))).setBlk n Bn)
    | none => none
  | some (.m es) => match openC n (es.getD i (.nilIface, .dead)).2 with
    | some (c', Bn) => some (¬ isPin n ∧ i < es.length ∧ j = 0, ((st.kill n).setBlk b (.m (es.set i ((es.getD i (.nilIface, .dead)).1, c')))).setBlk n Bn)
    | none => none
  | none => none

theorem openC_rep {F : Nat → Prop} {v : Value} {c : SV} {n : Nat} {p : SV × Bk} (he : openC n c = some p) (h : CRep ρ S w v c F) : RepO S w v c F := by
  rcases h with h | h
  · unfold openC at he
    split at he
    · rename_i t s
      split at he <;> try (cases he; done)
      rename_i h1
      cases h with
      | per h => exact .per h
      | ifc _ h => cases h with
        | per h => exact .per (.ifc t h)
        | _ => cases h1
    · cases h with
      | per h => exact .per h
      | _ => cases he
  · exact h

theorem Sim.unfoldAt (h : Sim w0 M S0 ρ φ S st a w) {b i j n : Nat} {p : Prop} {st' : St} (he : st.unfoldAt b i j n = some (p, st')) (hp : p) (hw : ∀ b, M.wr b) : ∃ ρ' φ', Sim w0 M S0 ρ' φ' S st' a w := by
  have h0 := h.kill n
  have hf := st.kill_free n
  unfold St.unfoldAt at he
  generalize st.kill n = s0 at he h0 hf
  split at he
  · rename_i k rows hB
    split at he <;> try (cases he; done)
    rename_i c' Bn ho
    simp only [Option.some.injEq, Prod.mk.injEq] at he
    obtain ⟨rfl, rfl⟩ := he
    obtain ⟨hp, hi, hj⟩ := hp
    have hb : s0.blk b ≠ none := by rw [hB]; simp
    have hnm : ¬ (Bk.c k rows).Names n := hf.2.2 b _ hB
    have hbn : b ≠ n := fun e => hb (e ▸ hf.1)
    rcases h0.heap.blk b _ hB with ⟨_, h2⟩ | ⟨l, h1, h2, h3⟩
    · subst h2; simp at hi
    obtain ⟨G, e1, e2, e3⟩ := h3.cell
    have hri := getD_some' (x := ([] : List SV)) hi
    have hrj := getD_some' (x := SV.dead) hj
    obtain ⟨v, f1, f2, f3⟩ := e3 _ _ _ _ hri hrj
    obtain ⟨lo, Fn, hO⟩ := open_ok (openC_rep ho f3) ho
    refine h0.split hf hp hb (hw b) (G i j) (fun x hx => e1 i j x hx) hO.sub hO.loc (fun ρ' hρ hn => ?_) (fun ρ' hn => (hO.ok ρ' hn).1)
    refine .inr ⟨l, (hρ b hbn).trans h1, h2, h3.free, fun i' r g => ?_, by simpa using h3.long, fun p q x => (if p = i ∧ q = j then False else G p q x), fun p q x g => ?_, fun p q p' q' x g1 g2 => ?_, fun p r q d g1 g2 => ?_⟩
    · rw [List.getElem?_set] at g
      by_cases e : i = i'
      · rw [if_pos e, if_pos (by omega)] at g
        obtain rfl := Option.some.inj g; rw [List.length_set]; exact h3.len _ _ hri
      · rw [if_neg e] at g; exact h3.len _ _ g
    · dsimp only at g
      split at g
      · exact g.elim
      · rename_i hne
        exact ⟨e1 p q x g, fun g' => hne (e2 _ _ _ _ x g g')⟩
    · dsimp only at g1 g2
      split at g1
      · exact g1.elim
      · split at g2
        · exact g2.elim
        · exact e2 _ _ _ _ x g1 g2
    · have hm : ∀ {v : Value} {c : SV} {F : Nat → Prop}, ¬ c.Names n → CRep ρ S w v c F → CRep ρ' S w v c F := fun {v c F} hc h => h.mono (fun _ h => h) (Nat.le_refl _) (fun _ _ _ => rfl) h0.sb (fun x hx => hρ x fun e => hc (e ▸ hx)) (fun _ => Nat.le_refl _) (fun _ h => h)
      rw [List.getElem?_set] at g1
      by_cases ep : i = p
      · subst ep
        rw [if_pos rfl, if_pos hi] at g1
        obtain rfl := Option.some.inj g1
        rw [List.getElem?_set] at g2
        by_cases eq : j = q
        · subst eq
          rw [if_pos rfl, if_pos hj] at g2
          obtain rfl := Option.some.inj g2
          exact ⟨v, f1, f2, .inl (hO.ok ρ' hn).2⟩
        · rw [if_neg eq] at g2
          obtain ⟨v', f1', f2', f3'⟩ := e3 _ _ _ _ hri g2
          refine ⟨v', f1', f2', ?_⟩
          have : (fun x => if i = i ∧ q = j then False else G i q x) = G i q := funext fun x => if_neg fun g => eq g.2.symm
          show CRep ρ' S w v' d (fun x => if i = i ∧ q = j then False else G i q x)
          rw [this]
          exact hm (fun g => hnm (.c k rows _ d n (List.mem_of_getElem? hri) (List.mem_of_getElem? g2) g)) f3'
      · rw [if_neg ep] at g1
        obtain ⟨v', f1', f2', f3'⟩ := e3 _ _ _ _ g1 g2
        refine ⟨v', f1', f2', ?_⟩
        have : (fun x => if p = i ∧ q = j then False else G p q x) = G p q := funext fun x => if_neg fun g => ep g.1.symm
        show CRep ρ' S w v' d (fun x => if p = i ∧ q = j then False else G p q x)
        rw [this]
        exact hm (fun g => hnm (.c k rows r d n (List.mem_of_getElem? g1) (List.mem_of_getElem? g2) g)) f3'
  · rename_i es hB
    split at he <;> try (cases he; done)
    rename_i c' Bn ho
    simp only [Option.some.injEq, Prod.mk.injEq] at he
    obtain ⟨rfl, rfl⟩ := he
    obtain ⟨hp, hi, _⟩ := hp
    have hb : s0.blk b ≠ none := by rw [hB]; simp
    have hnm : ¬ (Bk.m es).Names n := hf.2.2 b _ hB
    have hbn : b ≠ n := fun e => hb (e ▸ hf.1)
    obtain ⟨l, h1, h3⟩ := h0.heap.blk b _ hB
    obtain ⟨ents, clk, vs, G, e0, e1, e2, e3, e4, e5⟩ := h3.ex
    have hri := getD_some' (x := ((.nilIface, .dead) : Value × SV)) hi
    have hv : i < vs.length := by rw [e2]; exact hi
    have f3 := e5 i vs[i] _ (by simp [hv]) hri
    obtain ⟨lo, Fn, hO⟩ := open_ok (openC_rep ho f3) ho
    refine h0.split hf hp hb (hw b) (G i) (fun x hx => e3 i x hx) hO.sub hO.loc (fun ρ' hρ hn => ?_) (fun ρ' hn => (hO.ok ρ' hn).1)
    refine ⟨l, (hρ b hbn).trans h1, ents, clk, vs, fun p x => (if p = i then False else G p x), e0, ?_, by simpa using e2, fun p x g => ?_, fun p q x g1 g2 => ?_, fun p v' e g1 g2 => ?_⟩
    · rw [List.map_set]
      have : (es.map (·.1)).set i (es.getD i (.nilIface, .dead)).1 = es.map (·.1) := by
        apply List.ext_getElem?
        intro q
        rw [List.getElem?_set]
        split
        · rename_i g; subst g
          rw [if_pos (by simpa using hi), List.getElem?_map, hri]; rfl
        · rfl
      rw [this]; exact e1
    · dsimp only at g
      split at g
      · exact g.elim
      · rename_i hne
        exact ⟨e3 p x g, fun g' => hne (e4 _ _ x g g')⟩
    · dsimp only at g1 g2
      split at g1
      · exact g1.elim
      · split at g2
        · exact g2.elim
        · exact e4 _ _ x g1 g2
    · rw [List.getElem?_set] at g2
      by_cases ep : i = p
      · subst ep
        rw [if_pos rfl, if_pos hi] at g2
        obtain rfl := Option.some.inj g2
        have : v' = vs[i] := by
          rw [List.getElem?_eq_getElem hv] at g1; exact (Option.some.inj g1).symm
        subst this
        exact .inl (hO.ok ρ' hn).2
      · rw [if_neg ep] at g2
        have : (fun x => if p = i then False else G p x) = G p := funext fun x => if_neg fun g => ep g.symm
        show CRep ρ' S w v' e.2 (fun x => if p = i then False else G p x)
        rw [this]
        exact (e5 _ _ _ g1 g2).mono (fun _ h => h) (Nat.le_refl _) (fun _ _ _ => rfl) h0.sb (fun x hx => hρ x fun e' => hnm (.m es e n (List.mem_of_getElem? g2) (e' ▸ hx))) (fun _ => Nat.le_refl _) (fun _ h => h)
  · cases he

/-! ## Nil slices -/

/-- An empty buffer without a place. -/
theorem Sim.virtBlk (h : Sim w0 M S0 ρ φ S st a w) (d k : Nat) (hp : ¬ isPin d) : ∃ ρ' φ', Sim w0 M S0 ρ' φ' S ((st.kill d).setBlk d (.c k [])) a w ∧ ∀ x, x ≠ d → ρ' x = ρ x := by
  have h1 := (h.kill d).rename (st.kill_free d) none (fun _ => False)
  have hno : ∀ x, ¬ owns (fun x => if x = d then none else ρ x) (fun x => if x = d then (fun _ => False) else φ x) d x := fun x hx => by
    rcases owns_same.mp hx with ⟨l, e, _⟩ | g
    · cases e
    · exact g
  exact ⟨_, _, h1.addBlk (st.kill_free d).1 hp (.inl ⟨if_pos rfl, rfl⟩) (fun b x _ _ hx => hno x hx) (fun l e => by simp only [if_true] at e; cases e) (fun x hx => absurd hx (hno x)) (fun x hx => absurd hx (hno x)) (fun x hx => absurd hx (hno x)), fun x hx => if_neg hx⟩

theorem Rep.pl_eq {v u : Value} (h : Rep ρ S w v (.pl u)) : v = u := by
  cases h with | per h => cases h; rfl
theorem Rep.nl_eq {v : Value} (h : Rep ρ S w v .nl) : v = .slice none 0 0 := by
  cases h with | per h => cases h; rfl

/-- The nil slice in slot t is taken for the empty buffer d, of rows of k cells. -/
def St.virt (st : St) (t d k : Nat) : St := match st.get t with
  | .nl => if isPin d then st else ((st.kill d).setBlk d (.c k [])).set t (.sl d 0 0)
  | _ => st
theorem Sim.virt (h : Sim w0 M S0 ρ φ S st a w) (t d k : Nat) : ∃ ρ' φ', Sim w0 M S0 ρ' φ' S (st.virt t d k) a w := by
  unfold St.virt
  split
  · rename_i e
    split
    · exact ⟨_, _, h⟩
    · rename_i hp
      obtain ⟨ρ', φ', h', _⟩ := h.virtBlk d k hp
      refine ⟨ρ', φ', h'.reslot t ?_⟩
      have := h.slot t
      rw [e] at this
      rw [this.nl_eq]
      exact .sl0 none d 0
  · exact ⟨_, _, h⟩

/-- The nil slice in cell (i, j) of block b is taken for the empty buffer d. -/
def St.virtAt (st : St) (b i j d k : Nat) : St := match (st.kill d).blk b with
  | some (.c k' rows) => match (rows.getD i []).getD j .dead with
    | .nl => if isPin d ∨ ¬ (i < rows.length ∧ j < (rows.getD i []).length) then st else ((st.kill d).setBlk d (.c k [])).setBlk b (.c k' (rows.set i ((rows.getD i []).set j (.sl d 0 0))))
    | _ => st
  | _ => st
theorem Sim.reblk (h : Sim w0 M S0 ρ φ S st a w) {b : Nat} {B B' : Bk} (hb : st.blk b = some B) (hok : BkOk ρ S w (φ b) b B → BkOk ρ S w (φ b) b B') : Sim w0 M S0 ρ φ S (st.setBlk b B') a w := by
  have hne : st.blk b ≠ none := by rw [hb]; simp
  have hh : ∀ x, (st.setBlk b B').blk x ≠ none → st.blk x ≠ none := fun x hx => by
    rw [St.blk_setBlk] at hx
    by_cases e : x = b
    · subst e; exact hne
    · rw [if_neg e] at hx; exact hx
  refine ⟨h.size, h.defers, h.slot, ⟨fun x r hx => ?_, fun x x' y h1 h2 => h.heap.inj x x' y (hh x h1) (hh x' h2), fun x l h1 => h.heap.self x l (hh x h1), fun x y h1 => h.heap.notS x y (hh x h1), fun x y h1 => h.heap.lt x y (hh x h1)⟩, h.sb, h.base, h.from_, h.grow, h.keep,
    fun x y h1 => h.own x y (hh x h1), fun x h1 h2 => h.pin x h1 (hh x h2), h.small, h.wide⟩
  rw [St.blk_setBlk] at hx
  by_cases e : x = b
  · rw [if_pos e] at hx; obtain rfl := Option.some.inj hx; subst e; exact hok (h.heap.blk _ _ hb)
  · rw [if_neg e] at hx; exact h.heap.blk x r hx
theorem Sim.virtAt (h : Sim w0 M S0 ρ φ S st a w) (b i j d k : Nat) : ∃ ρ' φ', Sim w0 M S0 ρ' φ' S (st.virtAt b i j d k) a w := by
  unfold St.virtAt
  split
  · rename_i k' rows hB
    split
    · rename_i hc
      split
      · exact ⟨_, _, h⟩
      · rename_i hp
        have hpd : ¬ isPin d := fun g => hp (.inl g)
        have hij : i < rows.length ∧ j < (rows.getD i []).length := Classical.byContradiction fun g => hp (.inr g)
        obtain ⟨ρ', φ', h', _⟩ := h.virtBlk d k hpd
        have hbd : b ≠ d := (blk_kill_ne hB).1
        refine ⟨ρ', φ', h'.reblk (B := .c k' rows) (by rw [St.blk_setBlk, if_neg hbd]; exact hB) fun hok => ?_⟩
        rcases hok with ⟨h1, h2⟩ | ⟨l, h1, h2, h3⟩
        · subst h2; exact absurd hij.1 (by simp)
        · refine .inr ⟨l, h1, h2, h3.setCell hij.1 hij.2 (X := fun _ => False) (fun _ g => g.elim) (fun x hx => hx.elim id False.elim) ?_⟩
          rintro v _ _ ⟨F0, f3⟩
          rw [hc] at f3
          rcases f3 with f3 | f3
          · cases f3 with | per g => cases g; exact .inl (.sl0 none d 0)
          · cases f3 with | per g => cases g; exact .inl (.sl0 none d 0)
    · exact ⟨_, _, h⟩
  · exact ⟨_, _, h⟩

/-! ## A state that says less -/

theorem Sim.sub {st' : St} (h : Sim w0 M S0 ρ φ S st a w) (hn : st'.n = st.n) (hg : ∀ t, st'.get t = st.get t ∨ st'.get t = .dead) (hb : ∀ b r, st'.blk b = some r → st.blk b = some r) : Sim w0 M S0 ρ φ S st' a w := by
  have hb' : ∀ b, st'.blk b ≠ none → st.blk b ≠ none := fun b hr => by
    obtain ⟨r, hr⟩ := Option.ne_none_iff_exists'.mp hr
    rw [hb b r hr]; simp
  refine ⟨by rw [hn]; exact h.size, h.defers, fun t => ?_, ⟨fun b r hr => h.heap.blk b r (hb b r hr), fun b b' x h1 h2 => h.heap.inj b b' x (hb' b h1) (hb' b' h2), fun b l h1 => h.heap.self b l (hb' b h1), fun b x h1 => h.heap.notS b x (hb' b h1), fun b x h1 => h.heap.lt b x (hb' b h1)⟩,
    h.sb, h.base, h.from_, h.grow, h.keep, fun b x h1 => h.own b x (hb' b h1), fun b h1 h2 => h.pin b h1 (hb' b h2), by rw [hn]; exact h.small, h.wide⟩
  rcases hg t with e | e
  · rw [e]; exact h.slot t
  · rw [e]; exact .dead _

def slOk (st : St) : List (Nat × SV) → Prop
  | [] => True
  | (t, s) :: l => st.get t = s ∧ slOk st l
def blOk (st : St) : List (Nat × Bk) → Prop
  | [] => True
  | (b, r) :: l => st.blk b = some r ∧ blOk st l
theorem slOk_get : ∀ {l : List (Nat × SV)}, slOk st l → ∀ t, (l.lookup t).getD .dead = st.get t ∨ (l.lookup t).getD .dead = .dead := by
  intro l
  induction l with
  | nil => intro _ t; exact .inr rfl
  | cons p l ih =>
    obtain ⟨x, s⟩ := p
    intro h t
    rw [lookup_cons_if]
    split
    · rename_i e; subst e; exact .inl h.1.symm
    · exact ih h.2 t
theorem blOk_get : ∀ {l : List (Nat × Bk)}, blOk st l → ∀ t r, l.lookup t = some r → st.blk t = some r := by
  intro l
  induction l with
  | nil => intro _ t r h; simp at h
  | cons p l ih =>
    obtain ⟨x, s⟩ := p
    intro h t r
    rw [lookup_cons_if]
    split
    · rename_i e; subst e; intro g; obtain rfl := Option.some.inj g; exact h.1
    · exact ih h.2 t r
theorem Sim.to {n : Nat} {sl : List (Nat × SV)} {bl : List (Nat × Bk)} (h : Sim w0 M S0 ρ φ S st a w) (hn : st.n = n) (h1 : slOk st sl) (h3 : blOk st bl) : Sim w0 M S0 ρ φ S ⟨n, sl, bl⟩ a w := h.sub hn.symm (slOk_get h1) (blOk_get h3)

end Go.Vcg
