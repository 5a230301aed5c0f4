/- Results come in; a call under a contract. -/
import Derived.Test.YtekdhfppbahidaaU13
namespace Go.Vcg

variable {w0 : World} {M : Perm} {S0 : Nat → Prop} {ρ : Nat → Option Loc} {φ : Nat → Nat → Prop} {S : Nat → Prop} {st : St} {a : Act} {w : World} {P : Program} {T : Nat → Option TI} {C : Cx} {K : St → Prop} {o : Oper}

theorem RepP.noNames {v : Value} {s : SV} (h : RepP S w v s) (b : Nat) : ¬ s.Names b := by
  induction h with
  | ifc t _ ih => intro g; cases g with | ifc _ _ _ g => exact ih g
  | fn f va vb a b ha hb _ _ ih1 ih2 =>
    intro g
    cases g with
    | fna _ _ _ c _ hc g =>
      obtain ⟨i, hi, rfl⟩ := List.getElem_of_mem hc
      exact ih1 i _ _ (List.getElem?_eq_getElem (by rw [ha]; exact hi)) (List.getElem?_eq_getElem hi) g
    | fnb _ _ _ c _ hc g =>
      obtain ⟨i, hi, rfl⟩ := List.getElem_of_mem hc
      exact ih2 i _ _ (List.getElem?_eq_getElem (by rw [hb]; exact hi)) (List.getElem?_eq_getElem hi) g
  | ag vs cs hl _ ih =>
    intro g
    cases g with
    | ag _ c _ hc g =>
      obtain ⟨i, hi, rfl⟩ := List.getElem_of_mem hc
      exact ih i _ _ (List.getElem?_eq_getElem (by rw [hl]; exact hi)) (List.getElem?_eq_getElem hi) g
  | tu vs cs hl _ ih =>
    intro g
    cases g with
    | tu _ c _ hc g =>
      obtain ⟨i, hi, rfl⟩ := List.getElem_of_mem hc
      exact ih i _ _ (List.getElem?_eq_getElem (by rw [hl]; exact hi)) (List.getElem?_eq_getElem hi) g
  | _ => intro g; cases g
theorem RepO.noNames {v : Value} {s : SV} {F : Nat → Prop} (h : RepO S w v s F) (b : Nat) : ¬ s.Names b := by
  induction h with
  | per h => exact h.noNames b
  | ifc t _ ih => intro g; cases g with | ifc _ _ _ g => exact ih g
  | ag vs cs G F h1 h2 hl _ ih =>
    intro g
    cases g with
    | ag _ c _ hc g =>
      obtain ⟨i, hi, rfl⟩ := List.getElem_of_mem hc
      exact ih i _ _ (List.getElem?_eq_getElem (by rw [hl]; exact hi)) (List.getElem?_eq_getElem hi) g
  | tu vs cs G F h1 h2 hl _ ih =>
    intro g
    cases g with
    | tu _ c _ hc g =>
      obtain ⟨i, hi, rfl⟩ := List.getElem_of_mem hc
      exact ih i _ _ (List.getElem?_eq_getElem (by rw [hl]; exact hi)) (List.getElem?_eq_getElem hi) g
  | _ => intro g; cases g
theorem SV.vis_names {s : SV} {b : Nat} (h : s.vis.Names b) : s.Names b := by
  cases s with
  | ifc t s =>
    cases h with
    | ifc _ _ _ h =>
      refine .ifc t s b ?_
      cases s <;> first | exact h | cases h
  | ow | bo | mo | ag | tu => cases h
  | _ => exact h

/-! ## A result gets names -/

def impC (n : Nat) (s : SV) : SV × List (Nat × Bk) := match openC n s with
  | some (s', B) => (s', [(n, B)])
  | none => (s.vis, [])
def impCs (n : Nat) : List SV → List SV × List (Nat × Bk)
  | [] => ([], [])
  | c :: cs => ((impC n c).1 :: (impCs (n + 1) cs).1, (impC n c).2 ++ (impCs (n + 1) cs).2)
def impR1 (n : Nat) : SV → SV × List (Nat × Bk)
  | .ag cs => (.ag (impCs n cs).1, (impCs n cs).2)
  | s => impC n s
def impRs (n : Nat) : List SV → List SV × List (Nat × Bk)
  | [] => ([], [])
  | x :: xs => ((impR1 n x).1 :: (impRs (n + 100) xs).1, (impR1 n x).2 ++ (impRs (n + 100) xs).2)
def impR (n : Nat) : SV → SV × List (Nat × Bk)
  | .tu xs => (.tu (impRs n xs).1, (impRs n xs).2)
  | s => impR1 n s
def St.addBks (st : St) : List (Nat × Bk) → St
  | [] => st
  | (n, B) :: l => St.addBks ((st.kill n).setBlk n B) l
theorem St.addBks_append (st : St) (l l' : List (Nat × Bk)) : st.addBks (l ++ l') = (st.addBks l).addBks l' := by
  induction l generalizing st with
  | nil => rfl
  | cons p l ih => exact ih _
theorem St.addBks_n (st : St) (l : List (Nat × Bk)) : (st.addBks l).n = st.n := by
  induction l generalizing st with
  | nil => rfl
  | cons p l ih => exact (ih _).trans rfl

def impOk1 : SV → Prop
  | .ag cs => cs.length ≤ 100
  | _ => True
def impOk : SV → Prop
  | .tu xs => ∀ x ∈ xs, impOk1 x
  | s => impOk1 s

/-- What may get names. -/
def NewF (w0 : World) (M : Perm) (ρ : Nat → Option Loc) (φ : Nat → Nat → Prop) (S : Nat → Prop) (st : St) (w : World) (F : Nat → Prop) : Prop := ∀ x, F x → ¬ S x ∧ x < w.heap.size ∧ (M x ∨ w0.heap.size ≤ x) ∧ ¬ ownsAny ρ φ st.blk x

/-- How it has come in: names from n to m. -/
structure Imp (w0 : World) (M : Perm) (S0 : Nat → Prop) (ρ : Nat → Option Loc) (φ : Nat → Nat → Prop) (S : Nat → Prop) (st st' : St) (a : Act) (w : World) (n m : Nat) (F : Nat → Prop) (ρ' : Nat → Option Loc) (φ' : Nat → Nat → Prop) : Prop where
  sim : Sim w0 M S0 ρ' φ' S st' a w
  oth : ∀ x, x < n ∨ m ≤ x → ρ' x = ρ x
  own : ∀ x, ownsAny ρ' φ' st'.blk x → ownsAny ρ φ st.blk x ∨ F x

theorem Sim.impC (h : Sim w0 M S0 ρ φ S st a w) {n : Nat} (hp : 2000000 ≤ n) {v : Value} {s : SV} {F : Nat → Prop} (hr : RepO S w v s F) (hF : NewF w0 M ρ φ S st w F) :
    ∃ ρ' φ', Imp w0 M S0 ρ φ S st (st.addBks (impC n s).2) a w n (n + 1) F ρ' φ' ∧ Rep ρ' S w v (impC n s).1 ∧ ∀ x, (impC n s).1.Names x → x = n := by
  unfold Go.Vcg.impC
  split
  · rename_i s' B he
    obtain ⟨lo, Fn, hO⟩ := open_ok hr he
    have hf := st.kill_free n
    have h1 := (h.kill n).rename hf lo Fn
    have hon : ∀ x, owns (fun x => if x = n then lo else ρ x) (fun x => if x = n then Fn else φ x) n x → F x := fun x hx => by
      rcases owns_same.mp hx with ⟨l, e1, e2⟩ | hx
      · exact e2 ▸ (hO.loc l e1).1
      · exact hO.sub x hx
    have h2 := h1.addBlk (k := B) hf.1 (fun g => by unfold isPin at g; omega) (by simp only [if_true]; exact (hO.ok _ (if_pos rfl)).1) (fun b x hb hx hx' => by
        have hbn : b ≠ n := fun e => hb (e ▸ hf.1)
        exact (hF x (hon x hx')).2.2.2 ⟨b, (blk_kill_has hb).2, (owns_ne hbn).mp hx⟩) (fun l e1 => by
        simp only [if_true] at e1 ⊢; exact (hO.loc l e1).2) (fun x hx => (hF x (hon x hx)).1) (fun x hx => (hF x (hon x hx)).2.1) (fun x hx => (hF x (hon x hx)).2.2.1)
    refine ⟨_, _, ⟨h2, fun x hx => if_neg (by omega), fun x ⟨b, hb, hx⟩ => ?_⟩, (hO.ok _ (if_pos rfl)).2, fun x hx => ?_⟩
    · have hb : ((st.kill n).setBlk n B).blk b ≠ none := hb
      rw [St.blk_setBlk] at hb
      by_cases e : b = n
      · subst e; exact .inr (hon x hx)
      · rw [if_neg e] at hb
        exact .inl ⟨b, (blk_kill_has hb).2, (owns_ne e).mp hx⟩
    · have hn0 : ∀ {c c' : SV} {B : Bk}, openC0 n c = some (c', B) → ∀ x, c'.Names x → x = n := fun {c c' B} he x hx => by
        cases c <;> (try (cases he; done)) <;> (simp only [openC0, Option.some.injEq, Prod.mk.injEq] at he; obtain ⟨rfl, _⟩ := he; cases hx; rfl)
      unfold openC at he
      split at he
      · split at he <;> try (cases he; done)
        rename_i h3
        simp only [Option.some.injEq, Prod.mk.injEq] at he
        obtain ⟨rfl, _⟩ := he
        cases hx with
        | ifc _ _ _ hx => exact hn0 h3 x hx
      · exact hn0 he x hx
  · exact ⟨ρ, φ, ⟨h, fun _ _ => rfl, fun x hx => .inl hx⟩, CRep.vis (F := F) (.inr hr), fun x hx => absurd (SV.vis_names hx) (hr.noNames x)⟩

theorem Sim.impCs (cs : List SV) : ∀ {ρ : Nat → Option Loc} {φ : Nat → Nat → Prop} {st : St} {vs : List Value} {n : Nat} {G : Nat → Nat → Prop}, Sim w0 M S0 ρ φ S st a w → 2000000 ≤ n → vs.length = cs.length → (∀ (i : Nat) (v : Value) (c : SV), vs[i]? = some v → cs[i]? = some c → RepO S w v c (G i)) →
    (∀ i j x, G i x → G j x → i = j) → (∀ i, NewF w0 M ρ φ S st w (G i)) →
    ∃ ρ' φ', Imp w0 M S0 ρ φ S st (st.addBks (impCs n cs).2) a w n (n + cs.length) (fun x => ∃ i, G i x) ρ' φ' ∧ (impCs n cs).1.length = cs.length ∧ (∀ (i : Nat) (v : Value) (c : SV), vs[i]? = some v → (impCs n cs).1[i]? = some c → Rep ρ' S w v c) ∧
      ∀ c ∈ (impCs n cs).1, ∀ x, c.Names x → n ≤ x ∧ x < n + cs.length := by
  induction cs with
  | nil => intro ρ φ st vs n G h _ hl _ _ _; exact ⟨ρ, φ, ⟨h, fun _ _ => rfl, fun x hx => .inl hx⟩, rfl, fun i v c _ h => by simp [Go.Vcg.impCs] at h, fun c hc => by simp [Go.Vcg.impCs] at hc⟩
  | cons c cs ih =>
    intro ρ φ st vs n G h hn hl hr hG hF
    cases vs with
    | nil => simp at hl
    | cons v vs =>
      obtain ⟨ρ1, φ1, h1, h2, h3⟩ := h.impC hn (hr 0 v c rfl rfl) (hF 0)
      obtain ⟨ρ2, φ2, g1, g2, g3, g4⟩ := ih (vs := vs) (n := n + 1) (G := fun i => G (i + 1)) h1.sim (by omega) (by simpa using hl) (fun i v c e1 e2 => hr (i + 1) v c (by simpa using e1) (by simpa using e2)) (fun i j x e1 e2 => by have := hG _ _ x e1 e2; omega) (fun i x hx => by
        obtain ⟨q1, q2, q3, q4⟩ := hF (i + 1) x hx
        refine ⟨q1, q2, q3, fun g => ?_⟩
        rcases h1.own x g with g | g
        · exact q4 g
        · have := hG _ _ x hx g; omega)
      refine ⟨ρ2, φ2, ⟨?_, fun x hx => ?_, fun x hx => ?_⟩, ?_, fun i u d e1 e2 => ?_, fun d hd x hx => ?_⟩
      · show Sim w0 M S0 ρ2 φ2 S (st.addBks ((Go.Vcg.impC n c).2 ++ (Go.Vcg.impCs (n + 1) cs).2)) a w
        rw [St.addBks_append]; exact g1.sim
      · simp only [List.length_cons] at hx
        rw [g1.oth x (by omega), h1.oth x (by omega)]
      · have hx : ownsAny ρ2 φ2 (st.addBks ((Go.Vcg.impC n c).2 ++ (Go.Vcg.impCs (n + 1) cs).2)).blk x := hx
        rw [St.addBks_append] at hx
        rcases g1.own x hx with g | ⟨i, g⟩
        · exact (h1.own x g).imp id fun g => ⟨0, g⟩
        · exact .inr ⟨i + 1, g⟩
      · simp [Go.Vcg.impCs, g2]
      · cases i with
        | zero =>
          simp only [List.getElem?_cons_zero, Option.some.injEq, Go.Vcg.impCs] at e1 e2
          subst e1; subst e2
          exact h2.mono (fun _ h => h) (fun _ _ => rfl) (fun x hx => g1.oth x (by have := h3 x hx; omega)) (fun _ => Nat.le_refl _)
        | succ i => exact g3 i u d (by simpa using e1) (by simpa [Go.Vcg.impCs] using e2)
      · simp only [Go.Vcg.impCs, List.mem_cons] at hd
        simp only [List.length_cons]
        rcases hd with rfl | hd
        · have := h3 x hx; omega
        · have := g4 d hd x hx; omega

theorem RepO.ag_inv {v : Value} {cs : List SV} {F : Nat → Prop} (h : RepO S w v (.ag cs) F) : ∃ (vs : List Value) (G : Nat → Nat → Prop), v = .agg vs.toArray ∧ vs.length = cs.length ∧ (∀ j x, G j x → F x) ∧ (∀ j j' x, G j x → G j' x → j = j') ∧ ∀ (i : Nat) (u : Value) (c : SV), vs[i]? = some u → cs[i]? = some c → RepO S w u c (G i) := by
  cases h with
  | ag vs _ G _ h1 h2 h3 h4 => exact ⟨vs, G, rfl, h3, h1, h2, h4⟩
  | per h => cases h with
    | ag vs _ hl h => exact ⟨vs, fun _ _ => False, rfl, hl, fun _ _ g => g.elim, fun _ _ _ g => g.elim, fun i u c h1 h2 => .per (h i u c h1 h2)⟩
theorem RepO.tu_inv {v : Value} {cs : List SV} {F : Nat → Prop} (h : RepO S w v (.tu cs) F) : ∃ (vs : List Value) (G : Nat → Nat → Prop), v = .tuple vs.toArray ∧ vs.length = cs.length ∧ (∀ j x, G j x → F x) ∧ (∀ j j' x, G j x → G j' x → j = j') ∧ ∀ (i : Nat) (u : Value) (c : SV), vs[i]? = some u → cs[i]? = some c → RepO S w u c (G i) := by
  cases h with
  | tu vs _ G _ h1 h2 h3 h4 => exact ⟨vs, G, rfl, h3, h1, h2, h4⟩
  | per h => cases h with
    | tu vs _ hl h => exact ⟨vs, fun _ _ => False, rfl, hl, fun _ _ g => g.elim, fun _ _ _ g => g.elim, fun i u c h1 h2 => .per (h i u c h1 h2)⟩

theorem Sim.impR1 (h : Sim w0 M S0 ρ φ S st a w) {n : Nat} (hp : 2000000 ≤ n) {v : Value} {s : SV} {F : Nat → Prop} (hr : RepO S w v s F) (hF : NewF w0 M ρ φ S st w F) (hs : impOk1 s) :
    ∃ ρ' φ', Imp w0 M S0 ρ φ S st (st.addBks (impR1 n s).2) a w n (n + 100) F ρ' φ' ∧ Rep ρ' S w v (impR1 n s).1 ∧ ∀ x, (impR1 n s).1.Names x → n ≤ x ∧ x < n + 100 := by
  have hone : ∃ ρ' φ', Imp w0 M S0 ρ φ S st (st.addBks (Go.Vcg.impC n s).2) a w n (n + 100) F ρ' φ' ∧ Rep ρ' S w v (Go.Vcg.impC n s).1 ∧ ∀ x, (Go.Vcg.impC n s).1.Names x → n ≤ x ∧ x < n + 100 := by
    obtain ⟨ρ', φ', h1, h2, h3⟩ := h.impC hp hr hF
    exact ⟨ρ', φ', ⟨h1.sim, fun x hx => h1.oth x (by omega), h1.own⟩, h2, fun x hx => by have := h3 x hx; omega⟩
  cases s with
  | ag cs =>
    obtain ⟨vs, G, rfl, hl, hG1, hG2, hc⟩ := hr.ag_inv
    have hs : cs.length ≤ 100 := hs
    obtain ⟨ρ', φ', h1, h2, h3, h4⟩ := Sim.impCs cs (n := n) h hp hl hc (fun i j x => hG2 i j x) (fun i x hx => hF x (hG1 i x hx))
    refine ⟨ρ', φ', ⟨h1.sim, fun x hx => h1.oth x (by omega), fun x hx => (h1.own x hx).imp id fun ⟨i, g⟩ => hG1 i x g⟩, .ag vs _ (by rw [h2]; exact hl) h3, fun x hx => ?_⟩
    cases hx with
    | ag _ c _ hc hx => have := h4 c hc x hx; omega
  | _ => exact hone

theorem Sim.impRs (xs : List SV) : ∀ {ρ : Nat → Option Loc} {φ : Nat → Nat → Prop} {st : St} {vs : List Value} {n : Nat} {G : Nat → Nat → Prop}, Sim w0 M S0 ρ φ S st a w → 2000000 ≤ n → vs.length = xs.length → (∀ (i : Nat) (v : Value) (c : SV), vs[i]? = some v → xs[i]? = some c → RepO S w v c (G i)) →
    (∀ i j x, G i x → G j x → i = j) → (∀ i, NewF w0 M ρ φ S st w (G i)) → (∀ x ∈ xs, impOk1 x) →
    ∃ ρ' φ', Imp w0 M S0 ρ φ S st (st.addBks (impRs n xs).2) a w n (n + 100 * xs.length) (fun x => ∃ i, G i x) ρ' φ' ∧ (impRs n xs).1.length = xs.length ∧ (∀ (i : Nat) (v : Value) (c : SV), vs[i]? = some v → (impRs n xs).1[i]? = some c → Rep ρ' S w v c) ∧
      ∀ c ∈ (impRs n xs).1, ∀ x, c.Names x → n ≤ x ∧ x < n + 100 * xs.length := by
  induction xs with
  | nil => intro ρ φ st vs n G h _ hl _ _ _ _; exact ⟨ρ, φ, ⟨h, fun _ _ => rfl, fun x hx => .inl hx⟩, rfl, fun i v c _ h => by simp [Go.Vcg.impRs] at h, fun c hc => by simp [Go.Vcg.impRs] at hc⟩
  | cons c cs ih =>
    intro ρ φ st vs n G h hn hl hr hG hF hs
    cases vs with
    | nil => simp at hl
    | cons v vs =>
      obtain ⟨ρ1, φ1, h1, h2, h3⟩ := h.impR1 hn (hr 0 v c rfl rfl) (hF 0) (hs c (by simp))
      obtain ⟨ρ2, φ2, g1, g2, g3, g4⟩ := ih (vs := vs) (n := n + 100) (G := fun i => G (i + 1)) h1.sim (by omega) (by simpa using hl) (fun i v c e1 e2 => hr (i + 1) v c (by simpa using e1) (by simpa using e2)) (fun i j x e1 e2 => by have := hG _ _ x e1 e2; omega) (fun i x hx => by
        obtain ⟨q1, q2, q3, q4⟩ := hF (i + 1) x hx
        refine ⟨q1, q2, q3, fun g => ?_⟩
        rcases h1.own x g with g | g
        · exact q4 g
        · have := hG _ _ x hx g; omega) (fun x hx => hs x (by simp [hx]))
      refine ⟨ρ2, φ2, ⟨?_, fun x hx => ?_, fun x hx => ?_⟩, ?_, fun i u d e1 e2 => ?_, fun d hd x hx => ?_⟩
      · show Sim w0 M S0 ρ2 φ2 S (st.addBks ((Go.Vcg.impR1 n c).2 ++ (Go.Vcg.impRs (n + 100) cs).2)) a w
        rw [St.addBks_append]; exact g1.sim
      · rw [List.length_cons, Nat.mul_succ] at hx
        rw [g1.oth x (by omega), h1.oth x (by omega)]
      · have hx : ownsAny ρ2 φ2 (st.addBks ((Go.Vcg.impR1 n c).2 ++ (Go.Vcg.impRs (n + 100) cs).2)).blk x := hx
        rw [St.addBks_append] at hx
        rcases g1.own x hx with g | ⟨i, g⟩
        · exact (h1.own x g).imp id fun g => ⟨0, g⟩
        · exact .inr ⟨i + 1, g⟩
      · simp [Go.Vcg.impRs, g2]
      · cases i with
        | zero =>
          simp only [List.getElem?_cons_zero, Option.some.injEq, Go.Vcg.impRs] at e1 e2
          subst e1; subst e2
          exact h2.mono (fun _ h => h) (fun _ _ => rfl) (fun x hx => g1.oth x (by have := h3 x hx; omega)) (fun _ => Nat.le_refl _)
        | succ i => exact g3 i u d (by simpa using e1) (by simpa [Go.Vcg.impRs] using e2)
      · simp only [Go.Vcg.impRs, List.mem_cons] at hd
        rw [List.length_cons, Nat.mul_succ]
        rcases hd with rfl | hd
        · have := h3 x hx; omega
        · have := g4 d hd x hx; omega

theorem Sim.impR (h : Sim w0 M S0 ρ φ S st a w) {n : Nat} (hp : 2000000 ≤ n) {v : Value} {s : SV} {F : Nat → Prop} (hr : RepO S w v s F) (hF : NewF w0 M ρ φ S st w F) (hs : impOk s) :
    ∃ ρ' φ', Sim w0 M S0 ρ' φ' S (st.addBks (impR n s).2) a w ∧ Rep ρ' S w v (impR n s).1 := by
  have hone : impOk1 s → ∃ ρ' φ', Sim w0 M S0 ρ' φ' S (st.addBks (Go.Vcg.impR1 n s).2) a w ∧ Rep ρ' S w v (Go.Vcg.impR1 n s).1 := fun hs => by
    obtain ⟨ρ', φ', h1, h2, _⟩ := h.impR1 hp hr hF hs
    exact ⟨ρ', φ', h1.sim, h2⟩
  cases s with
  | tu xs =>
    obtain ⟨vs, G, rfl, hl, hG1, hG2, hc⟩ := hr.tu_inv
    obtain ⟨ρ', φ', h1, h2, h3, _⟩ := Sim.impRs xs (n := n) h hp hl hc (fun i j x => hG2 i j x) (fun i x hx => hF x (hG1 i x hx)) hs
    exact ⟨ρ', φ', h1.sim, .tu vs _ (by rw [h2]; exact hl) h3⟩
  | _ => exact hone hs

def nmR (d : Nat) : Nat := 10000000 + 100000 * d
/-- The result of a call comes into slot d. -/
def bindR (st : St) (d : Option Nat) (s : SV) : St := match d with
  | some d => (st.addBks (impR (nmR d) s).2).set d (impR (nmR d) s).1
  | none => st

theorem Sim.bind (h : Sim w0 M S0 ρ φ S st a w) {d : Option Nat} (hd : dOk st.n d) {v : Value} {s : SV} {F : Nat → Prop} (hr : RepO S w v s F) (hF : NewF w0 M ρ φ S st w F) (hs : impOk s) : Holds w0 M S0 (bindR st d s) (a.put d v) w := by
  cases d with
  | none => exact ⟨ρ, φ, S, h⟩
  | some d =>
    obtain ⟨ρ', φ', h1, h2⟩ := h.impR (n := nmR d) (by unfold nmR; omega) hr hF hs
    exact ⟨ρ', φ', S, h1.setSlot (by rw [St.addBks_n]; exact hd) h2⟩

end Go.Vcg
