/- Regions whose order the tape draws. -/
import Derived.Test.YtekdhfppbahidaaU18
import Derived.OrdersHeld
namespace Go.Vcg

/-! ## What is guarded stays -/

def Kp (G : Nat → Prop) (w w' : World) : Prop := w.heap.size ≤ w'.heap.size ∧ ∀ i, G i → w'.heap[i]? = w.heap[i]?
theorem Kp.refl (G : Nat → Prop) (w : World) : Kp G w w := ⟨Nat.le_refl _, fun _ _ => rfl⟩
theorem Kp.trans {G : Nat → Prop} {w w' w'' : World} (h : Kp G w w') (h' : Kp G w' w'') : Kp G w w'' := ⟨Nat.le_trans h.1 h'.1, fun i hi => (h'.2 i hi).trans (h.2 i hi)⟩
theorem Kp.sub {G G' : Nat → Prop} {w w' : World} (h : Kp G w w') (hG : ∀ x, G' x → G x) : Kp G' w w' := ⟨h.1, fun i hi => h.2 i (hG i hi)⟩

section
variable {P : Program} {md : Region.Mode} {ops : Array Oper} {Q : Exit → Act → World → Prop} {G G' : Nat → Nat → Prop}

/-- G j: what operation j leaves as it is. -/
def wpAnyF (P : Program) (md : Region.Mode) (ops : Array Oper) (Q : Exit → Act → World → Prop) (G : Nat → Nat → Prop) : Nat → Array Bool → Act → World → Prop
  | 0, listed, a, w => Region.ready md ops listed = [] ∧ Q .normal a w
  | fuel + 1, listed, a, w => (Region.ready md ops listed = [] → Q .normal a w) ∧
    ∀ i ∈ Region.ready md ops listed, wpOp P ops Q i (fun a' w' => Kp (G i) w w' ∧ wpAnyF P md ops Q G fuel (listed.setIfInBounds i true) a' w') a w

theorem wpAny_of_F : ∀ (fuel : Nat) (listed : Array Bool) (a : Act) (w : World), wpAnyF P md ops Q G fuel listed a w → wpAny P md ops Q fuel listed a w
  | 0, _, _, _, h => h
  | fuel + 1, _, _, _, h => ⟨h.1, fun i hi => wpOp_mono (fun a' w' h' => wpAny_of_F fuel _ a' w' h'.2) (h.2 i hi)⟩
theorem wpAnyF_mono (hG : ∀ j i, G' j i → G j i) : ∀ (fuel : Nat) (listed : Array Bool) (a : Act) (w : World), wpAnyF P md ops Q G fuel listed a w → wpAnyF P md ops Q G' fuel listed a w
  | 0, _, _, _, h => h
  | fuel + 1, _, _, _, h => ⟨h.1, fun i hi => wpOp_mono (fun a' w' h' => ⟨h'.1.sub (hG i), wpAnyF_mono hG fuel _ a' w' h'.2⟩) (h.2 i hi)⟩

theorem YieldsIf.later {Gi : Nat → Prop} {o : Oper} {v : Value} {a : Act} {w w' : World} (hk : Kp Gi w w') (h : YieldsIf P ops (Kp Gi w) o v a) : YieldsIf P ops (Kp Gi w') o v a :=
  h.imp (fun ⟨h1, h2⟩ => ⟨h1, fun w'' hw => h2 w'' (hk.trans hw)⟩) id

theorem wpAnyF_first {i : Nat} {oi : Oper} {v : Value} {Gi : Nat → Prop} (hi : ops[i]? = some oi) (hsel : ∀ (j : Nat) (o : Oper) cs b, ops[j]? = some o → o.op ≠ .select cs b)
    (hQ : ∀ c a w, Q (.panic c) (a.put oi.dst v) w → Q (.panic c) a w) (hgi : ∀ x, G i x → G i x) :
    ∀ (fuel : Nat) (listed : Array Bool) (a : Act) (w : World),
      (∀ j oj, ops[j]? = some oj → j ≠ i → listed.getD j true = false → (∀ e ∈ oj.after, Region.binds md e = true → e.on ≠ i) → oi.apart ops oj = true ∧ ∀ x, Gi x → G j x) →
      i ∈ Region.ready md ops listed → YieldsIf P ops (Kp Gi w) oi v a →
      wpAnyF P md ops Q G fuel (listed.setIfInBounds i true) (a.put oi.dst v) w → wpAnyF P md ops Q G (fuel + 1) listed a w := by
  intro fuel
  induction fuel with
  | zero =>
    intro listed a w _ hr hy H
    refine ⟨fun h => (by rw [h] at hr; cases hr), fun j hj => ?_⟩
    by_cases hji : j = i
    · subst hji; exact hy.wpOp hi (Kp.refl _ w) ⟨Kp.refl _ w, H⟩
    · have := ready_mono hj hji
      rw [H.1] at this
      cases this
  | succ fuel ih =>
    intro listed a w hfree hr hy H
    refine ⟨fun h => (by rw [h] at hr; cases hr), fun j hj => ?_⟩
    by_cases hji : j = i
    · subst hji; exact hy.wpOp hi (Kp.refl _ w) ⟨Kp.refl _ w, H⟩
    · have h1 := H.2 j (ready_mono hj hji)
      obtain ⟨hjun, oj, hoj, hall⟩ := mem_ready.1 hj
      have hnot : ∀ e ∈ oj.after, Region.binds md e = true → e.on ≠ i := fun e he hb heq => by
        have h1 := hall e he hb
        have h0 := (mem_ready.1 hr).1
        rw [heq] at h1
        rcases Nat.lt_or_ge i listed.size with h' | h'
        · simp [h'] at h0 h1; rw [h0] at h1; cases h1
        · simp [Array.getElem?_eq_none h'] at h1
      obtain ⟨hap, hGj⟩ := hfree j oj hoj hji hjun hnot
      have h1' : wpOp P ops Q j (fun a' w' => Kp Gi w w' ∧ (Kp (G j) w w' ∧ wpAnyF P md ops Q G fuel ((listed.setIfInBounds i true).setIfInBounds j true) a' w')) (a.put oi.dst v) w := wpOp_mono (fun a' w' h => ⟨h.1.sub hGj, h⟩) h1
      have h2 := wpOp_putIf hoj hap (fun cs b => hsel i oi cs b hi) (fun cs b => hsel j oj cs b hoj) hQ hy h1'
      have hfree' : ∀ k ok, ops[k]? = some ok → k ≠ i → (listed.setIfInBounds j true).getD k true = false →
          (∀ e ∈ ok.after, Region.binds md e = true → e.on ≠ i) → oi.apart ops ok = true ∧ ∀ x, Gi x → G k x := fun k ok hk hki hun hno => by
        refine hfree k ok hk hki ?_ hno
        by_cases hjk : j = k
        · subst hjk; exact hjun
        · rw [getD_set_ne true hjk] at hun; exact hun
      refine wpOp_mono (fun a' w' h3 => ⟨h3.2.2.1, ih (listed.setIfInBounds j true) a' w' hfree' (ready_mono hr (Ne.symm hji)) (YieldsIf.later h3.2.1 h3.1) ?_⟩) h2
      rw [Array.setIfInBounds_comm _ _ hji]
      exact h3.2.2.2
end

/-! ## The state, told from a later world on -/

variable {w0 : World} {M : Perm} {S0 : Nat → Prop} {ρ : Nat → Option Loc} {φ : Nat → Nat → Prop} {S : Nat → Prop} {st : St} {a : Act} {w : World} {P : Program} {T : Nat → Option TI} {K : St → Prop} {ops : Array Oper}

/-- The blocks of the names of W. -/
def wBlk (W : Nat → Bool) (ρ : Nat → Option Loc) (φ : Nat → Nat → Prop) (st : St) (i : Nat) : Prop := ∃ b, W b = true ∧ st.blk b ≠ none ∧ owns ρ φ b i
/-- The rights of one operation of a region; wri: it may write the names of W. -/
def reb (M : Perm) (w0 : World) (W : Nat → Bool) (wri : Bool) (ρ : Nat → Option Loc) (φ : Nat → Nat → Prop) (st : St) : Perm :=
  ⟨fun x => wri = true ∧ wBlk W ρ φ st x, M.pin, fun b => wri = true ∧ W b = true, fun b x => (wri = false → W b = true → wBlk W ρ φ st x) ∧ (M x ∨ w0.heap.size ≤ x ∨ ∃ b', M.ro b' x)⟩

theorem Sim.reb (h : Sim w0 M S0 ρ φ S st a w) (W : Nat → Bool) (wri : Bool) : Sim w (Vcg.reb M w0 W wri ρ φ st) S ρ φ S st a w := by
  refine ⟨h.size, h.defers, h.slot, h.heap, h.sb, fun _ hi => hi, fun _ hi => .inl hi, Nat.le_refl _, fun _ _ _ => rfl, fun b x h1 h2 => ?_, h.pin, h.small, .refl w, fun _ => Nat.le_refl _⟩
  have hro : M x ∨ w0.heap.size ≤ x ∨ ∃ b', M.ro b' x := by
    rcases h.own b x h1 h2 with (g | g) | g
    · exact .inl g
    · exact .inr (.inl g)
    · exact .inr (.inr ⟨b, g.2⟩)
  by_cases hb : wri = true ∧ W b = true
  · exact .inl (.inl ⟨hb.1, b, hb.2, h1, h2⟩)
  · exact .inr ⟨hb, fun e hbW => ⟨b, hbW, h1, h2⟩, hro⟩

theorem Sim.wBlk_own (h : Sim w0 M S0 ρ φ S st a w) {W : Nat → Bool} (hW : ∀ b, W b = true → M.wr b) {i : Nat} (hi : wBlk W ρ φ st i) : M i ∨ w0.heap.size ≤ i := by
  obtain ⟨b, hb, h1, h2⟩ := hi
  exact (h.own b i h1 h2).resolve_right fun g => g.1 (hW b hb)

theorem Sim.back {ρ' : Nat → Option Loc} {φ' : Nat → Nat → Prop} {S' : Nat → Prop} {st' : St} {a' : Act} {w' : World} (h : Sim w0 M S0 ρ φ S st a w) {W : Nat → Bool} {wri : Bool} (hW : ∀ b, W b = true → M.wr b) (hro : ∀ b b' i, M.wr b → ¬ M.ro b' i) (hall : ∀ b, M.wr b) (h' : Sim w (Vcg.reb M w0 W wri ρ φ st) S ρ' φ' S' st' a' w') : Sim w0 M S0 ρ' φ' S' st' a' w' := by
  refine ⟨h'.size, h'.defers, h'.slot, h'.heap, h'.sb, fun i hi => h'.base i (h.base i hi), fun i hi => ?_, Nat.le_trans h.grow h'.grow, fun i hi hm => ?_, fun b x h1 h2 => ?_, h'.pin, h'.small, h.wide.1.trans h'.wide.1, fun x => Nat.le_trans (h.wide.2 x) (h'.wide.2 x)⟩
  · rcases h'.from_ i hi with g | g | g | ⟨b, _, g | g | g⟩
    · exact h.from_ i g
    · rcases h.wBlk_own hW g.2 with g | g
      · exact .inr (.inl g)
      · exact .inr (.inr (.inl g))
    · exact .inr (.inr (.inl (Nat.le_trans h.grow g)))
    · exact .inr (.inl g)
    · exact .inr (.inr (.inl g))
    · exact .inr (.inr (.inr g))
  · rw [h'.keep i (Nat.lt_of_lt_of_le hi h.grow) fun g => ?_]
    · exact h.keep i hi hm
    · rcases h.wBlk_own hW g.2 with g | g
      · exact hm g
      · omega
  · left
    rcases h'.own b x h1 h2 with (g | g) | ⟨_, _, g | g | ⟨b', g⟩⟩
    · exact h.wBlk_own hW g.2
    · exact .inr (Nat.le_trans h.grow g)
    · exact .inl g
    · exact .inr g
    · exact absurd g (hro b b' x (hall b))

/-! ## The walk of a drawn region -/

/-- The Cx of one operation of the region. -/
def RCx (P : Program) (W : Nat → Bool) (wri : Bool) (w0 : World) (may : Nat → Prop) (pin : Nat → Option Loc) (ro : Nat → Nat → Prop) (S0 : Nat → Prop) (pan : List PanicEntry → Prop) : Cx := ⟨P, w0, ⟨may, pin, fun b => wri = true ∧ W b = true, ro⟩, S0, pan⟩

/-- What operation j leaves as it is. -/
def kept (W : Nat → Bool) (ws : List Nat) (ρ : Nat → Option Loc) (φ : Nat → Nat → Prop) (st : St) (w : World) (j i : Nat) : Prop := i < w.heap.size ∧ (ws.contains j = true → ¬ wBlk W ρ φ st i)

/-- Whatever order is picked from here on; W: the names that the region may write; ws: the operations that may. -/
def RA (P : Program) (W : Nat → Bool) (ws : List Nat) (pan : List PanicEntry → Prop) (ops : Array Oper) (fuel : Nat) (listed : Array Bool) (st : St) (K : St → Prop) : Prop :=
  ∀ (w0 : World) (M : Perm) (S0 : Nat → Prop) (ρ : Nat → Option Loc) (φ : Nat → Nat → Prop) (S : Nat → Prop) (a : Act) (w : World) (Q : Exit → Act → World → Prop),
    Sim w0 M S0 ρ φ S st a w → (∀ b, M.wr b) → (∀ b i, ¬ M.ro b i) → (∀ a' w', Nx w0 M S0 K a' w' → Q .normal a' w') → (∀ ch a' w', pan ch → (∃ st', Holds w0 M S0 st' a' w') → Q (.panic ch) a' w') → (∀ c a' d v w', Q (.panic c) (a'.put d v) w' → Q (.panic c) a' w') →
    wpAnyF P .any ops Q (kept W ws ρ φ st w) fuel listed a w

variable {W : Nat → Bool} {ws : List Nat} {pan : List PanicEntry → Prop}

theorem RA.done {listed : Array Bool} (hr : Region.ready .any ops listed = []) (hK : K st) : ∀ fuel, RA P W ws pan ops fuel listed st K
  | 0 => fun _ _ _ ρ φ S a w Q h _ _ hQ _ _ => ⟨hr, hQ a w ⟨st, hK, ρ, φ, S, h⟩⟩
  | _ + 1 => fun _ _ _ ρ φ S a w Q h _ _ hQ _ _ => ⟨fun _ => hQ a w ⟨st, hK, ρ, φ, S, h⟩, by rw [hr]; simp⟩

/-- What operation i reads, when it is taken first: everything that those leave which may come before it. -/
def readG (W : Nat → Bool) (all : Bool) (ρ : Nat → Option Loc) (φ : Nat → Nat → Prop) (st : St) (w : World) (i : Nat) : Prop := i < w.heap.size ∧ (all = false → ¬ wBlk W ρ φ st i)
/-- None of those which may come before i writes. -/
def quiet (ops : Array Oper) (listed : Array Bool) (ws : List Nat) (i : Nat) : Bool := ws.all fun j => j == i || listed.getD j true || match ops[j]? with
  | some oj => oj.after.any fun e => Region.binds .any e && e.on == i
  | none => true

/-- An operation that yields the same whatever the others do is taken first. -/
theorem RA.first {fuel i d : Nat} {listed : Array Bool} {o : Oper} {sv : SV} (all : Bool) (hall : all = true → quiet ops listed ws i = true) (ho : ops[i]? = some o) (hs : Region.noSelect ops = true) (hf : Region.free .any ops listed i = true) (hr : (Region.ready .any ops listed).contains i = true) (hd : o.dst = some d) (hdn : d < st.n)
    (hy : ∀ (w0 : World) (M : Perm) (S0 : Nat → Prop) (ρ : Nat → Option Loc) (φ : Nat → Nat → Prop) (S : Nat → Prop) (a : Act) (w : World), Sim w0 M S0 ρ φ S st a w → ∃ v, YieldsIf P ops (Kp (readG W all ρ φ st w) w) o v a ∧ Rep ρ S w v sv)
    (h : RA P W ws pan ops fuel (listed.setIfInBounds i true) (st.set d sv) K) : RA P W ws pan ops (fuel + 1) listed st K := by
  intro w0 M S0 ρ φ S a w Q hsim hW hro hQ hp hp2
  obtain ⟨v, h1, h2⟩ := hy w0 M S0 ρ φ S a w hsim
  refine wpAnyF_first (Gi := readG W all ρ φ st w) ho (Region.noSelect_spec hs) (fun c a w hc => hp2 c a _ v w hc) (fun _ h => h) fuel listed a w (fun j oj hj hji hun hno => ⟨Region.free_spec ho hf j oj hj hji hun hno, fun x hx => ⟨hx.1, fun hjw => ?_⟩⟩) (by simpa using hr) h1 ?_
  · refine hx.2 ?_
    cases hal : all with
    | false => rfl
    | true =>
      have hq := hall hal
      unfold quiet at hq
      rw [List.all_eq_true] at hq
      have := hq j (by simpa using hjw)
      rw [hj] at this
      simp only [Bool.or_eq_true, beq_iff_eq, Array.any_eq_true, Bool.and_eq_true] at this
      rcases this with (g | g) | ⟨q, hq1, g1, g2⟩
      · exact absurd g hji
      · rw [hun] at g; cases g
      · exact absurd g2 (hno _ (Array.getElem_mem hq1) g1)
  · rw [hd]
    exact h w0 M S0 ρ φ S _ w Q (hsim.setSlot hdn h2) hW hro hQ hp hp2

/-! ### Loads: the block that an address names -/

def SV.safe (W : Nat → Bool) : SV → Bool
  | .pt b _ _ => !W b
  | .bp _ _ => true
  | _ => false

theorem Sim.not_wBlk (h : Sim w0 M S0 ρ φ S st a w) {b : Nat} {x : Nat} (hb : st.blk b ≠ none) (hx : owns ρ φ b x) (hn : W b = false) : ¬ wBlk W ρ φ st x := by
  rintro ⟨y, hy, h1, h2⟩
  have := h.heap.inj y b x h1 hb h2 hx
  subst this
  rw [hn] at hy; cases hy
theorem Sim.safe_at (h : Sim w0 M S0 ρ φ S st a w) {v : Value} {s : SV} (hr : Rep ρ S w v s) {q : Prop × List SV × Nat} (he : st.at s = some q) {all : Bool} (hs : all = false → s.safe W = true) {b o : Nat} (hv : v = .pointer (some ⟨b, o, none⟩)) : readG W all ρ φ st w b := by
  unfold St.at at he
  split at he
  · rename_i x i o'
    split at he <;> try (cases he; done)
    rename_i k rows hb
    cases hr with
    | per h => cases h
    | pt _ _ _ l hl =>
      have hb' : st.blk x ≠ none := by rw [hb]; simp
      simp only [Loc.addr, Value.pointer.injEq, Option.some.injEq, Addr.mk.injEq] at hv
      rw [← hv.1]
      exact ⟨h.heap.lt x _ hb' (.inl ⟨l, hl, rfl⟩), fun e => h.not_wBlk hb' (.inl ⟨l, hl, rfl⟩) (by have := hs e; simpa [SV.safe] using this)⟩
  · cases hr with
    | per h0 => cases h0 with
      | bp blk off _ _ f hS hm hrep =>
        simp only [Value.pointer.injEq, Option.some.injEq, Addr.mk.injEq] at hv
        rw [← hv.1]
        exact ⟨h.sb _ hS, fun _ ⟨x, hx, h1, h2⟩ => h.heap.notS x _ h1 h2 hS⟩
  · cases he

/-- What a pure operation yields, it yields in every world that keeps what is guarded. -/
theorem pev_kept (hT : TOk P T) (h : Sim w0 M S0 ρ φ S st a w) {all : Bool} {e : Operand → SV} (hev : ∀ x, Rep ρ S w (a.eval x) (e x)) {o : Oper} {sv : SV} {side : Prop} (he : pev T st e o.op = some (side, sv)) (hs : side)
    (hl : ∀ t x, o.op = .load t x → all = false → (e x).safe W = true) : ∃ u, (∀ w', Kp (readG W all ρ φ st w) w w' → (execOp a.eval o).run P w' = .ok (.value u) w') ∧ Rep ρ S w u sv := by
  cases hio : isLoad o.op with
  | false =>
    obtain ⟨u, h1, h2⟩ := pev_any (P := P) hT h hev he hs hio
    exact ⟨u, fun w' _ => h1 w', h2⟩
  | true =>
    unfold execOp
    generalize o.op = op at he hio hl
    cases op <;> try (cases hio; done)
    rename_i t x
    have hsafe := hl t x rfl
    have he' : pLoad T st t (e x) = some (side, sv) := he
    obtain ⟨b, ad, u, g1, g2, g3⟩ := pLoad_any (P := P) hT h (hev x) he' hs
    have hat : ∃ q, st.at (e x) = some q := by
      unfold pLoad at he'
      split at he' <;> try (cases he'; done)
      exact ⟨_, by assumption⟩
    obtain ⟨q, hq⟩ := hat
    have := h.safe_at (hev x) hq hsafe g1
    exact ⟨u, fun w' hk => by simp [g2 w' (hk.2 b this)], g3⟩

def nthO : List Oper → Nat → Option Oper
  | [], _ => none
  | o :: _, 0 => some o
  | _ :: l, n + 1 => nthO l n
theorem nthO_ok {l : List Oper} {i : Nat} {o : Oper} (h : nthO l i = some o) : l.toArray[i]? = some o := by
  rw [List.getElem?_toArray]
  induction l generalizing i with
  | nil => cases h
  | cons x l ih => cases i with
    | zero => exact h
    | succ i => exact ih h

section
variable {fuel i d : Nat} {listed : Array Bool} {o : Oper} {sv : SV} {side : Prop} {l : List Oper}

/-- a pure operation is taken first -/
theorem RA.p (all : Bool) (hall : all = true → quiet l.toArray listed ws i = true) (hT : TOk P T) (ho : nthO l i = some o) (hs : Region.noSelect l.toArray = true) (hf : Region.free .any l.toArray listed i = true) (hr : (Region.ready .any l.toArray listed).contains i = true) (hd : o.dst = some d) (hg : o.guard = none)
    (he : pev T st st.ev o.op = some (side, sv)) (hl : ∀ t x, o.op = .load t x → all = false → (st.ev x).safe W = true) (hdn : d < st.n) (hsd : side) (h : side → RA P W ws pan l.toArray fuel (listed.setIfInBounds i true) (st.set d sv) K) : RA P W ws pan l.toArray (fuel + 1) listed st K := by
  refine RA.first all hall (nthO_ok ho) hs hf hr hd hdn (fun w0 M S0 ρ φ S a w hsim => ?_) (h hsd)
  obtain ⟨u, h1, h2⟩ := pev_kept (P := P) (W := W) hT hsim (fun x => hsim.ev x) he hsd hl
  exact ⟨u, .inl ⟨by unfold Region.wanted; rw [hg], h1⟩, h2⟩

/-- a pure operation under a guard is taken first -/
theorem RA.g (all : Bool) (hall : all = true → quiet l.toArray listed ws i = true) (hT : TOk P T) {j x : Nat} {want c g : Bool} {oj : Oper} (ho : nthO l i = some o) (hs : Region.noSelect l.toArray = true) (hf : Region.free .any l.toArray listed i = true) (hr : (Region.ready .any l.toArray listed).contains i = true) (hd : o.dst = some d) (hg : o.guard = some (j, want))
    (hj : nthO l j = some oj) (hdj : oj.dst = some x) (hv : gVal (st.get x) = some (c, g)) (he : pev T st (fun y => (st.ev y).assume (gWant want c g)) o.op = some (side, sv)) (hl : ∀ t y, o.op = .load t y → all = false → ((st.ev y).assume (gWant want c g)).safe W = true) (hxn : x < st.n) (hdn : d < st.n)
    (hsd : gWant want c g = true → side) (h : (gWant want c g = true → side) → RA P W ws pan l.toArray fuel (listed.setIfInBounds i true) (st.set d (.cn (gWant want c g) sv)) K) : RA P W ws pan l.toArray (fuel + 1) listed st K := by
  refine RA.first all hall (nthO_ok ho) hs hf hr hd hdn (fun w0 M S0 ρ φ S a w hsim => ?_) (h hsd)
  have hw := wanted_of (C := ⟨P, w0, M, S0, pan⟩) (ops := l.toArray) (w := w) hsim hg (nthO_ok hj) hdj hxn hv
  cases e : gWant want c g with
  | true =>
    obtain ⟨u, h1, h2⟩ := pev_kept (P := P) (W := W) hT hsim (fun y => (hsim.ev y).assume e) he (hsd e) hl
    exact ⟨u, .inl ⟨hw.trans e, h1⟩, .cn _ _ _ (fun _ => h2) (fun e' => by cases e')⟩
  | false => exact ⟨undef, .inr ⟨hw.trans e, rfl⟩, .cn _ _ _ (fun e' => by cases e') (fun _ => rfl)⟩
end

/-- Every operation that may come up now. -/
def RAll (P : Program) (W : Nat → Bool) (ws : List Nat) (pan : List PanicEntry → Prop) (ops : Array Oper) (fuel : Nat) (listed : Array Bool) (st : St) (K : St → Prop) : List Nat → Prop
  | [] => True
  | i :: is => (∃ o, ops[i]? = some o ∧ ∀ w0 may pin ro S0, So (RCx P W (ws.contains i) w0 may pin ro S0 pan) ops o st fun st' => RA P W ws pan ops fuel (listed.setIfInBounds i true) st' K) ∧ RAll P W ws pan ops fuel listed st K is
theorem RAll.mem {fuel : Nat} {listed : Array Bool} : ∀ {is : List Nat}, RAll P W ws pan ops fuel listed st K is → ∀ i ∈ is, ∃ o, ops[i]? = some o ∧ ∀ w0 may pin ro S0, So (RCx P W (ws.contains i) w0 may pin ro S0 pan) ops o st fun st' => RA P W ws pan ops fuel (listed.setIfInBounds i true) st' K
  | _ :: _, h, i, hi => by
    rcases List.mem_cons.mp hi with rfl | hi
    · exact h.1
    · exact RAll.mem h.2 i hi

theorem RA.all {fuel : Nat} {listed : Array Bool} {is : List Nat} (hr : Region.ready .any ops listed = is) (hne : is ≠ []) (h : RAll P W ws pan ops fuel listed st K is) : RA P W ws pan ops (fuel + 1) listed st K := by
  intro w0 M S0 ρ φ S a w Q hsim hW hro hQ hp hp2
  refine ⟨fun h0 => absurd (hr ▸ h0) hne, fun i hi => ?_⟩
  rw [hr] at hi
  obtain ⟨o, ho, hso⟩ := h.mem i hi
  have hreb := hsim.reb W (ws.contains i)
  let M' := Vcg.reb M w0 W (ws.contains i) ρ φ st
  have hcont : ∀ a' w', NK (RCx P W (ws.contains i) w M'.may M.pin M'.ro S pan) (fun st' => RA P W ws pan ops fuel (listed.setIfInBounds i true) st' K) a' w' →
      Kp (kept W ws ρ φ st w i) w w' ∧ wpAnyF P .any ops Q (kept W ws ρ φ st w) fuel (listed.setIfInBounds i true) a' w' := by
    rintro a' w' ⟨st', hra, ρ', φ', S', h'⟩
    have h'' : Sim w M' S ρ' φ' S' st' a' w' := h'
    refine ⟨⟨h''.grow, fun x hx => h''.keep x hx.1 fun g => hx.2 g.1 g.2⟩, ?_⟩
    have := hra w0 M S0 ρ' φ' S' a' w' Q (hsim.back (fun b _ => hW b) (fun _ b' i _ => hro b' i) hW h'') hW hro hQ hp hp2
    refine wpAnyF_mono (fun j x hx => ⟨Nat.lt_of_lt_of_le hx.1 h''.grow, fun hj g => ?_⟩) _ _ _ _ this
    refine hx.2 hj ?_
    obtain ⟨b, hb, h1, h2⟩ := g
    rcases h''.own b x h1 h2 with (g | g) | ⟨g1, g2, _⟩
    · exact g.2
    · have := hx.1; omega
    · refine g2 ?_ hb
      cases e : ws.contains i with
      | false => rfl
      | true => exact absurd ⟨e, hb⟩ g1
  have hpq : PQ (RCx P W (ws.contains i) w M'.may M.pin M'.ro S pan) Q := fun ch a' w' ⟨st', h1, ρ', φ', S', h'⟩ => hp ch a' w' h1 ⟨st', ρ', φ', S', hsim.back (fun b _ => hW b) (fun _ b' i _ => hro b' i) hW h'⟩
  have hso' := hso w M'.may M.pin M'.ro S
  unfold So at hso'
  have := hso' Q a w _ hcont hpq ⟨ρ, φ, S, hreb⟩
  unfold wpOp
  rw [ho]
  dsimp only
  split
  · rename_i e
    rw [if_pos e] at this
    exact .inl this
  · rename_i e
    rw [if_neg e] at this
    exact this

/-- The region. -/
theorem W.draw {C : Cx} {Q : SQ} {ks : List Kont} {id : Nat} {l : List Oper} (W : Nat → Bool) (ws : List Nat) (hm : C.P.follows .mixedOrders = true) (hW : ∀ b, C.M.wr b) (hro : ∀ b i, ¬ C.M.ro b i)
    (h : RA C.P W ws C.pan l.toArray l.length (Array.replicate l.length false) st (Swn C Q ks)) : Swk C Q ks (.region id l.toArray true) st := by
  unfold Swk Swp
  intro a w ⟨ρ, φ, S, hs⟩
  refine wp_region_any hm ?_
  have := h C.w0 C.M C.S0 ρ φ S a _ (LQ C (kq C Q ks)) hs.drew hW hro (fun a' w' ⟨st', h1, h2⟩ => ⟨st', by unfold Swn at h1; exact h1, h2⟩) (fun ch a' w' h1 ⟨st', h2⟩ => ⟨st', h1, h2⟩) (fun c a' d v w' ⟨st', h1, ρ', φ', S', h2⟩ => ?_)
  · simpa using wpAny_of_F _ _ _ _ this
  · cases d with
    | none => exact ⟨st', h1, ρ', φ', S', h2⟩
    | some d =>
      refine ⟨st'.set d .dead, h1, ρ', φ', S', ⟨?_, h2.defers, fun t => ?_, h2.heap, h2.sb, h2.base, h2.from_, h2.grow, h2.keep, h2.own, h2.pin, h2.small, h2.wide⟩⟩
      · have := h2.size
        simpa [Act.put, St.set] using this
      · rw [St.get_set]
        split
        · exact .dead _
        · rename_i ht
          have := h2.slot t
          have e : (a'.put (some d) v).tmps.getD t undef = a'.tmps.getD t undef := by
            show (a'.tmps.setIfInBounds d v).getD t undef = _
            simp only [Array.getD_eq_getD_getElem?, Array.getElem?_setIfInBounds]
            rw [if_neg (fun e => ht e.symm)]
          rw [← e]; exact this

section
variable {fuel i : Nat} {listed : Array Bool} {l : List Oper} {side : Prop} {st' : St}
theorem RA.one {o : Oper} (ho : nthO l i = some o) (hr : Region.ready .any l.toArray listed = [i]) (h : ∀ w0 may pin ro S0, So (RCx P W (ws.contains i) w0 may pin ro S0 pan) l.toArray o st fun st' => RA P W ws pan l.toArray fuel (listed.setIfInBounds i true) st' K) : RA P W ws pan l.toArray (fuel + 1) listed st K :=
  RA.all hr (by simp) ⟨⟨o, nthO_ok ho, h⟩, trivial⟩

/-- An operation that makes memory or writes it, where no other may come up. -/
theorem RA.x1 (hT : TOk P T) {o : Oper} (ho : nthO l i = some o) (hr : Region.ready .any l.toArray listed = [i]) (hg : o.guard = none) (he : xop T (fun b => ws.contains i = true ∧ W b = true) st o.dst o.op = some (side, st')) (hs : side) (h : side → RA P W ws pan l.toArray fuel (listed.setIfInBounds i true) st' K) : RA P W ws pan l.toArray (fuel + 1) listed st K :=
  RA.one ho hr fun w0 may pin ro S0 => So.op hg (xop_ok (C := RCx P W (ws.contains i) w0 may pin ro S0 pan) hT he hs (h hs))

/-- The same, one of several. -/
theorem RX.x {is : List Nat} (hT : TOk P T) {o : Oper} (ho : nthO l i = some o) (hg : o.guard = none) (he : xop T (fun b => ws.contains i = true ∧ W b = true) st o.dst o.op = some (side, st')) (hs : side) (h : side → RA P W ws pan l.toArray fuel (listed.setIfInBounds i true) st' K) (hr : RAll P W ws pan l.toArray fuel listed st K is) : RAll P W ws pan l.toArray fuel listed st K (i :: is) :=
  ⟨⟨o, nthO_ok ho, fun w0 may pin ro S0 => So.op hg (xop_ok (C := RCx P W (ws.contains i) w0 may pin ro S0 pan) hT he hs (h hs))⟩, hr⟩
theorem RX.p {is : List Nat} {sv : SV} {d : Nat} (hT : TOk P T) {o : Oper} (ho : nthO l i = some o) (hg : o.guard = none) (hd : o.dst = some d) (he : pev T st st.ev o.op = some (side, sv)) (hs : side) (hdn : d < st.n) (h : side → RA P W ws pan l.toArray fuel (listed.setIfInBounds i true) (st.set d sv) K) (hr : RAll P W ws pan l.toArray fuel listed st K is) : RAll P W ws pan l.toArray fuel listed st K (i :: is) :=
  ⟨⟨o, nthO_ok ho, fun w0 may pin ro S0 => So.op hg (Sop.pure (C := RCx P W (ws.contains i) w0 may pin ro S0 pan) hT he hs (by rw [hd]; exact hdn) (by rw [hd]; exact h hs))⟩, hr⟩
theorem RX.of {is : List Nat} {o : Oper} (ho : nthO l i = some o) (h : ∀ w0 may pin ro S0, So (RCx P W (ws.contains i) w0 may pin ro S0 pan) l.toArray o st fun st' => RA P W ws pan l.toArray fuel (listed.setIfInBounds i true) st' K) (hr : RAll P W ws pan l.toArray fuel listed st K is) : RAll P W ws pan l.toArray fuel listed st K (i :: is) := ⟨⟨o, nthO_ok ho, h⟩, hr⟩
theorem RX.nil : RAll P W ws pan l.toArray fuel listed st K [] := trivial

/-- A call, where no other may come up. -/
theorem RA.c1 {ty : Nat} {d : Option Nat} {pos : String} {af : Array Edge} {c : Call} {f : Nat} (bs : Bs) {pins ps : Pins} {args : List SV} {sh : Bool} {r : SV} (hsp : TSpec P f pins args sh ps r) (hk : CallOk P f)
    (ho : nthO l i = some { dst := d, op := .call c, type := ty, pos := pos, after := af, guard := none }) (hr : Region.ready .any l.toArray listed = [i]) (hc : c.callee = .value (.func f)) (hbs : bsOk bs = true) (hw : ∀ q ∈ bs, ws.contains i = true ∧ W q.2 = true)
    (hp : pinsOf st.blk (toPin bs) bs = some pins) (ha : (c.args.toList.map st.ev).map (argSV (lentB st bs sh) (toPin bs)) = args) (hd : dOk st.n d) (hi : impOk r) (hb : bindR (backs st bs ps) d r = st')
    (h : RA P W ws pan l.toArray fuel (listed.setIfInBounds i true) st' K) : RA P W ws pan l.toArray (fuel + 1) listed st K :=
  RA.one ho hr fun w0 may pin ro S0 => So.op rfl (X.c (C := RCx P W (ws.contains i) w0 may pin ro S0 pan) bs hsp hk hc hbs hw hp ha hd hi hb h)
theorem RX.c {is : List Nat} {ty : Nat} {d : Option Nat} {pos : String} {af : Array Edge} {c : Call} {f : Nat} (bs : Bs) {pins ps : Pins} {args : List SV} {sh : Bool} {r : SV} (hsp : TSpec P f pins args sh ps r) (hk : CallOk P f)
    (ho : nthO l i = some { dst := d, op := .call c, type := ty, pos := pos, after := af, guard := none }) (hc : c.callee = .value (.func f)) (hbs : bsOk bs = true) (hw : ∀ q ∈ bs, ws.contains i = true ∧ W q.2 = true)
    (hp : pinsOf st.blk (toPin bs) bs = some pins) (ha : (c.args.toList.map st.ev).map (argSV (lentB st bs sh) (toPin bs)) = args) (hd : dOk st.n d) (hi : impOk r) (hb : bindR (backs st bs ps) d r = st')
    (h : RA P W ws pan l.toArray fuel (listed.setIfInBounds i true) st' K) (hr : RAll P W ws pan l.toArray fuel listed st K is) : RAll P W ws pan l.toArray fuel listed st K (i :: is) :=
  ⟨⟨_, nthO_ok ho, fun w0 may pin ro S0 => So.op rfl (X.c (C := RCx P W (ws.contains i) w0 may pin ro S0 pan) bs hsp hk hc hbs hw hp ha hd hi hb h)⟩, hr⟩
end

attribute [go_sem] SV.safe
attribute [irreducible] RA RAll

end Go.Vcg
