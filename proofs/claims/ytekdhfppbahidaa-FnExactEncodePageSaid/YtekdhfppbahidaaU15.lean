/- A call under a contract. -/
import Derived.Test.YtekdhfppbahidaaU14
namespace Go.Vcg

variable {w0 : World} {M : Perm} {S0 : Nat → Prop} {ρ : Nat → Option Loc} {φ : Nat → Nat → Prop} {S : Nat → Prop} {st : St} {a : Act} {w : World} {P : Program} {T : Nat → Option TI} {C : Cx} {K : St → Prop} {o : Oper}

/-- A function with a body of Go's. -/
def CallOk (P : Program) (f : Nat) : Prop := ∃ fn : Func, P.funcs[f]? = some fn ∧ fn.body.isSome = true ∧ (fn.name == "runtime.NumGoroutine") = false

theorem run_callFunc {f : Nat} (h : CallOk P f) (args : Array Value) (w : World) : (callFunc f args).run P w = .ok (.enter f args) w := by
  obtain ⟨fn, h1, h2, h3⟩ := h
  have h4 : fn.body ≠ none := fun hb => by rw [hb] at h2; cases h2
  have h5 : ¬ fn.name = "runtime.NumGoroutine" := by simpa using h3
  simp [callFunc, h1, h5, h4]

/-! ## Names and pins -/

abbrev Bs := List (Nat × Nat)
/-- The pin of a name. -/
def toPin (bs : Bs) (b : Nat) : Option Nat := (bs.map fun q => (q.2, q.1)).lookup b
/-- The name of a pin. -/
def unPin (bs : Bs) (p : Nat) : Option Nat := bs.lookup p
def bsOk (bs : Bs) : Bool := decide (bs.map (·.1)).Nodup && decide (bs.map (·.2)).Nodup && bs.all fun q => decide (isPin q.1)

theorem lookup_mem {α : Type} {l : List (Nat × α)} {x : Nat} {y : α} (h : l.lookup x = some y) : (x, y) ∈ l := by
  induction l with
  | nil => simp at h
  | cons p l ih =>
    obtain ⟨t, s⟩ := p
    rw [lookup_cons_if] at h
    split at h
    · rename_i e; obtain rfl := Option.some.inj h; subst e; simp
    · exact List.mem_cons_of_mem _ (ih h)
theorem lookup_of_mem {α : Type} {l : List (Nat × α)} (hn : (l.map (·.1)).Nodup) {x : Nat} {y : α} (h : (x, y) ∈ l) : l.lookup x = some y := by
  induction l with
  | nil => simp at h
  | cons p l ih =>
    obtain ⟨t, s⟩ := p
    simp only [List.map_cons, List.nodup_cons] at hn
    rw [lookup_cons_if]
    rcases List.mem_cons.mp h with e | e
    · simp only [Prod.mk.injEq] at e
      obtain ⟨rfl, rfl⟩ := e
      rw [if_pos rfl]
    · have hxt : x ≠ t := fun g => hn.1 (g ▸ List.mem_map_of_mem (f := (·.1)) e)
      rw [if_neg hxt]
      exact ih hn.2 e
theorem bsOk_iff {bs : Bs} (h : bsOk bs = true) : (∀ p b, unPin bs p = some b ↔ toPin bs b = some p) ∧ ∀ p b, unPin bs p = some b → isPin p := by
  simp only [bsOk, Bool.and_eq_true, decide_eq_true_eq, List.all_eq_true] at h
  obtain ⟨⟨h1, h2⟩, h3⟩ := h
  have hm : ∀ p b, (p, b) ∈ bs ↔ (b, p) ∈ bs.map (fun q => (q.2, q.1)) := fun p b => by
    rw [List.mem_map]
    constructor
    · intro h; exact ⟨(p, b), h, rfl⟩
    · rintro ⟨q, h, e⟩
      simp only [Prod.mk.injEq] at e
      obtain ⟨rfl, rfl⟩ := e
      exact h
  refine ⟨fun p b => ⟨fun h => ?_, fun h => ?_⟩, fun p b h => h3 _ (lookup_mem h)⟩
  · refine lookup_of_mem ?_ ((hm p b).mp (lookup_mem h))
    rw [List.map_map]
    exact h2
  · exact lookup_of_mem h1 ((hm p b).mpr (lookup_mem h))

/-- The blocks that are handed over, under their pins. -/
def pinsOf (B : Nat → Option Bk) (r : Nat → Option Nat) : Bs → Option Pins
  | [] => some []
  | (p, b) :: l => match B b, pinsOf B r l with
    | some k, some ps => some ((p, k.rn r) :: ps)
    | _, _ => none
theorem pinsOf_pk {B : Nat → Option Bk} {r : Nat → Option Nat} : ∀ {bs : Bs} {pins : Pins}, pinsOf B r bs = some pins → ∀ p, (∀ k, pk pins p = some k → ∃ b k', unPin bs p = some b ∧ B b = some k' ∧ k = k'.rn r) ∧ (∀ b, unPin bs p = some b → pk pins p ≠ none) := by
  intro bs
  induction bs with
  | nil =>
    intro pins h p
    obtain rfl := Option.some.inj h
    exact ⟨fun k hk => by simp [pk] at hk, fun b hb => by simp [unPin] at hb⟩
  | cons q bs ih =>
    intro pins h p
    obtain ⟨p0, b0⟩ := q
    rw [pinsOf] at h
    split at h <;> try (cases h; done)
    rename_i k0 ps h1 h2
    obtain rfl := Option.some.inj h
    obtain ⟨g1, g2⟩ := ih h2 p
    unfold pk unPin
    rw [lookup_cons_if, lookup_cons_if]
    by_cases e : p = p0
    · rw [if_pos e, if_pos e]
      exact ⟨fun k hk => ⟨b0, k0, rfl, h1, (Option.some.inj hk).symm⟩, fun _ _ => by simp⟩
    · rw [if_neg e, if_neg e]
      exact ⟨g1, g2⟩

/-- What may be read during the call. -/
def lentB (st : St) (bs : Bs) (sh : Bool) (b : Nat) : Option Bk := if sh || (toPin bs b).isSome then none else st.blk b

/-- Behind the call: what was used up is forgotten; what is left has been told. -/
def usedUp (ps : Pins) : Bs → St → St
  | [], st => st
  | (p, b) :: l, st => usedUp ps l (if (pk ps p).isNone then st.kill b else st)
def leftOver (ps : Pins) (u : Nat → Option Nat) : Bs → St → St
  | [], st => st
  | (p, b) :: l, st => leftOver ps u l (match pk ps p with
    | some k => st.setBlk b (k.rn u)
    | none => st)
def backName (bs : Bs) (ps : Pins) (p : Nat) : Option Nat := if (pk ps p).isSome then unPin bs p else none
def backs (st : St) (bs : Bs) (ps : Pins) : St := leftOver ps (backName bs ps) bs (usedUp ps bs st)

theorem usedUp_n (ps : Pins) (bs : Bs) (st : St) : (usedUp ps bs st).n = st.n := by
  induction bs generalizing st with
  | nil => rfl
  | cons q bs ih =>
    obtain ⟨p, b⟩ := q
    rw [usedUp, ih]
    split <;> rfl
theorem leftOver_n (ps : Pins) (u : Nat → Option Nat) (bs : Bs) (st : St) : (leftOver ps u bs st).n = st.n := by
  induction bs generalizing st with
  | nil => rfl
  | cons q bs ih =>
    obtain ⟨p, b⟩ := q
    rw [leftOver, ih]
    split <;> rfl
theorem leftOver_sl (ps : Pins) (u : Nat → Option Nat) (bs : Bs) (st : St) (t : Nat) : (leftOver ps u bs st).get t = st.get t := by
  induction bs generalizing st with
  | nil => rfl
  | cons q bs ih =>
    obtain ⟨p, b⟩ := q
    rw [leftOver, ih]
    split <;> rfl
theorem leftOver_blk (ps : Pins) (u : Nat → Option Nat) {bs : Bs} (hn : (bs.map (·.2)).Nodup) (st : St) (b : Nat) :
    (leftOver ps u bs st).blk b = match (toPin bs b).bind (pk ps) with
      | some k => some (k.rn u)
      | none => st.blk b := by
  induction bs generalizing st with
  | nil => rfl
  | cons q bs ih =>
    obtain ⟨p0, b0⟩ := q
    simp only [List.map_cons, List.nodup_cons] at hn
    rw [leftOver, ih hn.2]
    have ht : toPin ((p0, b0) :: bs) b = if b = b0 then some p0 else toPin bs b := by
      unfold toPin
      rw [List.map_cons, lookup_cons_if]
    rw [ht]
    by_cases e : b = b0
    · subst e
      have : toPin bs b = none := by
        cases e : toPin bs b with
        | none => rfl
        | some p =>
          have := lookup_mem e
          rw [List.mem_map] at this
          obtain ⟨q, h1, h2⟩ := this
          simp only [Prod.mk.injEq] at h2
          exact absurd (List.mem_map_of_mem (f := (·.2)) h1) (by rw [h2.1]; exact hn.1)
      rw [this, if_pos rfl]
      simp only [Option.bind_none, Option.bind_some]
      cases e2 : pk ps p0 with
      | none => rfl
      | some k => simp only [St.blk_setBlk, if_true]
    · rw [if_neg e]
      cases e2 : (toPin bs b).bind (pk ps) with
      | some k => rfl
      | none =>
        simp only
        cases pk ps p0 with
        | none => rfl
        | some k => simp only [St.blk_setBlk, if_neg e]

theorem Sim.usedUp (ps : Pins) (bs : Bs) : ∀ {st : St}, Sim w0 M S0 ρ φ S st a w → Sim w0 M S0 ρ φ S (usedUp ps bs st) a w ∧ (∀ b, (Go.Vcg.usedUp ps bs st).blk b ≠ none → st.blk b ≠ none ∧ ∀ p, (p, b) ∈ bs → pk ps p ≠ none) := by
  induction bs with
  | nil => intro st h; exact ⟨h, fun b hb => ⟨hb, fun p hp => by simp at hp⟩⟩
  | cons q bs ih =>
    intro st h
    obtain ⟨p, b⟩ := q
    rw [Go.Vcg.usedUp]
    by_cases e : (pk ps p).isNone = true
    · rw [if_pos e]
      obtain ⟨h1, h2⟩ := ih (h.kill b)
      refine ⟨h1, fun x hx => ?_⟩
      obtain ⟨g1, g2⟩ := h2 x hx
      obtain ⟨g3, g4⟩ := blk_kill_has g1
      refine ⟨g4, fun p' hp' => ?_⟩
      rcases List.mem_cons.mp hp' with e' | e'
      · simp only [Prod.mk.injEq] at e'; exact absurd e'.2 g3
      · exact g2 p' e'
    · rw [if_neg e]
      obtain ⟨h1, h2⟩ := ih h
      refine ⟨h1, fun x hx => ?_⟩
      obtain ⟨g1, g2⟩ := h2 x hx
      refine ⟨g1, fun p' hp' => ?_⟩
      rcases List.mem_cons.mp hp' with e' | e'
      · simp only [Prod.mk.injEq] at e'
        obtain ⟨rfl, rfl⟩ := e'
        intro g
        rw [g] at e
        exact e rfl
      · exact g2 p' e'

/-- A call under a contract. -/
theorem Sop.call {c : Call} {f : Nat} (bs : Bs) {pins : Pins} {args : List SV} {sh : Bool} {post : Pins → Out → Prop} (hsp : MSpec C.P f pins args sh post) (hk : CallOk C.P f) (ho : o.op = .call c) (hc : c.callee = .value (.func f))
    (hbs : bsOk bs = true) (hw : ∀ q ∈ bs, C.M.wr q.2) (hp : pinsOf st.blk (toPin bs) bs = some pins) (ha : (c.args.toList.map st.ev).map (argSV (lentB st bs sh) (toPin bs)) = args) (hd : dOk st.n o.dst)
    (hK : ∀ ps o', post ps o' → match o' with
      | .ret s => impOk s ∧ K (bindR (backs st bs ps) o.dst s)
      | .pan ch => C.pan ch) : Sop C o st K := by
  unfold Sop
  intro Q a w hPQ ⟨ρ, φ, S, h⟩
  obtain ⟨hup, hpin⟩ := bsOk_iff hbs
  have hnd : (bs.map (·.2)).Nodup := by
    simp only [bsOk, Bool.and_eq_true, decide_eq_true_eq] at hbs
    exact hbs.1.2
  -- what the callee sees
  let ρc : Nat → Option Loc := fun p => (unPin bs p).bind ρ
  let φc : Nat → Nat → Prop := fun p x => ∃ b, unPin bs p = some b ∧ φ b x
  let Sc : Nat → Prop := fun x => S x ∨ ∃ b, lentB st bs sh b ≠ none ∧ owns ρ φ b x
  have hlb : ∀ b, lentB st bs sh b ≠ none → sh = false ∧ toPin bs b = none ∧ st.blk b ≠ none := fun b hb => by
    unfold lentB at hb
    split at hb
    · exact absurd rfl hb
    · rename_i e
      simp only [Bool.or_eq_true, not_or, Bool.not_eq_true, Option.isSome_eq_false_iff, Option.isNone_iff_eq_none] at e
      exact ⟨e.1, e.2, hb⟩
  have hSS : ∀ i, S i → Sc i := fun i hi => .inl hi
  have hSlt : ∀ i, Sc i → i < w.heap.size := fun i hi => hi.elim (h.sb i) fun ⟨b, hb, hx⟩ => h.heap.lt b i (hlb b hb).2.2 hx
  have hpb : ∀ p, pk pins p ≠ none → ∃ b, unPin bs p = some b ∧ st.blk b ≠ none := fun p hp' => by
    obtain ⟨k, hk'⟩ := Option.ne_none_iff_exists'.mp hp'
    obtain ⟨b, k', h1, h2, _⟩ := (pinsOf_pk hp p).1 k hk'
    exact ⟨b, h1, by rw [h2]; simp⟩
  have hρc : ∀ {p b : Nat}, unPin bs p = some b → ρc p = ρ b := fun {p b} e => by show (unPin bs p).bind ρ = ρ b; rw [e]; rfl
  have hoc : ∀ {p b : Nat}, unPin bs p = some b → ∀ x, owns ρc φc p x → owns ρ φ b x := fun {p b} e x hx => by
    rcases hx with ⟨l, e1, e2⟩ | ⟨b', e1, e2⟩
    · exact .inl ⟨l, (hρc e) ▸ e1, e2⟩
    · rw [e] at e1; obtain rfl := Option.some.inj e1; exact .inr e2
  have hoc' : ∀ {p b : Nat}, unPin bs p = some b → ∀ x, owns ρ φ b x → owns ρc φc p x := fun {p b} e x hx => by
    rcases hx with ⟨l, e1, e2⟩ | hx
    · exact .inl ⟨l, (hρc e).trans e1, e2⟩
    · exact .inr ⟨b, e, hx⟩
  have hrn : ∀ b b', toPin bs b = some b' → ρc b' = ρ b := fun b b' e => hρc ((hup b' b).mpr e)
  have hheap : HOk ρc φc Sc w (pk pins) := by
    refine ⟨fun p k hk' => ?_, fun p p' x h1 h2 e1 e2 => ?_, fun p l h1 e1 e2 => ?_, fun p x h1 e1 e2 => ?_, fun p x h1 e1 => ?_⟩
    · obtain ⟨b, k', h1, h2, rfl⟩ := (pinsOf_pk hp p).1 k hk'
      have := (h.heap.blk b k' h2).rn (ρ' := ρc) (S' := Sc) (b' := p) hrn hSS h.sb (hρc h1)
      have hφ : φc p = φ b := by
        funext x
        apply propext
        constructor
        · rintro ⟨b', e1, e2⟩; rw [h1] at e1; obtain rfl := Option.some.inj e1; exact e2
        · intro hx; exact ⟨b, h1, hx⟩
      rw [hφ]; exact this
    · obtain ⟨b, f1, f2⟩ := hpb p h1
      obtain ⟨b', f3, f4⟩ := hpb p' h2
      have := h.heap.inj b b' x f2 f4 (hoc f1 x e1) (hoc f3 x e2)
      subst this
      have q1 := (hup p b).mp f1
      have q2 := (hup p' b).mp f3
      rw [q1] at q2
      exact Option.some.inj q2
    · obtain ⟨b, f1, f2⟩ := hpb p h1
      obtain ⟨b', g1, g2⟩ := e2
      rw [f1] at g1; obtain rfl := Option.some.inj g1
      exact h.heap.self b l f2 ((hρc f1) ▸ e1) g2
    · obtain ⟨b, f1, f2⟩ := hpb p h1
      rcases e2 with e2 | ⟨b', g1, g2⟩
      · exact h.heap.notS b x f2 (hoc f1 x e1) e2
      · obtain ⟨_, g3, g4⟩ := hlb b' g1
        have := h.heap.inj b b' x f2 g4 (hoc f1 x e1) g2
        subst this
        rw [(hup p b).mp f1] at g3; cases g3
    · obtain ⟨b, f1, f2⟩ := hpb p h1
      exact h.heap.lt b x f2 (hoc f1 x e1)
  have hlentH : HOk ρ φ S w (lentB st bs sh) := by
    refine ⟨fun b k hk' => ?_, fun b b' x h1 h2 => h.heap.inj b b' x (hlb b h1).2.2 (hlb b' h2).2.2, fun b l h1 => h.heap.self b l (hlb b h1).2.2, fun b x h1 => h.heap.notS b x (hlb b h1).2.2, fun b x h1 => h.heap.lt b x (hlb b h1).2.2⟩
    have : st.blk b = some k := by
      unfold lentB at hk'
      split at hk'
      · cases hk'
      · exact hk'
    exact h.heap.blk b k this
  have hlen : (c.args.toList.map a.eval).length = args.length := by rw [← ha]; simp
  have hargs : ∀ (i : Nat) (v : Value) (s : SV), (c.args.toList.map a.eval)[i]? = some v → args[i]? = some s → Rep ρc Sc w v s := fun i v s h1 h2 => by
    rw [← ha, List.getElem?_map, Option.map_eq_some_iff] at h2
    obtain ⟨s', h2, rfl⟩ := h2
    rw [List.getElem?_map, Option.map_eq_some_iff] at h1 h2
    obtain ⟨x, h1, rfl⟩ := h1
    obtain ⟨y, h2, rfl⟩ := h2
    rw [h1] at h2
    obtain rfl := Option.some.inj h2
    exact argSV_ok hlentH hSS (fun b x hb hx => .inr ⟨b, hb, hx⟩) hrn (h.ev x)
  have hcall := hsp w Sc ρc φc (c.args.toList.map a.eval) hSlt hheap (fun p hp' => by obtain ⟨b, h1, _⟩ := hpb p hp'; exact hpin p b h1) hlen hargs
  unfold Oper.wp execOp
  have hrun : (do let d ← resolve a.eval c o.type; invoke d.target d.args : Sem Next).run C.P w = .ok (.enter f (c.args.toList.map a.eval).toArray) w := by
    have : c.args.map a.eval = (c.args.toList.map a.eval).toArray := by
      apply Array.ext'
      simp
    rw [← this]
    simp [resolve, hc, Act.eval, Deferred.ofValue, invoke, run_callFunc hk]
  rw [ho]
  show Oper.upon C.P o a _ Q ((do let d ← resolve a.eval c o.type; invoke d.target d.args : Sem Next).run C.P w)
  rw [hrun, Oper.upon_enter]
  refine hcall.mono fun e w' he => ?_
  obtain ⟨o', ps, ρ', φ', S', hpost, hM⟩ := he
  have hKo := hK ps o' hpost
  -- what is there behind the call
  obtain ⟨h1, h1b⟩ := h.usedUp ps bs
  have hOwn : ∀ x, ownsAny ρc φc (pk pins) x → ∃ b p, unPin bs p = some b ∧ st.blk b ≠ none ∧ owns ρ φ b x := fun x ⟨p, hp1, hx⟩ => by
    obtain ⟨b, f1, f2⟩ := hpb p hp1
    exact ⟨b, p, f1, f2, hoc f1 x hx⟩
  have hwr : ∀ {b p : Nat}, unPin bs p = some b → C.M.wr b := fun {b p} e => hw (p, b) (lookup_mem e)
  have hold : ∀ i, i < w.heap.size → (∀ b p, unPin bs p = some b → st.blk b ≠ none → ¬ owns ρ φ b i) → w'.heap[i]? = w.heap[i]? := fun i hi hn => hM.keep i hi fun g => by
    obtain ⟨b, p, f1, f2, f3⟩ := hOwn i g
    exact hn b p f1 f2 f3
  have hS' : ∀ i, S i → w'.heap[i]? = w.heap[i]? := fun i hi => hold i (h.sb i hi) fun b p _ f2 f3 => h.heap.notS b i f2 f3 hi
  have hzz := hM.wide.2
  let S2 : Nat → Prop := fun i => S i ∨ S' i
  have hperm : ∀ i, S' i → S i ∨ w.heap.size ≤ i ∨ ∃ b p, unPin bs p = some b ∧ st.blk b ≠ none ∧ owns ρ φ b i := fun i hi => by
    rcases hM.perm i hi with ⟨e1, g⟩ | g | g
    · rcases g with g | ⟨b, hb, _⟩
      · exact .inl g
      · have := (hlb b hb).1; rw [e1] at this; cases this
    · exact .inr (.inl g)
    · exact .inr (.inr (hOwn i g))
  have hblk : ∀ b, (backs st bs ps).blk b = match (toPin bs b).bind (pk ps) with
      | some k => some (k.rn (backName bs ps))
      | none => (usedUp ps bs st).blk b := fun b => leftOver_blk ps _ hnd _ b
  -- the name's blocks
  have hcase : ∀ b, (backs st bs ps).blk b ≠ none → (∃ p k, toPin bs b = some p ∧ unPin bs p = some b ∧ pk ps p = some k ∧ (backs st bs ps).blk b = some (k.rn (backName bs ps)) ∧ st.blk b ≠ none) ∨ (toPin bs b = none ∧ (usedUp ps bs st).blk b ≠ none ∧ (backs st bs ps).blk b = (usedUp ps bs st).blk b ∧ st.blk b ≠ none) := fun b hb => by
    rw [hblk b] at hb
    cases e : toPin bs b with
    | none =>
      rw [e] at hb
      exact .inr ⟨rfl, hb, by rw [hblk b, e]; rfl, (h1b b hb).1⟩
    | some p =>
      rw [e] at hb
      have hun := (hup p b).mpr e
      simp only [Option.bind_some] at hb
      cases e2 : pk ps p with
      | none =>
        rw [e2] at hb
        exact absurd e2 ((h1b b hb).2 p (lookup_mem hun))
      | some k =>
        refine .inl ⟨p, k, rfl, hun, e2, by rw [hblk b, e]; simp only [Option.bind_some, e2], ?_⟩
        obtain ⟨b', f1, f2⟩ := hpb p (hM.same p (by rw [e2]; simp)).1
        rw [hun] at f1; obtain rfl := Option.some.inj f1
        exact f2
  let φ2 : Nat → Nat → Prop := fun b x => match toPin bs b with
    | some p => φ' p x
    | none => φ b x
  have ho2a : ∀ {b p k}, toPin bs b = some p → unPin bs p = some b → pk ps p = some k → ∀ x, owns ρ φ2 b x → owns ρ' φ' p x := fun {b p k} e1 e2 e3 x hx => by
    rcases hx with ⟨l, g1, g2⟩ | hx
    · exact .inl ⟨l, ((hM.same p (by rw [e3]; simp)).2.trans (hρc e2)).trans g1, g2⟩
    · simp only [φ2, e1] at hx; exact .inr hx
  have ho2b : ∀ {b}, toPin bs b = none → ∀ x, owns ρ φ2 b x → owns ρ φ b x := fun {b} e1 x hx => by
    rcases hx with hx | hx
    · exact .inl hx
    · simp only [φ2, e1] at hx; exact .inr hx
  have hpart : ∀ {p k x}, pk ps p = some k → owns ρ' φ' p x → (∃ b p', unPin bs p' = some b ∧ st.blk b ≠ none ∧ owns ρ φ b x) ∨ w.heap.size ≤ x := fun {p k x} e1 hx =>
    (hM.part x ⟨p, by rw [e1]; simp, hx⟩).imp (hOwn x) id
  have hnoOther : ∀ {b x}, toPin bs b = none → st.blk b ≠ none → owns ρ φ b x → ∀ b' p', unPin bs p' = some b' → st.blk b' ≠ none → ¬ owns ρ φ b' x := fun {b x} e1 e2 e3 b' p' f1 f2 f3 => by
    have := h.heap.inj b b' x e2 f2 e3 f3
    subst this
    rw [(hup p' b).mp f1] at e1; cases e1
  have h2 : Sim C.w0 C.M C.S0 ρ φ2 S2 (backs st bs ps) a w' := by
    refine ⟨h1.size.trans (leftOver_n ps _ bs _).symm, h1.defers, fun t => ?_, ⟨fun b k hb => ?_, fun b b' x q1 q2 e1 e2 => ?_, fun b l q1 e1 e2 => ?_, fun b x q1 e1 e2 => ?_, fun b x q1 e1 => ?_⟩, fun i hi => ?_, fun i hi => .inl (h.base i hi), fun i hi => ?_, Nat.le_trans h.grow hM.grow, fun i hi hm => ?_, fun b x q1 e1 => ?_, fun b q1 q2 => ?_, ?_, h.wide.1.trans hM.wide.1, fun x => Nat.le_trans (h.wide.2 x) (hzz x)⟩
    · rw [show (backs st bs ps).get t = (usedUp ps bs st).get t from leftOver_sl ps _ bs _ t]
      exact (h1.slot t).mono (fun _ hi => .inl hi) hS' (fun _ _ => rfl) hzz
    · rcases hcase b (by rw [hb]; simp) with ⟨p, k', e1, e2, e3, e4, e5⟩ | ⟨e1, e2, e3, e4⟩
      · rw [hb] at e4
        obtain rfl := Option.some.inj e4
        have := (hM.heap.blk p k' e3).rn (ρ' := ρ) (S' := S2) (b' := b) (r := backName bs ps) (fun p' b' g => by
          unfold backName at g
          split at g
          · rename_i hs
            have hne : pk ps p' ≠ none := fun e => by rw [e] at hs; cases hs
            exact ((hM.same p' hne).2.trans (hρc g)).symm
          · cases g) (fun i hi => .inr hi) hM.slt (((hM.same p (by rw [e3]; simp)).2.trans (hρc e2)).symm)
        have hφ : φ2 b = φ' p := by funext x; simp only [φ2, e1]
        rw [hφ]; exact this
      · rw [hb] at e3
        have hφ : φ2 b = φ b := by funext x; simp only [φ2, e1]
        rw [hφ]
        refine (h1.heap.blk b k e3.symm).mono rfl (fun _ hi => .inl hi) hM.grow (fun l hl => hold _ (h.heap.lt b _ e4 (.inl ⟨l, hl, rfl⟩)) (hnoOther e1 e4 (.inl ⟨l, hl, rfl⟩))) (fun i hi hlt => ?_) h.sb (fun _ _ => rfl) hzz (fun _ h => h)
        rcases hi with hi | hi
        · exact hS' i hi
        · exact hold i hlt (hnoOther e1 e4 (.inr hi))
    · rcases hcase b q1 with ⟨p, k, f1, f2, f3, f4, f5⟩ | ⟨f1, f2, f3, f4⟩ <;> rcases hcase b' q2 with ⟨p', k', g1, g2, g3, g4, g5⟩ | ⟨g1, g2, g3, g4⟩
      · have := hM.heap.inj p p' x (by rw [f3]; simp) (by rw [g3]; simp) (ho2a f1 f2 f3 x e1) (ho2a g1 g2 g3 x e2)
        subst this
        rw [f2] at g2; exact Option.some.inj g2
      · have hx := ho2b g1 x e2
        rcases hpart f3 (ho2a f1 f2 f3 x e1) with ⟨b0, p0, u1, u2, u3⟩ | u
        · exact absurd u3 (hnoOther g1 g4 hx b0 p0 u1 u2)
        · have := h.heap.lt b' x g4 hx; omega
      · have hx := ho2b f1 x e1
        rcases hpart g3 (ho2a g1 g2 g3 x e2) with ⟨b0, p0, u1, u2, u3⟩ | u
        · exact absurd u3 (hnoOther f1 f4 hx b0 p0 u1 u2)
        · have := h.heap.lt b x f4 hx; omega
      · exact h.heap.inj b b' x f4 g4 (ho2b f1 x e1) (ho2b g1 x e2)
    · rcases hcase b q1 with ⟨p, k, f1, f2, f3, f4, f5⟩ | ⟨f1, f2, f3, f4⟩
      · simp only [φ2, f1] at e2
        exact hM.heap.self p l (by rw [f3]; simp) (((hM.same p (by rw [f3]; simp)).2.trans (hρc f2)).trans e1) e2
      · simp only [φ2, f1] at e2
        exact h.heap.self b l f4 e1 e2
    · rcases hcase b q1 with ⟨p, k, f1, f2, f3, f4, f5⟩ | ⟨f1, f2, f3, f4⟩
      · have hx := ho2a f1 f2 f3 x e1
        rcases e2 with e2 | e2
        · rcases hpart f3 hx with ⟨b0, p0, u1, u2, u3⟩ | u
          · exact h.heap.notS b0 x u2 u3 e2
          · have := h.sb x e2; omega
        · exact hM.heap.notS p x (by rw [f3]; simp) hx e2
      · have hx := ho2b f1 x e1
        rcases e2 with e2 | e2
        · exact h.heap.notS b x f4 hx e2
        · rcases hperm x e2 with g | g | ⟨b0, p0, u1, u2, u3⟩
          · exact h.heap.notS b x f4 hx g
          · have := h.heap.lt b x f4 hx; omega
          · exact hnoOther f1 f4 hx b0 p0 u1 u2 u3
    · rcases hcase b q1 with ⟨p, k, f1, f2, f3, f4, f5⟩ | ⟨f1, f2, f3, f4⟩
      · exact hM.heap.lt p x (by rw [f3]; simp) (ho2a f1 f2 f3 x e1)
      · exact Nat.lt_of_lt_of_le (h.heap.lt b x f4 (ho2b f1 x e1)) hM.grow
    · rcases hi with hi | hi
      · exact Nat.lt_of_lt_of_le (h.sb i hi) hM.grow
      · exact hM.slt i hi
    · rcases hi with hi | hi
      · exact h.from_ i hi
      · rcases hperm i hi with g | g | ⟨b0, p0, u1, u2, u3⟩
        · exact h.from_ i g
        · exact .inr (.inr (.inl (Nat.le_trans h.grow g)))
        · rcases h.own b0 i u2 u3 with (g | g) | g
          · exact .inr (.inl g)
          · exact .inr (.inr (.inl g))
          · exact absurd (hwr u1) g.1
    · rw [hold i (Nat.lt_of_lt_of_le hi h.grow) fun b0 p0 u1 u2 u3 => ?_]
      · exact h.keep i hi hm
      · rcases h.own b0 i u2 u3 with (g | g) | g
        · exact hm g
        · omega
        · exact g.1 (hwr u1)
    · rcases hcase b q1 with ⟨p, k, f1, f2, f3, f4, f5⟩ | ⟨f1, f2, f3, f4⟩
      · rcases hpart f3 (ho2a f1 f2 f3 x e1) with ⟨b0, p0, u1, u2, u3⟩ | u
        · rcases h.own b0 x u2 u3 with g | g
          · exact .inl g
          · exact absurd (hwr u1) g.1
        · exact .inl (.inr (Nat.le_trans h.grow u))
      · exact h.own b x f4 (ho2b f1 x e1)
    · rcases hcase b q2 with ⟨p, k, f1, f2, f3, f4, f5⟩ | ⟨f1, f2, f3, f4⟩
      · exact h.pin b q1 f5
      · exact h.pin b q1 f4
    · rw [show (backs st bs ps).n = st.n from (leftOver_n ps _ bs _).trans (usedUp_n ps bs st)]; exact h.small
  have hn2 : (backs st bs ps).n = st.n := (leftOver_n ps _ bs _).trans (usedUp_n ps bs st)
  have hout := hM.out
  cases o' with
  | pan ch =>
    simp only at hout hKo
    subst hout
    exact hPQ ch a w' ⟨_, hKo, ρ, φ2, S2, h2⟩
  | ret s =>
    simp only at hout hKo
    obtain ⟨v, rfl, F, hF1, hF2⟩ := hout
    refine ⟨_, hKo.2, h2.bind (by rw [hn2]; exact hd) (hF1.mono (fun i hi => .inr hi) (Nat.le_refl _) (fun _ _ _ => rfl) hM.slt) (fun x hx => ?_) hKo.1⟩
    obtain ⟨g1, g2, g3, g4⟩ := hF2 x hx
    refine ⟨fun g => ?_, g2, ?_, fun ⟨b, hb, hxb⟩ => ?_⟩
    · rcases g with g | g
      · rcases g1 with g1 | g1
        · obtain ⟨b0, p0, u1, u2, u3⟩ := hOwn x g1
          exact h.heap.notS b0 x u2 u3 g
        · have := h.sb x g; omega
      · exact g3 g
    · rcases g1 with g1 | g1
      · obtain ⟨b0, p0, u1, u2, u3⟩ := hOwn x g1
        exact (h.own b0 x u2 u3).resolve_right fun g => g.1 (hwr u1)
      · exact .inr (Nat.le_trans h.grow g1)
    · rcases hcase b hb with ⟨p, k, f1, f2, f3, f4, f5⟩ | ⟨f1, f2, f3, f4⟩
      · exact g4 ⟨p, by rw [f3]; simp, ho2a f1 f2 f3 x hxb⟩
      · have hx' := ho2b f1 x hxb
        rcases g1 with g1 | g1
        · obtain ⟨b0, p0, u1, u2, u3⟩ := hOwn x g1
          exact hnoOther f1 f4 hx' b0 p0 u1 u2 u3
        · have := h.heap.lt b x f4 hx'; omega

end Go.Vcg
