/- Programs: what is shown of a piece of code, from a state on. -/
import Derived.Test.YtekdhfppbahidaaU11
import Derived.Deep.LoopGhost
namespace Go.Vcg

/-- What stands still while a function is walked. -/
structure Cx where
  P : Program
  w0 : World
  M : Perm
  S0 : Nat → Prop
  pan : List PanicEntry → Prop := fun _ => False

abbrev SQ := Exit → St → Prop

/-- The state holds. -/
def Hd (C : Cx) (st : St) (a : Act) (w : World) : Prop := Holds C.w0 C.M C.S0 st a w

def NK (C : Cx) (K : St → Prop) (a : Act) (w : World) : Prop := ∃ st, K st ∧ Hd C st a w

/-- What is asked of states, asked of frames and worlds; what a panic must leave stands in C. -/
def LQ (C : Cx) (Q : SQ) : Exit → Act → World → Prop
  | .outgrown, _, _ => False
  | .panic ch, a, w => NK C (fun _ => C.pan ch) a w
  | e, a, w => ∃ st, Q e st ∧ Hd C st a w

/-- Where a panic goes. -/
def PQ (C : Cx) (Q : Exit → Act → World → Prop) : Prop := ∀ ch a w, NK C (fun _ => C.pan ch) a w → Q (.panic ch) a w
theorem LQ.pq (C : Cx) (Q : SQ) : PQ C (LQ C Q) := fun _ _ _ h => h

def Swp (C : Cx) (c : Code) (st : St) (Q : SQ) : Prop := ∀ a w, Hd C st a w → c.wp C.P (LQ C Q) a w

/-- A row of operations, one behind the other. -/
def Sl (C : Cx) (ops : Array Oper) (l : List Oper) (st : St) (K : St → Prop) : Prop := ∀ (Q : Exit → Act → World → Prop) (a : Act) (w : World), (∀ a w, NK C K a w → Q .normal a w) → PQ C Q → Hd C st a w → wpList C.P ops Q l a w

/-- One operation that is carried out. -/
def Sop (C : Cx) (o : Oper) (st : St) (K : St → Prop) : Prop := ∀ (Q : Exit → Act → World → Prop) (a : Act) (w : World), PQ C Q → Hd C st a w → o.wp C.P a w (NK C K) Q

/-- One operation, if it is wanted. -/
def So (C : Cx) (ops : Array Oper) (o : Oper) (st : St) (K : St → Prop) : Prop := ∀ (Q : Exit → Act → World → Prop) (a : Act) (w : World) (N : Act → World → Prop), (∀ a w, NK C K a w → N a w) → PQ C Q → Hd C st a w →
  if Region.wanted o (yielded ops a.tmps) then o.wp C.P a w N Q else N (a.put o.dst undef) w

/-- One state says no more than another. -/
def Weak (C : Cx) (st st' : St) : Prop := ∀ a w, Hd C st a w → Hd C st' a w

variable {C : Cx} {st : St} {Q : SQ} {K : St → Prop} {ops : Array Oper} {o : Oper} {l : List Oper}

theorem wpm {P : Program} {c : Code} {Q Q' : Exit → Act → World → Prop} {a : Act} {w : World} (h : c.wp P Q a w) (hq : ∀ e a w, Q e a w → Q' e a w) : c.wp P Q' a w := Code.wp_mono hq h

theorem Weak.refl (C : Cx) (st : St) : Weak C st st := fun _ _ h => h
theorem Weak.trans {st1 st2 st3 : St} (h1 : Weak C st1 st2) (h2 : Weak C st2 st3) : Weak C st1 st3 := fun a w h => h2 a w (h1 a w h)
theorem Weak.virt (C : Cx) (st : St) (t d k : Nat) : Weak C st (st.virt t d k) := fun _ _ ⟨_, _, S, h⟩ => let ⟨ρ', φ', h'⟩ := h.virt t d k; ⟨ρ', φ', S, h'⟩
theorem Weak.virtAt (C : Cx) (st : St) (b i j d k : Nat) : Weak C st (st.virtAt b i j d k) := fun _ _ ⟨_, _, S, h⟩ => let ⟨ρ', φ', h'⟩ := h.virtAt b i j d k; ⟨ρ', φ', S, h'⟩
theorem Weak.frz (C : Cx) (st : St) (b : Nat) : Weak C st (st.frz b) := fun _ _ ⟨ρ, φ, _, h⟩ => let ⟨S', _, h'⟩ := h.frz b; ⟨ρ, φ, S', h'⟩
theorem Weak.kill (C : Cx) (st : St) (d : Nat) : Weak C st (st.kill d) := fun _ _ ⟨ρ, φ, S, h⟩ => ⟨ρ, φ, S, h.kill d⟩
theorem Weak.ren (C : Cx) (hw : ∀ b, C.M.wr b) (st : St) (d d' : Nat) : Weak C st (st.ren d d') := fun _ _ ⟨_, _, S, h⟩ => let ⟨ρ', φ', h'⟩ := h.ren d d' (hw d); ⟨ρ', φ', S, h'⟩
theorem Weak.foldAt (C : Cx) (hw : ∀ b, C.M.wr b) {st st' : St} {b i j : Nat} {p : Prop} (he : st.foldAt b i j = some (p, st')) (hp : p) : Weak C st st' := fun _ _ ⟨ρ, _, S, h⟩ => let ⟨φ', h'⟩ := h.foldAt he hp hw; ⟨ρ, φ', S, h'⟩
theorem Weak.unfoldAt (C : Cx) (hw : ∀ b, C.M.wr b) {st st' : St} {b i j n : Nat} {p : Prop} (he : st.unfoldAt b i j n = some (p, st')) (hp : p) : Weak C st st' := fun _ _ ⟨_, _, S, h⟩ => let ⟨ρ', φ', h'⟩ := h.unfoldAt he hp hw; ⟨ρ', φ', S, h'⟩
theorem Weak.congr (C : Cx) {st st' : St} (hn : st'.n = st.n) (hg : ∀ t, st'.get t = st.get t) (hb : ∀ b, st'.blk b = st.blk b) : Weak C st st' := fun _ _ ⟨ρ, φ, S, h⟩ => ⟨ρ, φ, S, h.congr hn hg hb⟩
theorem Weak.to {C : Cx} {st : St} {n : Nat} {sl : List (Nat × SV)} {bl : List (Nat × Bk)} (hn : st.n = n) (h1 : slOk st sl) (h3 : blOk st bl) : Weak C st ⟨n, sl, bl⟩ := fun _ _ ⟨ρ, φ, S, h⟩ => ⟨ρ, φ, S, h.to hn h1 h3⟩

theorem NK.mono {K' : St → Prop} (h : ∀ st, K st → K' st) {a : Act} {w : World} (hk : NK C K a w) : NK C K' a w := let ⟨st, h1, h2⟩ := hk; ⟨st, h st h1, h2⟩
theorem LQ.mono {Q' : SQ} (h : ∀ e st, Q e st → Q' e st) (e : Exit) (a : Act) (w : World) (hq : LQ C Q e a w) : LQ C Q' e a w := by
  cases e with
  | outgrown => exact hq
  | panic _ => exact hq
  | _ => obtain ⟨st, h1, h2⟩ := hq; exact ⟨st, h _ st h1, h2⟩

/-! ## Code -/

def SQ.then (K : St → Prop) (Q : SQ) : SQ
  | .normal, s => K s
  | e, s => Q e s
def SQ.inBlock (id : Nat) (Q : SQ) : SQ
  | .exit id', s => if id' = id then Q .normal s else Q (.exit id') s
  | e, s => Q e s

theorem Swp.mono {c : Code} {Q' : SQ} (h : Swp C c st Q) (hq : ∀ e st, Q e st → Q' e st) : Swp C c st Q' := fun a w hh => wpm (h a w hh) (LQ.mono hq)
theorem Swp.weak {c : Code} {st' : St} (hw : Weak C st st') (h : Swp C c st' Q) : Swp C c st Q := fun a w hh => h a w (hw a w hh)
theorem Swp.skip (h : Q .normal st) : Swp C .skip st Q := fun _ _ hh => Go.wp_skip ⟨st, h, hh⟩
theorem Swp.label {i : Nat} (h : Q .normal st) : Swp C (.label i) st Q := fun _ _ hh => Go.wp_label ⟨st, h, hh⟩
theorem Swp.exit {i : Nat} (h : Q (.exit i) st) : Swp C (.exit i) st Q := fun _ _ hh => Go.wp_exit ⟨st, h, hh⟩
theorem Swp.ret (h : Q .ret st) : Swp C .ret st Q := fun _ _ hh => Go.wp_ret ⟨st, h, hh⟩
theorem Swp.seq {x y : Code} (h : Swp C x st (SQ.then (fun s => Swp C y s Q) Q)) : Swp C (.seq x y) st Q := fun a w hh => Go.wp_seq (wpm (h a w hh) fun e a w hq => by
  cases e with
  | normal => obtain ⟨s, h1, h2⟩ := hq; exact h1 a w h2
  | _ => exact hq)
theorem Swp.cond {c : Operand} {x y : Code} {b : Bool} (he : st.ev c = .pl (.bool b)) (h1 : b = true → Swp C x st Q) (h2 : b = false → Swp C y st Q) : Swp C (.cond c x y) st Q := fun a w hh => by
  obtain ⟨ρ, φ, S, h⟩ := hh
  have hr := h.ev c
  rw [he] at hr
  exact Go.wp_cond_split hr.pl_eq (fun e => h1 e a w ⟨ρ, φ, S, h⟩) (fun e => h2 e a w ⟨ρ, φ, S, h⟩)
theorem Swp.block {id : Nat} {c : Code} (h : Swp C c st (SQ.inBlock id Q)) : Swp C (.block id c) st Q := fun a w hh => Go.wp_block (wpm (h a w hh) fun e a w hq => by
  cases e with
  | exit i =>
    obtain ⟨s, h1, h2⟩ := hq
    simp only [SQ.inBlock] at h1
    simp only [Exit.inBlock]
    split <;> rename_i e
    · rw [if_pos e] at h1; exact ⟨s, h1, h2⟩
    · rw [if_neg e] at h1; exact ⟨s, h1, h2⟩
  | _ => exact hq)

/-- A loop: a relation between a number that falls and the state. -/
theorem Swp.loop {c : Code} (I : Nat → St → Prop) (n : Nat) (h0 : I n st) (h : ∀ n st, I n st → Swp C c st (SQ.then (fun s => ∃ m, m < n ∧ ∃ s', Weak C s s' ∧ I m s') Q)) : Swp C (.loop c) st Q := fun a w hh =>
  wp_loop_ghost (fun n a w => ∃ s, I n s ∧ Hd C s a w) n ⟨st, h0, hh⟩ fun n a w ⟨s, h1, h2⟩ => wpm (h n s h1 a w h2) fun e a w hq => by
    cases e with
    | normal =>
      obtain ⟨s1, ⟨m, hm, s', hw, hi⟩, hs⟩ := hq
      exact ⟨m, hm, s', hi, hw a w hs⟩
    | _ => exact hq

theorem Swp.region {id : Nat} {l : List Oper} (h : Sl C l.toArray l st (Q .normal)) : Swp C (.region id l.toArray false) st Q := fun a w hh => wp_region_lit (h _ a w (fun _ _ hk => hk) (LQ.pq C Q) hh)

/-! ## Rows of operations -/

theorem Sl.nil (h : K st) : Sl C ops [] st K := fun _ a w hq _ hh => hq a w ⟨st, h, hh⟩
theorem Sl.cons (h : So C ops o st fun s => Sl C ops l s K) : Sl C ops (o :: l) st K := fun Q a w hq hp hh => wpList_step fun N hN => h Q a w N (fun a w ⟨_, h1, h2⟩ => hN a w (h1 Q a w hq hp h2)) hp hh
theorem Sl.weak {st' : St} (hw : Weak C st st') (h : Sl C ops l st' K) : Sl C ops l st K := fun Q a w hq hp hh => h Q a w hq hp (hw a w hh)

theorem So.op (hg : o.guard = none) (h : Sop C o st K) : So C ops o st K := fun Q a w N hN hp hh => by
  have : Region.wanted o (yielded ops a.tmps) = true := by unfold Region.wanted; rw [hg]
  rw [if_pos this]
  exact Oper.wp_mono hN (h Q a w hp hh)

/-! ## Guards -/

/-- The guard's bool: known, or known where it was asked. -/
def gVal : SV → Option (Bool × Bool)
  | .pl (.bool g) => some (true, g)
  | .cn c (.pl (.bool g)) => some (c, g)
  | _ => none
def gWant (want : Bool) (c g : Bool) : Bool := match want with
  | true => c && g
  | false => c && !g

theorem wanted_of {j d : Nat} {want c g : Bool} {a : Act} {w : World} {oj : Oper} {ρ : Nat → Option Loc} {φ : Nat → Nat → Prop} {S : Nat → Prop} (h : Sim C.w0 C.M C.S0 ρ φ S st a w) (hg : o.guard = some (j, want)) (hj : ops[j]? = some oj) (hd : oj.dst = some d) (hdn : d < st.n) (hv : gVal (st.get d) = some (c, g)) :
    Region.wanted o (yielded ops a.tmps) = gWant want c g := by
  have hr := h.slot d
  have hsz : d < a.tmps.size := by rw [h.size]; exact hdn
  have hy : yielded ops a.tmps j = match a.tmps.getD d undef with | .bool b => some b | _ => none := by
    unfold yielded
    rw [hj]
    simp only [Option.bind_some, hd]
    rw [Array.getElem?_eq_getElem hsz, Array.getD_eq_getD_getElem?, Array.getElem?_eq_getElem hsz]
    simp only [Option.getD_some]
    cases a.tmps[d] <;> rfl
  unfold Region.wanted
  rw [hg]
  simp only [hy]
  unfold gVal at hv
  split at hv <;> try (cases hv; done)
  · rename_i e
    obtain ⟨rfl, rfl⟩ := Prod.mk.inj (Option.some.inj hv)
    rw [e] at hr
    rw [hr.pl_eq]
    cases want <;> rename_i g' <;> cases g' <;> rfl
  · rename_i e
    obtain ⟨rfl, rfl⟩ := Prod.mk.inj (Option.some.inj hv)
    rw [e] at hr
    rename_i c' g'
    generalize a.tmps.getD d undef = v at hr
    cases hr with
    | per h => cases h
    | cn _ _ _ h h0 =>
      cases c' with
      | true => rw [(h rfl).pl_eq]; cases want <;> cases g' <;> rfl
      | false => rw [h0 rfl]; cases want <;> cases g' <;> rfl

/-- An operation under a guard, both ways. -/
theorem So.guard {j d : Nat} {want c g : Bool} {oj : Oper} (hg : o.guard = some (j, want)) (hj : ops[j]? = some oj) (hd : oj.dst = some d) (hdn : d < st.n) (hv : gVal (st.get d) = some (c, g)) (hdst : dOk st.n o.dst)
    (h1 : gWant want c g = true → Sop C o st K) (h2 : gWant want c g = false → K (st.put o.dst (.cn false .dead))) : So C ops o st K := fun Q a w N hN hp hh => by
  obtain ⟨ρ, φ, S, h⟩ := hh
  rw [wanted_of h hg hj hd hdn hv]
  split
  · rename_i e
    exact Oper.wp_mono hN (h1 e Q a w hp ⟨ρ, φ, S, h⟩)
  · rename_i e
    exact hN _ _ ⟨_, h2 (by simpa using e), ρ, φ, S, h.put hdst (.cn _ _ _ (fun e => by cases e) (fun _ => rfl))⟩

/-- A pure operation under a guard: what it gives is known where it was carried out. -/
theorem So.guardPure {T : Nat → Option TI} (hT : TOk C.P T) {j d : Nat} {want c g : Bool} {oj : Oper} {side : Prop} {sv : SV} (hg : o.guard = some (j, want)) (hj : ops[j]? = some oj) (hd : oj.dst = some d) (hdn : d < st.n) (hv : gVal (st.get d) = some (c, g)) (hdst : dOk st.n o.dst)
    (he : pev T st (fun x => (st.ev x).assume (gWant want c g)) o.op = some (side, sv)) (hs : gWant want c g = true → side) (hK : K (st.put o.dst (.cn (gWant want c g) sv))) : So C ops o st K := fun Q a w N hN hp hh => by
  obtain ⟨ρ, φ, S, h⟩ := hh
  rw [wanted_of h hg hj hd hdn hv]
  split
  · rename_i e
    obtain ⟨u, h1, h2⟩ := pev_ok (P := C.P) hT h (fun x => (h.ev x).assume e) he (hs e)
    exact wp_value h1 (hN _ _ ⟨_, hK, ρ, φ, S, h.put hdst (.cn _ _ _ (fun _ => h2) (fun e' => by rw [e] at e'; cases e'))⟩)
  · rename_i e
    exact hN _ _ ⟨_, hK, ρ, φ, S, h.put hdst (.cn _ _ _ (fun e' => absurd e' e) (fun _ => rfl))⟩

/-! ## Operations -/

theorem nk_nx {K : St → Prop} : Nx C.w0 C.M C.S0 K = NK C K := rfl

theorem Sop.pure {T : Nat → Option TI} (hT : TOk C.P T) {side : Prop} {sv : SV} (he : pev T st st.ev o.op = some (side, sv)) (hs : side) (hd : dOk st.n o.dst) (hK : K (st.put o.dst sv)) : Sop C o st K := fun _ _ _ _ ⟨_, _, _, h⟩ => wp_pure hT h (fun x => h.ev x) he hs hd hK

/-- The operations that make memory or write it. -/
def xop (T : Nat → Option TI) (wr : Nat → Prop) (st : St) (dst : Option Nat) : Op → Option (Prop × St)
  | .alloc t => match dst with
    | some d => xAlloc T st t d
    | none => none
  | .box _ x => match dst with
    | some d => xBox st (st.ev x) d
    | none => none
  | .store t x v => xStore T wr st t (st.ev x) (st.ev v) dst
  | .makeSlice t l c => match dst with
    | some d => xMake T st t (st.ev l) (st.ev c) d
    | none => none
  | .buildSlice t len parts => match dst with
    | some d => xBuildSlice T st t len (parts.toList.map fun p => (p.1, st.ev p.2)) d
    | none => none
  | .call c => match dst, c.callee, c.args.toList, c.argTypes.toList with
    | some d, .builtin .append, [s, x], [t, tx] => xAppend T wr st t tx (st.ev s) (st.ev x) d
    | _, _, _, _ => none
  | _ => none

theorem xop_ok {T : Nat → Option TI} (hT : TOk C.P T) {side : Prop} {st' : St} (he : xop T C.M.wr st o.dst o.op = some (side, st')) (hs : side) (hK : K st') : Sop C o st K := fun Q a w _ ⟨ρ, φ, S, h⟩ => by
  unfold xop at he
  split at he
  · rename_i t hop
    split at he <;> try (cases he; done)
    rename_i d hd
    exact xAlloc_ok hT h hop hd he hs hK
  · rename_i t x hop
    split at he <;> try (cases he; done)
    rename_i d hd
    exact xBox_ok h hop hd he hs hK
  · rename_i t x v hop
    exact xStore_ok hT h hop he hs hK
  · rename_i t l c hop
    split at he <;> try (cases he; done)
    rename_i d hd
    exact xMake_ok hT h hop hd he hs hK
  · rename_i t len parts hop
    split at he <;> try (cases he; done)
    rename_i d hd
    exact xBuildSlice_ok hT h hop hd he hs hK
  · rename_i c hop
    split at he <;> try (cases he; done)
    rename_i d s x t tx hd hc ha ht
    exact xAppend_ok hT h hop hc ha ht hd he hs hK
  · cases he

attribute [irreducible] Sl So Sop Swp Weak

end Go.Vcg
