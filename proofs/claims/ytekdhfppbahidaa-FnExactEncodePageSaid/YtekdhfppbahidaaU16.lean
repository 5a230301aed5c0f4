/- A function's contract, from its code. -/
import Derived.Test.YtekdhfppbahidaaU15
namespace Go.Vcg

variable {w0 : World} {M : Perm} {S0 : Nat → Prop} {ρ : Nat → Option Loc} {φ : Nat → Nat → Prop} {S : Nat → Prop} {st : St} {a : Act} {w : World} {P : Program} {T : Nat → Option TI} {C : Cx} {K : St → Prop} {o : Oper}

/-! ## What shares nothing with the arguments -/

mutual
def SV.shut : SV → Bool
  | .pl _ => true
  | .nl => true
  | .dead => true
  | .pd rows => rows.isEmpty
  | .ow _ rows => shutRows rows
  | .bo row => shutL row
  | .mo es => shutE es
  | .ifc _ s => s.shut
  | .fn _ a b => shutL a && shutL b
  | .ag cs => shutL cs
  | .tu cs => shutL cs
  | _ => false
def shutL : List SV → Bool
  | [] => true
  | s :: ss => s.shut && shutL ss
def shutRows : List (List SV) → Bool
  | [] => true
  | r :: rs => shutL r && shutRows rs
def shutE : List (Value × SV) → Bool
  | [] => true
  | (_, s) :: es => s.shut && shutE es
end
theorem shutL_eq (ss : List SV) : shutL ss = ss.all SV.shut := by
  induction ss with
  | nil => simp [shutL]
  | cons s ss ih => simp [shutL, ih]
theorem shutRows_eq (rows : Rows) : shutRows rows = rows.all fun r => r.all SV.shut := by
  induction rows with
  | nil => simp [shutRows]
  | cons s ss ih => simp [shutRows, ih, shutL_eq]
theorem shutE_eq (es : List (Value × SV)) : shutE es = es.all fun e => e.2.shut := by
  induction es with
  | nil => simp [shutE]
  | cons s ss ih => obtain ⟨k, s⟩ := s; simp [shutE, ih]
theorem all_get {α : Type} {l : List α} {f : α → Bool} (h : l.all f = true) {i : Nat} {x : α} (hx : l[i]? = some x) : f x = true := List.all_eq_true.mp h x (List.mem_of_getElem? hx)

theorem RepP.shut {S' : Nat → Prop} {v : Value} {s : SV} (h : RepP S w v s) (hs : s.shut = true) : RepP S' w v s := by
  induction h with
  | pl v => exact .pl v
  | nl => exact .nl
  | pd0 a c => exact .pd0 a c
  | pd blk off esz cap rows f hS hc hl hm hr _ =>
    rw [SV.shut] at hs
    have : rows = [] := by simpa using hs
    subst this
    exact .pd0 _ _
  | bp | pm => simp [SV.shut] at hs
  | ifc t _ ih => rw [SV.shut] at hs; exact .ifc t (ih hs)
  | fn f va vb a b ha hb _ _ ih1 ih2 =>
    rw [SV.shut, shutL_eq, shutL_eq, Bool.and_eq_true] at hs
    exact .fn f va vb a b ha hb (fun i v c h1 h2 => ih1 i v c h1 h2 (all_get hs.1 h2)) (fun i v c h1 h2 => ih2 i v c h1 h2 (all_get hs.2 h2))
  | ag vs cs hl _ ih => rw [SV.shut, shutL_eq] at hs; exact .ag vs cs hl fun i v c h1 h2 => ih i v c h1 h2 (all_get hs h2)
  | tu vs cs hl _ ih => rw [SV.shut, shutL_eq] at hs; exact .tu vs cs hl fun i v c h1 h2 => ih i v c h1 h2 (all_get hs h2)
  | dead v => exact .dead v
theorem RepO.shut {S' F : Nat → Prop} {v : Value} {s : SV} (h : RepO S w v s F) (hs : s.shut = true) : RepO S' w v s F := by
  induction h with
  | per h => exact .per (h.shut hs)
  | ow0 a k F => exact .ow0 a k F
  | ow blk off k cap rows f G F h1 h2 h3 h4 h5 h6 h7 h8 h9 _ ih =>
    rw [SV.shut, shutRows_eq] at hs
    exact .ow blk off k cap rows f G F h1 h2 h3 h4 h5 h6 h7 h8 h9 fun i r j c g1 g2 => ih i r j c g1 g2 (all_get (all_get hs g1) g2)
  | bo blk off row f G F h1 h2 h3 h4 h5 h6 _ ih =>
    rw [SV.shut, shutL_eq] at hs
    exact .bo blk off row f G F h1 h2 h3 h4 h5 h6 fun j c g => ih j c g (all_get hs g)
  | mo blk clk ents es vs G F h1 h2 h3 h4 h5 h6 _ ih =>
    rw [SV.shut, shutE_eq] at hs
    exact .mo blk clk ents es vs G F h1 h2 h3 h4 h5 h6 fun i v e g1 g2 => ih i v e g1 g2 (all_get hs g2)
  | ifc t _ ih => rw [SV.shut] at hs; exact .ifc t (ih hs)
  | ag vs cs G F h1 h2 h3 _ ih => rw [SV.shut, shutL_eq] at hs; exact .ag vs cs G F h1 h2 h3 fun i v c g1 g2 => ih i v c g1 g2 (all_get hs g2)
  | tu vs cs G F h1 h2 h3 _ ih => rw [SV.shut, shutL_eq] at hs; exact .tu vs cs G F h1 h2 h3 fun i v c g1 g2 => ih i v c g1 g2 (all_get hs g2)

/-- References. -/
def SV.ref0 : SV → Bool
  | .sl _ _ _ | .sa _ _ _ _ _ | .pt _ _ _ | .mr _ => true
  | _ => false
def SV.shutC (c : SV) : Bool := c.shut || match c with
  | .ifc _ s => s.ref0
  | s => s.ref0
def Bk.shut : Bk → Bool
  | .c _ rows => shutRows rows || rows.all fun r => r.all SV.shutC
  | .m es => shutE es || es.all fun e => e.2.shutC
theorem Rep.ref0 {S' : Nat → Prop} {v : Value} {s : SV} (h : Rep ρ S w v s) (hs : s.ref0 = true) : Rep ρ S' w v s := by
  cases h with
  | per h => cases h <;> cases hs
  | sl b i n cap l hb hc hi hz => exact .sl b i n cap l hb hc hi hz
  | sl0 a b i => exact .sl0 a b i
  | sa b i o k n cap l hb hc hi ho => exact .sa b i o k n cap l hb hc hi ho
  | pt b i o l hb => exact .pt b i o l hb
  | mr b l hb => exact .mr b l hb
  | _ => cases hs
theorem Rep.shut {S' : Nat → Prop} {v : Value} {s : SV} (h : Rep ρ S w v s) (hs : s.shut = true) : Rep ρ S' w v s := by
  induction h with
  | per h => exact .per (h.shut hs)
  | sl | sl0 | sa | pt | mr | cn => simp [SV.shut] at hs
  | ifc t _ ih => rw [SV.shut] at hs; exact .ifc t (ih hs)
  | fn f va vb a b ha hb _ _ ih1 ih2 =>
    rw [SV.shut, shutL_eq, shutL_eq, Bool.and_eq_true] at hs
    exact .fn f va vb a b ha hb (fun i v c h1 h2 => ih1 i v c h1 h2 (all_get hs.1 h2)) (fun i v c h1 h2 => ih2 i v c h1 h2 (all_get hs.2 h2))
  | ag vs cs hl _ ih => rw [SV.shut, shutL_eq] at hs; exact .ag vs cs hl fun i v c h1 h2 => ih i v c h1 h2 (all_get hs h2)
  | tu vs cs hl _ ih => rw [SV.shut, shutL_eq] at hs; exact .tu vs cs hl fun i v c h1 h2 => ih i v c h1 h2 (all_get hs h2)
theorem CRep.shutC {S' F : Nat → Prop} {v : Value} {c : SV} (h : CRep ρ S w v c F) (hs : c.shutC = true) : CRep ρ S' w v c F := by
  unfold SV.shutC at hs
  rw [Bool.or_eq_true] at hs
  rcases hs with hs | hs
  · rcases h with h | h
    · exact .inl (h.shut hs)
    · exact .inr (h.shut hs)
  · split at hs
    · rename_i t s
      rcases h with h | h
      · cases h with
        | ifc _ h => exact .inl (.ifc t (h.ref0 hs))
        | per h => cases h with
          | ifc _ h => exact .inl (.ifc t (Rep.ref0 (ρ := ρ) (.per h) hs))
      · cases h with
        | per h => cases h with
          | ifc _ h => exact .inl (.ifc t (Rep.ref0 (ρ := ρ) (.per h) hs))
        | ifc _ h => cases h with
          | per h => exact .inl (.ifc t (Rep.ref0 (ρ := ρ) (.per h) hs))
          | _ => cases hs
    · rcases h with h | h
      · exact .inl (h.ref0 hs)
      · cases h with
        | per h => exact .inl (Rep.ref0 (ρ := ρ) (.per h) hs)
        | _ => cases hs
theorem BkOk.shut {S' F : Nat → Prop} {b : Nat} {k : Bk} (h : BkOk ρ S w F b k) (hs : k.shut = true) : BkOk ρ S' w F b k := by
  have hall : ∀ c : SV, c.shut = true → c.shutC = true := fun c h => by unfold SV.shutC; rw [h]; rfl
  cases k with
  | c k rows =>
    rcases h with ⟨h1, h2⟩ | ⟨l, h1, h2, h3⟩
    · exact .inl ⟨h1, h2⟩
    · obtain ⟨G, e1, e2, e3⟩ := h3.cell
      refine .inr ⟨l, h1, h2, h3.free, h3.len, h3.long, G, e1, e2, fun i r j c g1 g2 => ?_⟩
      obtain ⟨v, f1, f2, f3⟩ := e3 i r j c g1 g2
      refine ⟨v, f1, f2, f3.shutC ?_⟩
      unfold Bk.shut at hs
      rw [Bool.or_eq_true] at hs
      rcases hs with hs | hs
      · rw [shutRows_eq] at hs; exact hall _ (all_get (all_get hs g1) g2)
      · exact all_get (all_get hs g1) g2
  | m es =>
    obtain ⟨l, h1, h2⟩ := h
    obtain ⟨ents, clk, vs, G, e0, e1, e2, e3, e4, e5⟩ := h2.ex
    refine ⟨l, h1, ents, clk, vs, G, e0, e1, e2, e3, e4, fun i v e g1 g2 => (e5 i v e g1 g2).shutC ?_⟩
    unfold Bk.shut at hs
    rw [Bool.or_eq_true] at hs
    rcases hs with hs | hs
    · rw [shutE_eq] at hs; exact hall _ (all_get hs g2)
    · exact all_get hs g2

/-! ## Results go out -/

/-- A value of the state serves as this cell of the result; what must hold; the names that are used up. -/
def exC (B : Nat → Option Bk) (s t : SV) : Option (Prop × List Nat) := match s, t with
  | .nl, .ow _ rows => some (rows = [], [])
  | .nl, .pd rows => some (rows = [], [])
  | s, t => match foldRef B s with
    | some (p, s', n) => some (p ∧ s' = t, [n])
    | none => some (s.clo = true ∧ s = t, [])
def exL (B : Nat → Option Bk) : List SV → List SV → Option (Prop × List Nat)
  | [], [] => some (True, [])
  | s :: ss, t :: ts => match exC B s t, exL B ss ts with
    | some (p, ns), some (q, ms) => some (p ∧ q, ns ++ ms)
    | _, _ => none
  | _, _ => none
def SV.isPl : SV → Bool
  | .pl _ => true
  | _ => false
theorem SV.isPl_cloP {s : SV} (h : s.isPl = true) : s.cloP = true := by cases s <;> first | rfl | cases h
def ex1 (B : Nat → Option Bk) (s t : SV) : Option (Prop × List Nat) := match s, t with
  | .ag cs, .ag ds => if cs.all SV.isPl then some (cs = ds, []) else exL B cs ds
  | s, t => exC B s t
def exLs (B : Nat → Option Bk) : List SV → List SV → Option (Prop × List Nat)
  | [], [] => some (True, [])
  | s :: ss, t :: ts => match ex1 B s t, exLs B ss ts with
    | some (p, ns), some (q, ms) => some (p ∧ q, ns ++ ms)
    | _, _ => none
  | _, _ => none
def exRes (B : Nat → Option Bk) (ss : List SV) (t : SV) : Option (Prop × List Nat) := match ss with
  | [s] => ex1 B s t
  | ss => match t with
    | .tu ts => exLs B ss ts
    | _ => none

/-- The names' blocks. -/
def ownL (ρ : Nat → Option Loc) (φ : Nat → Nat → Prop) (ns : List Nat) (x : Nat) : Prop := ∃ n ∈ ns, owns ρ φ n x

theorem Rep.clo {v : Value} {s : SV} (h : Rep ρ S w v s) (hc : s.clo = true) : RepP S w v s := by
  have := CRep.toO (F := fun _ => False) (.inl h) hc
  cases h with
  | per h => exact h
  | ifc t h => exact .ifc t (h.clo0 hc)
  | fn f va vb x y ha hb h1 h2 =>
    simp only [SV.clo, Bool.and_eq_true, List.all_eq_true] at hc
    exact .fn f va vb x y ha hb (fun i v c g1 g2 => (h1 i v c g1 g2).cloP (hc.1 c (List.mem_of_getElem? g2))) (fun i v c g1 g2 => (h2 i v c g1 g2).cloP (hc.2 c (List.mem_of_getElem? g2)))
  | _ => cases hc

theorem exC_ok (h : Sim w0 M S0 ρ φ S st a w) {v : Value} {s t : SV} {p : Prop} {ns : List Nat} (hr : Rep ρ S w v s) (he : exC st.blk s t = some (p, ns)) (hp : p) : RepO S w v t (ownL ρ φ ns) ∧ ∀ n ∈ ns, st.blk n ≠ none := by
  unfold exC at he
  split at he
  · obtain ⟨rfl, rfl⟩ := Prod.mk.inj (Option.some.inj he)
    subst hp
    rw [hr.nl_eq]
    exact ⟨.ow0 none _ _, fun n hn => by simp at hn⟩
  · obtain ⟨rfl, rfl⟩ := Prod.mk.inj (Option.some.inj he)
    subst hp
    rw [hr.nl_eq]
    exact ⟨.per (.pd0 none 0), fun n hn => by simp at hn⟩
  · split at he
    · rename_i p' s' n h1
      obtain ⟨rfl, rfl⟩ := Prod.mk.inj (Option.some.inj he)
      obtain ⟨hp, rfl⟩ := hp
      obtain ⟨g1, g2⟩ := foldRef_ok h hr h1 hp
      exact ⟨g2.sub fun x hx => ⟨n, by simp, hx⟩, fun m hm => by simp at hm; subst hm; exact g1⟩
    · obtain ⟨rfl, rfl⟩ := Prod.mk.inj (Option.some.inj he)
      obtain ⟨hp, rfl⟩ := hp
      exact ⟨.per (hr.clo hp), fun n hn => by simp at hn⟩

theorem ownL_disj (h : Sim w0 M S0 ρ φ S st a w) {ns ms : List Nat} (h1 : ∀ n ∈ ns, st.blk n ≠ none) (h2 : ∀ n ∈ ms, st.blk n ≠ none) (hd : ∀ n ∈ ns, n ∉ ms) {x : Nat} (hx : ownL ρ φ ns x) (hy : ownL ρ φ ms x) : False := by
  obtain ⟨n, hn, hx⟩ := hx
  obtain ⟨m, hm, hy⟩ := hy
  have := h.heap.inj n m x (h1 n hn) (h2 m hm) hx hy
  subst this
  exact hd n hn hm

theorem exL_gen (h : Sim w0 M S0 ρ φ S st a w) {E : SV → SV → Option (Prop × List Nat)} {EL : List SV → List SV → Option (Prop × List Nat)} (hE0 : ∀ ts, EL [] ts = match ts with
    | [] => some (True, [])
    | _ => none) (hE1 : ∀ s ss ts, EL (s :: ss) ts = match ts with
    | [] => none
    | t :: ts => match E s t, EL ss ts with
      | some (p, ns), some (q, ms) => some (p ∧ q, ns ++ ms)
      | _, _ => none)
    (hE : ∀ {v : Value} {s t : SV} {p : Prop} {ns : List Nat}, Rep ρ S w v s → E s t = some (p, ns) → p → ns.Nodup → RepO S w v t (ownL ρ φ ns) ∧ ∀ n ∈ ns, st.blk n ≠ none) :
    ∀ {vs : List Value} {ss ts : List SV} {p : Prop} {ns : List Nat}, vs.length = ss.length → (∀ (i : Nat) (v : Value) (s : SV), vs[i]? = some v → ss[i]? = some s → Rep ρ S w v s) → EL ss ts = some (p, ns) → p → ns.Nodup →
      vs.length = ts.length ∧ (∀ n ∈ ns, st.blk n ≠ none) ∧ ∃ G : Nat → Nat → Prop, (∀ i x, G i x → ownL ρ φ ns x) ∧ (∀ i j x, G i x → G j x → i = j) ∧ ∀ (i : Nat) (v : Value) (t : SV), vs[i]? = some v → ts[i]? = some t → RepO S w v t (G i) := by
  intro vs ss
  induction ss generalizing vs with
  | nil =>
    intro ts p ns hl hr he hp _
    rw [hE0] at he
    cases ts with
    | nil =>
      obtain ⟨rfl, rfl⟩ := Prod.mk.inj (Option.some.inj he)
      exact ⟨hl, fun n hn => by simp at hn, fun _ _ => False, fun _ _ g => g.elim, fun _ _ _ g => g.elim, fun i v t _ h2 => by simp at h2⟩
    | cons => cases he
  | cons s ss ih =>
    intro ts p ns hl hr he hp hnd
    rw [hE1] at he
    cases ts with
    | nil => cases he
    | cons t ts =>
      simp only at he
      split at he <;> try (cases he; done)
      rename_i p1 ns1 p2 ns2 h1 h2
      obtain ⟨rfl, rfl⟩ := Prod.mk.inj (Option.some.inj he)
      cases vs with
      | nil => simp at hl
      | cons v vs =>
        rw [List.nodup_append] at hnd
        obtain ⟨g1, g2⟩ := hE (hr 0 v s rfl rfl) h1 hp.1 hnd.1
        obtain ⟨k1, k2, G, k3, k4, k5⟩ := ih (vs := vs) (by simpa using hl) (fun i v s e1 e2 => hr (i + 1) v s (by simpa using e1) (by simpa using e2)) h2 hp.2 hnd.2.1
        have hdis : ∀ {x}, ownL ρ φ ns1 x → ownL ρ φ ns2 x → False := fun hx hy => ownL_disj h g2 k2 (fun n hn hm => hnd.2.2 n hn n hm rfl) hx hy
        refine ⟨by simp [k1], fun n hn => (List.mem_append.mp hn).elim (g2 n) (k2 n), fun i => match i with
          | 0 => ownL ρ φ ns1
          | i + 1 => G i, fun i x hx => ?_, fun i j x hx hy => ?_, fun i u t' e1 e2 => ?_⟩
        · cases i with
          | zero => obtain ⟨n, hn, hx⟩ := hx; exact ⟨n, List.mem_append_left _ hn, hx⟩
          | succ i => obtain ⟨n, hn, hx⟩ := k3 i x hx; exact ⟨n, List.mem_append_right _ hn, hx⟩
        · cases i with
          | zero => cases j with
            | zero => rfl
            | succ j => exact (hdis hx (k3 j x hy)).elim
          | succ i => cases j with
            | zero => exact (hdis hy (k3 i x hx)).elim
            | succ j => rw [k4 i j x hx hy]
        · cases i with
          | zero =>
            simp only [List.getElem?_cons_zero, Option.some.injEq] at e1 e2
            subst e1; subst e2
            exact g1
          | succ i => exact k5 i u t' (by simpa using e1) (by simpa using e2)

theorem ex1_ok (h : Sim w0 M S0 ρ φ S st a w) {v : Value} {s t : SV} {p : Prop} {ns : List Nat} (hr : Rep ρ S w v s) (he : ex1 st.blk s t = some (p, ns)) (hp : p) (hnd : ns.Nodup) : RepO S w v t (ownL ρ φ ns) ∧ ∀ n ∈ ns, st.blk n ≠ none := by
  unfold ex1 at he
  split at he
  · rename_i cs ds
    obtain ⟨vs, rfl, hl, hc⟩ := hr.ag_inv
    split at he
    · rename_i hcl
      obtain ⟨rfl, rfl⟩ := Prod.mk.inj (Option.some.inj he)
      subst hp
      exact ⟨.per (.ag vs cs hl fun i v c h1 h2 => (hc i v c h1 h2).cloP (SV.isPl_cloP (all_get hcl h2))), fun n hn => by simp at hn⟩
    · obtain ⟨k1, k2, G, k3, k4, k5⟩ := exL_gen h (E := exC st.blk) (EL := exL st.blk) (fun ts => by cases ts <;> rfl) (fun s ss ts => by cases ts <;> rfl) (fun hr he hp _ => exC_ok h hr he hp) hl hc he hp hnd
      exact ⟨.ag vs ds G _ (fun j x hx => k3 j x hx) (fun i j x => k4 i j x) k1 k5, k2⟩
  · exact exC_ok h hr he hp

/-! ## The results of a frame -/

def resSV (T : Nat → Option TI) (st : St) : List ResultVar → Option (Prop × List SV)
  | [] => some (True, [])
  | .tmp t :: rs => match resSV T st rs with
    | some (sd, ss) => some (sd, st.get t :: ss)
    | none => none
  | .cell x t :: rs => match pLoad T st t (st.get x), resSV T st rs with
    | some (sd, s), some (sd', ss) => some (sd ∧ sd', s :: ss)
    | _, _ => none

theorem resSV_ok (hT : TOk P T) (h : Sim w0 M S0 ρ φ S st a w) : ∀ {rs : List ResultVar} {side : Prop} {ss : List SV}, resSV T st rs = some (side, ss) → side →
    ∃ ws, (rs.mapM (m := Sem) fun | .tmp t => pure (a.tmps.getD t undef) | .cell x t => do loadVar t (← asAddr (a.tmps.getD x undef))).run P w = .ok ws w ∧ ws.length = ss.length ∧ ∀ (i : Nat) (v : Value) (s : SV), ws[i]? = some v → ss[i]? = some s → Rep ρ S w v s := by
  intro rs
  induction rs with
  | nil =>
    intro side ss he _
    obtain ⟨_, rfl⟩ := Prod.mk.inj (Option.some.inj he)
    exact ⟨[], by simp, rfl, fun i v s e => by simp at e⟩
  | cons x rs ih =>
    intro side ss he hs
    cases x with
    | tmp t =>
      unfold resSV at he
      split at he <;> try (cases he; done)
      rename_i sd ss' e1
      obtain ⟨rfl, rfl⟩ := Prod.mk.inj (Option.some.inj he)
      obtain ⟨ws, h1, h2, h3⟩ := ih e1 hs
      refine ⟨a.tmps.getD t undef :: ws, by simp only [List.mapM_cons, Sem.run_bind, Sem.run_pure, Result.andThen_ok, h1], by simp [h2], fun i v s g1 g2 => ?_⟩
      cases i with
      | zero =>
        simp only [List.getElem?_cons_zero, Option.some.injEq] at g1 g2
        subst g1; subst g2
        exact h.slot t
      | succ i => exact h3 i v s (by simpa using g1) (by simpa using g2)
    | cell x t =>
      unfold resSV at he
      split at he <;> try (cases he; done)
      rename_i sd s sd' ss' e0 e1
      obtain ⟨rfl, rfl⟩ := Prod.mk.inj (Option.some.inj he)
      obtain ⟨ws, h1, h2, h3⟩ := ih e1 hs.2
      obtain ⟨u, k1, k2⟩ := pLoad_ok (P := P) hT h (h.slot x) e0 hs.1
      have hx : ∃ ad, a.tmps.getD x undef = .pointer (some ad) := by
        have hr := h.slot x
        unfold pLoad at e0
        split at e0 <;> try (cases e0; done)
        rename_i hat
        obtain ⟨b, o', hb, _⟩ := h.at hr hat (by
          simp only [Option.some.injEq, Prod.mk.injEq] at e0
          have := hs.1
          rw [← e0.1] at this
          exact this.1)
        exact ⟨_, hb⟩
      obtain ⟨ad, hx⟩ := hx
      have hl : (loadVar t ad).run P w = .ok u w := by
        rw [hx] at k1
        simpa [Instr.loadAt, Instr.sureAddr] using k1
      have ha : (asAddr (a.tmps.getD x undef)).run P w = .ok ad w := by rw [hx]; simp [asAddr]
      refine ⟨u :: ws, by simp only [List.mapM_cons, Sem.run_bind, ha, Sem.run_pure, Result.andThen_ok, hl, h1], by simp [h2], fun i v s g1 g2 => ?_⟩
      cases i with
      | zero =>
        simp only [List.getElem?_cons_zero, Option.some.injEq] at g1 g2
        subst g1; subst g2
        exact k2
      | succ i => exact h3 i v s (by simpa using g1) (by simpa using g2)


/-- The pins are as told. -/
def pinsTold (st : St) (pins : Pins) (used : List Nat) : Pins → Prop
  | [] => True
  | (p, k) :: l => st.blk p = some k ∧ (pk pins p).isSome = true ∧ used.contains p = false ∧ pinsTold st pins used l
theorem pinsTold_at {pins : Pins} {used : List Nat} : ∀ {ps : Pins}, pinsTold st pins used ps → ∀ p k, pk ps p = some k → st.blk p = some k ∧ pk pins p ≠ none ∧ p ∉ used := by
  intro ps
  induction ps with
  | nil => intro _ p k h; simp [pk] at h
  | cons q ps ih =>
    intro h p k hk
    obtain ⟨p0, k0⟩ := q
    obtain ⟨h1, h2, h3, h4⟩ := h
    unfold pk at hk
    rw [lookup_cons_if] at hk
    split at hk
    · rename_i e
      obtain rfl := Option.some.inj hk
      subst e
      exact ⟨h1, (fun g => by rw [g] at h2; cases h2), by simpa using h3⟩
    · exact ih h4 p k hk

/-- What a state must show where the function returns. -/
def Leave (T : Nat → Option TI) (rs : List ResultVar) (pins : Pins) (sh : Bool) (post : Pins → Out → Prop) (st : St) : Prop :=
  ∃ side ss p ns t ps, resSV T st rs = some (side, ss) ∧ side ∧ exRes st.blk ss t = some (p, ns) ∧ p ∧ decide ns.Nodup = true ∧ pinsTold st pins ns ps ∧ (sh = false → t.shut = true ∧ (ps.all fun q => q.2.shut) = true) ∧ post ps (.ret t)

/-- The rights of a call. -/
def pinM (ρ : Nat → Option Loc) (φ : Nat → Nat → Prop) (pins : Pins) : Perm := ⟨ownsAny ρ φ (pk pins), ρ, fun _ => True, fun _ _ => False⟩

theorem results_run {fn : Func} {ws : List Value} (k1 : (fn.results.toList.mapM (m := Sem) fun | .tmp t => pure (a.tmps.getD t undef) | .cell x t => do loadVar t (← asAddr (a.tmps.getD x undef))).run P w = .ok ws w) :
    (results fn a.tmps).run P w = .ok (if hs : ws.length = 1 then ws[0] else .tuple ws.toArray) w := by
  have hm : ∀ X : Sem (List Value), X.run P w = .ok ws w → (List.toArray <$> X).run P w = .ok ws.toArray w := fun X hX => by
    show (X >>= fun vs => pure vs.toArray).run P w = _
    simp only [Sem.run_bind, hX, Result.andThen_ok, Sem.run_pure]
  unfold results
  rw [Array.mapM_eq_mapM_toList, Sem.run_bind]
  refine Eq.trans (congrArg (fun r => Result.andThen r _) (hm _ k1)) ?_
  rw [Result.andThen_ok, Sem.run_pure]
  rfl

/-- The world of a state, as a call leaves it. -/
theorem post_of {ρ0 : Nat → Option Loc} {φ0 : Nat → Nat → Prop} {pins ps : Pins} {sh : Bool} {ns : List Nat} (h : Sim w0 (pinM ρ0 φ0 pins) S0 ρ φ S st a w) (hpin : ∀ b, pk pins b ≠ none → isPin b) (ht : pinsTold st pins ns ps) (hs : sh = false → (ps.all fun q => q.2.shut) = true) {e : Ending} {o : Out}
    (ho : match o with
      | .ret s => ∃ v, e = .returned v ∧ MRet (fun i => sh = true ∧ S i) ρ φ (pk ps) (ownsAny ρ0 φ0 (pk pins)) w0 w v s
      | .pan ch => e = .panicked ch) : MPost S0 w0 ρ0 φ0 pins sh e w o ps ρ φ (fun i => sh = true ∧ S i) := by
  have hat := fun {p k} (e : pk ps p = some k) => pinsTold_at ht p k e
  have hne : ∀ b, pk ps b ≠ none → st.blk b ≠ none ∧ pk pins b ≠ none := fun b hb => by
    obtain ⟨k, hk⟩ := Option.ne_none_iff_exists'.mp hb
    obtain ⟨h1, h2, _⟩ := hat hk
    exact ⟨by rw [h1]; simp, h2⟩
  refine ⟨h.grow, fun i h1 h2 => h.keep i h1 h2, ⟨fun b k hk => ?_, fun b b' x h1 h2 => h.heap.inj b b' x (hne b h1).1 (hne b' h2).1, fun b l h1 => h.heap.self b l (hne b h1).1, fun b x h1 h2 h3 => h.heap.notS b x (hne b h1).1 h2 h3.2, fun b x h1 => h.heap.lt b x (hne b h1).1⟩,
    fun b hb => ⟨(hne b hb).2, h.pin b (hpin b (hne b hb).2) (hne b hb).1⟩, fun x ⟨b, hb, hx⟩ => ?_, fun i hi => ?_, fun i hi => h.sb i hi.2, h.wide, ho⟩
  · have hok := h.heap.blk b k (hat hk).1
    cases hsh : sh with
    | true =>
      have : (fun i => true = true ∧ S i) = S := funext fun i => propext ⟨fun g => g.2, fun g => ⟨rfl, g⟩⟩
      rw [this]; exact hok
    | false => exact hok.shut (List.all_eq_true.mp (hs hsh) (b, k) (lookup_mem hk))
  · exact (h.own b x (hne b hb).1 hx).elim id fun g => g.2.elim
  · rcases h.from_ i hi.2 with g | g | g | g
    · exact .inl ⟨hi.1, g⟩
    · exact .inr (.inr g)
    · exact .inr (.inl g)
    · obtain ⟨_, g⟩ := g; exact g.elim

theorem leave_ok (hT : TOk P T) {fn : Func} {ρ0 : Nat → Option Loc} {φ0 : Nat → Nat → Prop} {pins : Pins} {sh : Bool} {post : Pins → Out → Prop} (h : Sim w0 (pinM ρ0 φ0 pins) S0 ρ φ S st a w) (hpin : ∀ b, pk pins b ≠ none → isPin b) (hl : Leave T fn.results.toList pins sh post st) :
    ∃ v, (results fn a.tmps).run P w = .ok v w ∧ ∃ o ps, post ps o ∧ MPost S0 w0 ρ0 φ0 pins sh (.returned v) w o ps ρ φ (fun i => sh = true ∧ S i) := by
  obtain ⟨side, ss, p, ns, t, ps, h1, h2, h3, h4, h5, h6, h7, h8⟩ := hl
  obtain ⟨ws, k1, k2, k3⟩ := resSV_ok (P := P) hT h h1 h2
  have hrun := results_run k1
  have hnd : ns.Nodup := by simpa using h5
  have key : ∃ v, (if hs : ws.length = 1 then ws[0] else .tuple ws.toArray) = v ∧ RepO S w v t (ownL ρ φ ns) ∧ ∀ n ∈ ns, st.blk n ≠ none := by
    refine ⟨_, rfl, ?_⟩
    unfold exRes at h3
    split at h3
    · rename_i s
      have hl1 : ws.length = 1 := by rw [k2]; rfl
      rw [dif_pos hl1]
      exact ex1_ok h (k3 0 _ s (List.getElem?_eq_getElem (by omega)) rfl) h3 h4 hnd
    · rename_i hns
      split at h3 <;> try (cases h3; done)
      rename_i ts
      have hl1 : ¬ ws.length = 1 := fun e => by
        rw [k2] at e
        obtain ⟨s, rfl⟩ := List.length_eq_one_iff.mp e
        exact hns s rfl
      rw [dif_neg hl1]
      obtain ⟨q1, q2, G, q3, q4, q5⟩ := exL_gen h (E := ex1 st.blk) (EL := exLs st.blk) (fun ts => by cases ts <;> rfl) (fun s ss ts => by cases ts <;> rfl) (fun hr he hp hnd => ex1_ok h hr he hp hnd) k2 k3 h3 h4 hnd
      exact ⟨.tu ws ts G _ (fun j x hx => q3 j x hx) (fun i j x => q4 i j x) q1 q5, q2⟩
  obtain ⟨v, e1, e2, e3⟩ := key
  rw [e1] at hrun
  refine ⟨v, hrun, .ret t, ps, h8, post_of h hpin h6 (fun e => (h7 e).2) ⟨v, rfl, ownL ρ φ ns, ?_, fun x ⟨n, hn, hx⟩ => ⟨?_, h.heap.lt n x (e3 n hn) hx, fun g => h.heap.notS n x (e3 n hn) hx g.2, fun ⟨b, hb, hxb⟩ => ?_⟩⟩⟩
  · cases hsh : sh with
    | true =>
      have : (fun i => true = true ∧ S i) = S := funext fun i => propext ⟨fun g => g.2, fun g => ⟨rfl, g⟩⟩
      rw [this]; exact e2
    | false => exact e2.shut (h7 hsh).1
  · exact (h.own n x (e3 n hn) hx).elim id fun g => g.2.elim
  · obtain ⟨k, hk⟩ := Option.ne_none_iff_exists'.mp hb
    obtain ⟨g1, _, g3⟩ := pinsTold_at h6 b k hk
    have := h.heap.inj n b x (e3 n hn) (by rw [g1]; simp) hx hxb
    subst this
    exact g3 hn

/-! ## A contract from the code -/

def numb (i : Nat) : List SV → List (Nat × SV)
  | [] => []
  | s :: ss => (i, s) :: numb (i + 1) ss
theorem numb_lookup (ss : List SV) : ∀ (i t : Nat), (numb i ss).lookup t = if i ≤ t then ss[t - i]? else none := by
  induction ss with
  | nil => intro i t; simp [numb]
  | cons s ss ih =>
    intro i t
    rw [numb, lookup_cons_if, ih]
    by_cases h : t = i
    · subst h; simp
    · rw [if_neg h]
      by_cases h2 : i + 1 ≤ t
      · rw [if_pos h2, if_pos (by omega), show t - i = (t - (i + 1)) + 1 from by omega, List.getElem?_cons_succ]
      · rw [if_neg h2, if_neg (by omega)]

/-- The state at the beginning. -/
def St.start (n : Nat) (args : List SV) (pins : Pins) : St := ⟨n, numb 0 args, pins⟩

theorem Sim.start {vals : List Value} {args : List SV} {n : Nat} {pins : Pins} (hS : ∀ i, S i → i < w.heap.size) (hh : HOk ρ φ S w (pk pins)) (hl : vals.length = args.length) (hr : ∀ (i : Nat) (v : Value) (s : SV), vals[i]? = some v → args[i]? = some s → Rep ρ S w v s) (hn : args.length ≤ n) (hn' : n ≤ 1000000) :
    Sim w (pinM ρ φ pins) S ρ φ S (St.start n args pins) { tmps := vals.toArray ++ Array.replicate (n - vals.length) undef, defers := [] } w := by
  refine ⟨by simp [St.start]; omega, rfl, fun t => ?_, hh, hS, fun _ hi => hi, fun _ hi => .inl hi, Nat.le_refl _, fun _ _ _ => rfl, fun b x hb hx => .inl (.inl ⟨b, hb, hx⟩), fun _ _ _ => rfl, hn', .refl w, fun _ => Nat.le_refl _⟩
  have : (St.start n args pins).get t = (args[t]?).getD .dead := by
    unfold St.get St.start
    simp only [numb_lookup]
    simp
  rw [this]
  cases e : args[t]? with
  | none => exact .dead _
  | some s =>
    have ht : t < vals.length := by rw [hl]; exact (List.getElem?_eq_some_iff.mp e).1
    have e2 : vals[t]? = some vals[t] := List.getElem?_eq_getElem ht
    have : ({ tmps := vals.toArray ++ Array.replicate (n - vals.length) undef, defers := [] } : Act).tmps.getD t undef = vals[t] := by
      simp [Array.getD_eq_getD_getElem?, Array.getElem?_append, ht]
    rw [this]
    exact hr t _ s e2 e

/-- What is asked where the code ends. -/
def Ends (T : Nat → Option TI) (rs : List ResultVar) (pins : Pins) (sh : Bool) (post : Pins → Out → Prop) : SQ
  | .normal, st => Leave T rs pins sh post st
  | .ret, st => Leave T rs pins sh post st
  | _, _ => False

theorem MSpec.of_code (hT : TOk P T) {f : Nat} {fn : Func} {c : Code} {pins : Pins} {args : List SV} {sh : Bool} {post : Pins → Out → Prop} {n : Nat} (hf : P.funcs[f]? = some fn) (hb : fn.body = some c) (hnt : fn.ntmps = n) {rs : List ResultVar} (hrs : fn.results.toList = rs) (hn : args.length ≤ n) (hn' : n ≤ 1000000)
    (h : ∀ (w0 : World) (S0 : Nat → Prop) (ρ0 : Nat → Option Loc) (φ0 : Nat → Nat → Prop), Swp ⟨P, w0, pinM ρ0 φ0 pins, S0, fun ch => post [] (.pan ch)⟩ c (St.start n args pins) (Ends T rs pins sh post)) : MSpec P f pins args sh post := by
  intro w S ρ φ vals hS hh hpin hl hr
  subst hnt hrs
  refine calls_of_wp hf hb ?_
  rw [List.size_toArray]
  have hsim := Sim.start hS hh hl hr hn hn'
  have hw := h w S ρ φ
  unfold Swp at hw
  refine wpm (hw _ w ⟨_, _, _, hsim⟩) fun e a' w' hq => ?_
  have key : ∀ st', Leave T fn.results.toList pins sh post st' → Holds w (pinM ρ φ pins) S st' a' w' → a'.defers = [] ∧ ∃ v, (results fn a'.tmps).run P w' = .ok v w' ∧ ∃ o pins' ρ' φ' S', post pins' o ∧ MPost S w ρ φ pins sh (.returned v) w' o pins' ρ' φ' S' := by
    rintro st' hlv ⟨ρ', φ', S', h'⟩
    obtain ⟨v, g1, o, ps, g2, g3⟩ := leave_ok (P := P) hT h' hpin hlv
    exact ⟨h'.defers, v, g1, o, ps, ρ', φ', _, g2, g3⟩
  cases e with
  | normal => obtain ⟨st', h1, h2⟩ := hq; exact key st' h1 h2
  | ret => obtain ⟨st', h1, h2⟩ := hq; exact key st' h1 h2
  | exit i => obtain ⟨st', h1, h2⟩ := hq; exact h1.elim
  | goto i => obtain ⟨st', h1, h2⟩ := hq; exact h1.elim
  | panic ch =>
    obtain ⟨st', h1, ρ', φ', S', h'⟩ := hq
    exact ⟨h'.defers, .pan ch, [], ρ', φ', _, h1, post_of (ps := []) (ns := []) h' hpin trivial (fun _ => rfl) rfl⟩
  | outgrown => exact hq.elim

end Go.Vcg
