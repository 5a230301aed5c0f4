/- The walk: symbolic states and their rules (Uc). -/
import Derived.Test.YtfmbifnbmlhhjaaUb
import Derived.Below
import Derived.Carry
import Derived.ChangeArms
import Derived.ChangeSlices
import Derived.DataReads
import Derived.Lib.MakeNoZero
import Derived.Laws.Externs
import Derived.Defers
import Derived.MapKept
import Derived.Laws.BytesString
import Derived.Laws.Strings
/- Loops that count; calls whose pins are named by their arguments; lookups behind a renaming. -/
namespace Go.Vcg

variable {C : Cx} {st : St} {Q : SQ} {K : St → Prop} {ops : Array Oper} {l : List Oper} {ks : List Kont}

theorem Swk.fin_mono {R R' : St → Prop} {c : Code} (h : Swk C Q (.fin R :: ks) c st) (hr : ∀ s, R s → R' s) : Swk C Q (.fin R' :: ks) c st := by
  unfold Swk at h ⊢
  refine Swp.mono h fun e s hs => ?_
  cases e with
  | normal => exact hr s hs
  | _ => exact hs

/-- A loop whose k-th round begins in the state I k; H: what else holds then. -/
theorem W.iter {c : Code} (I : Nat → St) (H : Nat → Prop) (N : Nat) (hw : Weak C st (I 0)) (h0 : H 0) (h : ∀ k, k ≤ N → H k → Swk C Q (.fin (fun s => k < N ∧ H (k + 1) ∧ Weak C s (I (k + 1))) :: ks) c (I k)) : Swk C Q ks (.loop c) st := by
  refine W.loop (fun m s => ∃ k, k ≤ N ∧ m = N - k ∧ H k ∧ s = I k) N (I 0) hw ⟨0, Nat.zero_le _, rfl, h0, rfl⟩ ?_
  rintro m s ⟨k, hk, rfl, hH, rfl⟩
  refine Swk.fin_mono (h k hk hH) ?_
  rintro s ⟨h1, h2, h3⟩
  exact ⟨N - (k + 1), by omega, _, h3, k + 1, by omega, rfl, h2, rfl⟩

/-! ## Pins that arguments name -/

def nmOf0 : SV → Nat
  | .sl b _ _ => b
  | .sa b _ _ _ _ => b
  | .pt b _ _ => b
  | .mr b => b
  | _ => 0
def nmOf : SV → Nat
  | .ifc _ s => nmOf0 s
  | s => nmOf0 s
/-- The name in argument i (its cell j; where it has no cells, j is the name itself). -/
def pinAt (args : List SV) (p : Nat × Nat × Option Nat) : Nat × Nat := (p.1, match p.2.2 with
  | none => nmOf (nth args p.2.1)
  | some j => match nth args p.2.1 with
    | .ag cs => nmOf (nth cs j)
    | _ => j)

section
variable {ty : Nat} {pos : String} {af : Array Edge} {st' : St} {g : Option (Nat × Bool)}
theorem O.cp {c : Call} {f : Nat} {d : Option Nat} (pa : List (Nat × Nat × Option Nat)) {bs : Bs} {pins ps : Pins} {args : List SV} {sh : Bool} {r : SV} (hsp : TSpec C.P f pins args sh ps r) (hk : CallOk C.P f) (hc : c.callee = .value (.func f)) (_hb0 : pa.map (pinAt (c.args.toList.map st.ev)) = bs)
    (hbs : bsOk bs = true) (hw : ∀ q ∈ bs, C.M.wr q.2)
    (hp : pinsOf st.blk (toPin bs) bs = some pins) (ha : (c.args.toList.map st.ev).map (argSV (lentB st bs sh) (toPin bs)) = args) (hd : dOk st.n d) (hi : impOk r) (hb : bindR (backs st bs ps) d r = st') (h : Sl C ops l st' K) :
    Sl C ops ({ dst := d, op := .call c, type := ty, pos := pos, after := af, guard := none } :: l) st K := O.c bs hsp hk hc hbs hw hp ha hd hi hb h
theorem X.cp {c : Call} {f : Nat} {d : Option Nat} (pa : List (Nat × Nat × Option Nat)) {bs : Bs} {pins ps : Pins} {args : List SV} {sh : Bool} {r : SV} (hsp : TSpec C.P f pins args sh ps r) (hk : CallOk C.P f) (hc : c.callee = .value (.func f)) (_hb0 : pa.map (pinAt (c.args.toList.map st.ev)) = bs)
    (hbs : bsOk bs = true) (hw : ∀ q ∈ bs, C.M.wr q.2)
    (hp : pinsOf st.blk (toPin bs) bs = some pins) (ha : (c.args.toList.map st.ev).map (argSV (lentB st bs sh) (toPin bs)) = args) (hd : dOk st.n d) (hi : impOk r) (hb : bindR (backs st bs ps) d r = st') (h : K st') :
    Sop C { dst := d, op := .call c, type := ty, pos := pos, after := af, guard := g } st K := X.c bs hsp hk hc hbs hw hp ha hd hi hb h
end
section
variable {P : Program} {W : Nat → Bool} {ws : List Nat} {pan : List PanicEntry → St → Prop} {fuel i : Nat} {listed : Array Bool} {st' : St}
theorem RA.cp {ty : Nat} {d : Option Nat} {pos : String} {af : Array Edge} {c : Call} {f : Nat} (pa : List (Nat × Nat × Option Nat)) {bs : Bs} {pins ps : Pins} {args : List SV} {sh : Bool} {r : SV} (hsp : TSpec P f pins args sh ps r) (hk : CallOk P f)
    (ho : nthO l i = some { dst := d, op := .call c, type := ty, pos := pos, after := af, guard := none }) (hr : Region.ready .any l.toArray listed = [i]) (hc : c.callee = .value (.func f)) (_hb0 : pa.map (pinAt (c.args.toList.map st.ev)) = bs) (hbs : bsOk bs = true) (hw : ∀ q ∈ bs, ws.contains i = true ∧ W q.2 = true)
    (hp : pinsOf st.blk (toPin bs) bs = some pins) (ha : (c.args.toList.map st.ev).map (argSV (lentB st bs sh) (toPin bs)) = args) (hd : dOk st.n d) (hi : impOk r) (hb : bindR (backs st bs ps) d r = st')
    (h : RA P W ws pan l.toArray fuel (listed.setIfInBounds i true) st' K) : RA P W ws pan l.toArray (fuel + 1) listed st K := RA.c1 bs hsp hk ho hr hc hbs hw hp ha hd hi hb h
theorem RX.cp {is : List Nat} {ty : Nat} {d : Option Nat} {pos : String} {af : Array Edge} {c : Call} {f : Nat} (pa : List (Nat × Nat × Option Nat)) {bs : Bs} {pins ps : Pins} {args : List SV} {sh : Bool} {r : SV} (hsp : TSpec P f pins args sh ps r) (hk : CallOk P f)
    (ho : nthO l i = some { dst := d, op := .call c, type := ty, pos := pos, after := af, guard := none }) (hc : c.callee = .value (.func f)) (_hb0 : pa.map (pinAt (c.args.toList.map st.ev)) = bs) (hbs : bsOk bs = true) (hw : ∀ q ∈ bs, ws.contains i = true ∧ W q.2 = true)
    (hp : pinsOf st.blk (toPin bs) bs = some pins) (ha : (c.args.toList.map st.ev).map (argSV (lentB st bs sh) (toPin bs)) = args) (hd : dOk st.n d) (hi : impOk r) (hb : bindR (backs st bs ps) d r = st')
    (h : RA P W ws pan l.toArray fuel (listed.setIfInBounds i true) st' K) (hr : RAll P W ws pan l.toArray fuel listed st K is) : RAll P W ws pan l.toArray fuel listed st K (i :: is) := RX.c bs hsp hk ho hc hbs hw hp ha hd hi hb h hr
end
/-- All names. -/
def anyW (_ : Nat) : Bool := true
theorem wr_nil {X : Nat × Nat → Prop} : ∀ q ∈ ([] : Bs), X q := fun _ h => by simp at h

/-! ## Lookups -/

theorem blk_ren_new (st : St) (d d' : Nat) (k : Bk) : (st.renWith d d' k).blk d' = some (k.sb d (renRef d')) := by rw [St.blk_renWith, if_pos rfl]
theorem blk_ren_old (st : St) (d d' : Nat) (k : Bk) (h : (d == d') = false) : (st.renWith d d' k).blk d = none := by rw [St.blk_renWith, if_neg (by simpa using h), if_pos rfl]
theorem blk_ren_ne (st : St) (d d' x : Nat) (k : Bk) (h : (x == d') = false) (h2 : (x == d) = false) : (st.renWith d d' k).blk x = (st.blk x).map (Bk.sb d (renRef d')) := by rw [St.blk_renWith, if_neg (by simpa using h), if_neg (by simpa using h2)]
theorem n_ren (st : St) (d d' : Nat) (k : Bk) : (st.renWith d d' k).n = st.n := rfl
theorem blk_frz_same (st : St) (b : Nat) (k : Bk) : (st.frzWith b k).blk b = none := by rw [St.blk_frzWith, if_pos rfl]
theorem blk_frz_ne (st : St) (b x : Nat) (k : Bk) (h : (x == b) = false) : (st.frzWith b k).blk x = (st.blk x).map (Bk.sb b (frzRef k)) := by rw [St.blk_frzWith, if_neg (by simpa using h)]
theorem n_frz (st : St) (b : Nat) (k : Bk) : (st.frzWith b k).n = st.n := rfl
theorem Bk.sb_c (d : Nat) (g : SV → SV) (k : Nat) (rows : Rows) : (Bk.c k rows).sb d g = .c k (sbRows d g rows) := rfl
theorem bsOk_nil : bsOk [] = true := rfl
theorem putAt_get (cs : List SV) : ∀ (row : List SV) (off j : Nat), off + cs.length ≤ row.length → (putAt row off cs)[j]? = if off ≤ j ∧ j < off + cs.length then cs[j - off]? else row[j]? := by
  induction cs with
  | nil =>
    intro row off j _
    rw [if_neg (by simp only [List.length_nil]; omega)]
    rfl
  | cons c cs ih =>
    intro row off j h
    simp only [List.length_cons] at h ⊢
    rw [putAt, ih _ _ _ (by simp; omega), List.getElem?_set]
    by_cases e : j = off
    · subst e
      rw [if_neg (by omega), if_pos rfl, if_pos (by omega), if_pos (by omega), Nat.sub_self]
      rfl
    · by_cases h2 : off + 1 ≤ j ∧ j < off + 1 + cs.length
      · rw [if_pos h2, if_pos (by omega), show j - off = (j - (off + 1)) + 1 from by omega, List.getElem?_cons_succ]
      · rw [if_neg h2, if_neg (by omega), if_neg (by omega)]
theorem putAt_all (row cs : List SV) (h : cs.length = row.length) : putAt row 0 cs = cs := by
  apply List.ext_getElem?
  intro j
  rw [putAt_get cs row 0 j (by omega)]
  by_cases hj : j < cs.length
  · rw [if_pos (by omega), Nat.sub_zero]
  · rw [if_neg (by omega), List.getElem?_eq_none (by omega), List.getElem?_eq_none (by omega)]

attribute [go_sem] nmOf nmOf0 pinAt anyW St.get_renWith blk_ren_new blk_ren_old blk_ren_ne n_ren St.get_frzWith blk_frz_same blk_frz_ne n_frz bsOk_nil

end Go.Vcg
/- Rows of operations, as far as they go without a call. -/
namespace Go.Vcg

variable {C : Cx} {st : St} {Q : SQ} {K : St → Prop} {ops : Array Oper} {l : List Oper} {ks : List Kont}

/-- One operation: what it wants, and the state behind it. -/
def stepO (T : Nat → Option TI) (wr : Nat → Prop) (ops : Array Oper) (st : St) (o : Oper) : Option (Prop × St) := match o.guard with
  | none => match o.dst with
    | some d => match pev T st st.ev o.op with
      | some (side, sv) => some (d < st.n ∧ side, st.set d sv)
      | none => xop T wr st (some d) o.op
    | none => xop T wr st none o.op
  | some (j, want) => match ops[j]?, o.dst with
    | some oj, some d => match oj.dst with
      | some e => match gVal (st.get e) with
        | some (c, g) => match pev T st (fun x => (st.ev x).assume (gWant want c g)) o.op with
          | some (side, sv) => some (e < st.n ∧ d < st.n ∧ (gWant want c g = true → side), st.set d (.cn (gWant want c g) sv))
          | none => none
        | none => none
      | none => none
    | _, _ => none

theorem stepO_ok {T : Nat → Option TI} (hT : TOk C.P T) {o : Oper} {p : Prop} {st' : St} (he : stepO T C.M.wr ops st o = some (p, st')) (hp : p) (hK : K st') : So C ops o st K := by
  unfold stepO at he
  split at he
  · rename_i hg
    split at he
    · rename_i d hd
      split at he
      · rename_i side sv hpe
        obtain ⟨rfl, rfl⟩ := Prod.mk.inj (Option.some.inj he)
        exact So.op hg (Sop.pure hT hpe hp.2 (by rw [hd]; exact hp.1) (by rw [hd]; exact hK))
      · exact So.op hg (xop_ok hT (by rw [hd]; exact he) hp hK)
    · rename_i hd
      exact So.op hg (xop_ok hT (by rw [hd]; exact he) hp hK)
  · rename_i j want hg
    split at he <;> try (cases he; done)
    rename_i oj d hj hd
    split at he <;> try (cases he; done)
    rename_i e hdj
    split at he <;> try (cases he; done)
    rename_i c g hv
    split at he <;> try (cases he; done)
    rename_i side sv hpe
    obtain ⟨rfl, rfl⟩ := Prod.mk.inj (Option.some.inj he)
    exact So.guardPure hT hg hj hdj hp.1 hv (by rw [hd]; exact hp.2.1) hpe hp.2.2 (by rw [hd]; exact hK)

def runM (T : Nat → Option TI) (wr : Nat → Prop) (ops : Array Oper) : List Oper → St → Prop × St × List Oper
  | [], st => (True, st, [])
  | o :: l, st => match stepO T wr ops st o with
    | some (p, st1) => (p ∧ (runM T wr ops l st1).1, (runM T wr ops l st1).2.1, (runM T wr ops l st1).2.2)
    | none => (True, st, o :: l)
theorem runM_ok {T : Nat → Option TI} (hT : TOk C.P T) : ∀ (l : List Oper) (st : St), (runM T C.M.wr ops l st).1 → Sl C ops (runM T C.M.wr ops l st).2.2 (runM T C.M.wr ops l st).2.1 K → Sl C ops l st K := by
  intro l
  induction l with
  | nil => intro st _ h; exact h
  | cons o l ih =>
    intro st hp h
    rw [runM] at hp h
    split at hp
    · rename_i p st1 he
      rw [he] at h
      exact Sl.cons (stepO_ok hT he hp.1 (ih st1 hp.2 h))
    · rename_i he
      rw [he] at h
      exact h
/-- At least one operation, and all that follow as far as it goes. -/
theorem O.run {T : Nat → Option TI} (hT : TOk C.P T) {o : Oper} {p q : Prop} {st1 st' : St} {rest : List Oper} (h1 : stepO T C.M.wr ops st o = some (p, st1)) (h2 : runM T C.M.wr ops l st1 = (q, st', rest)) (hp : p) (hq : q) (h : p → q → Sl C ops rest st' K) : Sl C ops (o :: l) st K :=
  Sl.cons (stepO_ok hT h1 hp (runM_ok hT l st1 (by rw [h2]; exact hq) (by rw [h2]; exact h hp hq)))

end Go.Vcg
/- Rows made of a list of things, row by row; marked lists; sums of sizes. -/
namespace Go.Vcg
open Go.IntWalk

/-! ## Lists, step by step -/

theorem getD_set_self {α : Type} (l : List α) (i : Nat) (a d : α) (h : i < l.length) : (l.set i a).getD i d = a := by
  rw [List.getD_eq_getElem?_getD, List.getElem?_set_self h]; rfl
theorem take_step {α : Type} (d : α) (z : α) (xs : List α) (k : Nat) (h : k < xs.length) : (xs.take k ++ List.replicate (xs.length - k) z).set k (xs.getD k d) = xs.take (k + 1) ++ List.replicate (xs.length - (k + 1)) z := by
  have h1 : (xs.take k).length = k := by rw [List.length_take]; omega
  have h2 : xs.length - k = (xs.length - (k + 1)) + 1 := by omega
  rw [List.set_append_right _ _ (by omega), h1, Nat.sub_self, h2, List.replicate_succ, List.set_cons_zero, List.getD_eq_getElem?_getD]
  rw [← List.take_append_getElem h, List.append_assoc, List.getElem?_eq_getElem h]
  rfl
theorem take_eq_step {α : Type} (d : α) (xs ys : List α) (k : Nat) (h1 : k < xs.length) (h2 : k < ys.length) (h : xs.take k = ys.take k) (he : xs.getD k d = ys.getD k d) : xs.take (k + 1) = ys.take (k + 1) := by
  rw [← List.take_append_getElem h1, ← List.take_append_getElem h2, h]
  rw [List.getD_eq_getElem?_getD, List.getD_eq_getElem?_getD, List.getElem?_eq_getElem h1, List.getElem?_eq_getElem h2] at he
  rw [show xs[k] = ys[k] from he]
theorem take_all_eq {α : Type} {xs ys : List α} {k : Nat} (h : xs.take k = ys.take k) (h1 : k = xs.length) (h2 : xs.length = ys.length) : xs = ys := by
  rw [h1, List.take_length, h2, List.take_length] at h; exact h
theorem set_step {α : Type} (d : α) (xs ys : List α) (k : Nat) (h : k < xs.length) (hl : ys.length = xs.length) : (ys.take k ++ xs.drop k).set k (ys.getD k d) = ys.take (k + 1) ++ xs.drop (k + 1) := by
  have h1 : (ys.take k).length = k := by rw [List.length_take]; omega
  have hk : k < ys.length := by omega
  rw [List.set_append_right _ _ (by omega), h1, Nat.sub_self, List.drop_eq_getElem_cons h, List.set_cons_zero, List.getD_eq_getElem?_getD, List.getElem?_eq_getElem hk]
  rw [← List.take_append_getElem hk, List.append_assoc]
  rfl
theorem take_drop_all {α : Type} (xs ys : List α) (h : ys.length = xs.length) : ys.take xs.length ++ xs.drop xs.length = ys := by
  rw [← h, List.take_length, h, List.drop_length, List.append_nil]
theorem td_getD {α : Type} (xs ys : List α) (k : Nat) (d : α) (hl : ys.length = xs.length) (h : k < xs.length) : (ys.take k ++ xs.drop k).getD k d = xs.getD k d := by
  have h1 : (ys.take k).length = k := by rw [List.length_take]; omega
  rw [List.getD_eq_getElem?_getD, List.getElem?_append_right (by omega), h1, Nat.sub_self, List.getElem?_drop, Nat.add_zero, List.getD_eq_getElem?_getD]
theorem td_length {α : Type} (xs ys : List α) (k : Nat) (hl : ys.length = xs.length) (h : k ≤ xs.length) : (ys.take k ++ xs.drop k).length = xs.length := by
  rw [List.length_append, List.length_take, List.length_drop]; omega
theorem tr_length {α : Type} (xs : List α) (k : Nat) (z : α) (h : k ≤ xs.length) : (xs.take k ++ List.replicate (xs.length - k) z).length = xs.length := by
  rw [List.length_append, List.length_take, List.length_replicate]; omega
theorem decide_ne_of_take {α : Type} [DecidableEq α] {xs ys : List α} (d : α) (k : Nat) (h : ¬ xs.getD k d = ys.getD k d) : decide (xs = ys) = false := decide_eq_false fun e => h (by rw [e])

theorem app_getD {α : Type} (l : List α) (x d : α) (k : Nat) (h : l.length = k) : (l ++ [x]).getD k d = x := by
  subst h; rw [List.getD_eq_getElem?_getD, List.getElem?_append_right (Nat.le_refl _), Nat.sub_self]; rfl
theorem app_set {α : Type} (l : List α) (x y : α) (k : Nat) (h : l.length = k) : (l ++ [x]).set k y = l ++ [y] := by
  subst h; rw [List.set_append_right _ _ (Nat.le_refl _), Nat.sub_self]; rfl

theorem forall_step {p : Nat → Prop} {k : Nat} (h : ∀ i, i < k → p i) (hk : p k) : ∀ i, i < k + 1 → p i := fun i hi => by
  by_cases e : i < k
  · exact h i e
  · obtain rfl : i = k := by omega
    exact hk
theorem forall_zero {p : Nat → Prop} : ∀ i, i < 0 → p i := fun i hi => absurd hi (Nat.not_lt_zero i)

/-! ## Rows, thing by thing -/

def encL {α : Type} (f : α → List SV) (xs : List α) : Rows := xs.map f
section
variable {α : Type} (f : α → List SV)
theorem encL_length (xs : List α) : (encL f xs).length = xs.length := by simp [encL]
theorem encL_getD [Inhabited α] (xs : List α) (k : Nat) (h : k < xs.length) : (encL f xs).getD k [] = f (xs.getD k default) := by
  simp [encL, List.getD_eq_getElem?_getD, h]
theorem encL_nil : encL f [] = [] := rfl
theorem encL_cons (x : α) (xs : List α) : encL f (x :: xs) = f x :: encL f xs := rfl
theorem encL_append (xs ys : List α) : encL f xs ++ encL f ys = encL f (xs ++ ys) := by simp [encL]
theorem encL_take (n : Nat) (xs : List α) : (encL f xs).take n = encL f (xs.take n) := by simp [encL, List.map_take]
theorem encL_drop (n : Nat) (xs : List α) : (encL f xs).drop n = encL f (xs.drop n) := by simp [encL, List.map_drop]
theorem encL_isEmpty (xs : List α) : (encL f xs).isEmpty = xs.isEmpty := by cases xs <;> rfl
theorem encL_clo (hf : ∀ x, cloRow (f x) = true) (xs : List α) : cloRows (encL f xs) = true := List.all_eq_true.mpr fun r hr => by obtain ⟨x, _, rfl⟩ := List.mem_map.mp hr; exact hf x
theorem encL_shut (hf : ∀ x, shutL (f x) = true) (xs : List α) : shutRows (encL f xs) = true := by
  rw [shutRows_eq]; exact List.all_eq_true.mpr fun r hr => by obtain ⟨x, _, rfl⟩ := List.mem_map.mp hr; rw [← shutL_eq]; exact hf x
theorem encL_dup (hf : ∀ x, (f x).all SV.dup = true) (xs : List α) : dupRows (encL f xs) = true := List.all_eq_true.mpr fun r hr => by obtain ⟨x, _, rfl⟩ := List.mem_map.mp hr; exact hf x
theorem encL_frz {g : α → List SV} (hf : ∀ x, frzL (f x) = g x) (xs : List α) : frzRows (encL f xs) = encL g xs := by
  rw [frzRows_eq]
  unfold encL
  rw [List.map_map]
  exact List.map_congr_left fun x _ => by rw [Function.comp_apply, ← hf x, frzL_eq]
theorem encL_rowsLen {n : Nat} (hf : ∀ x, (f x).length = n) (xs : List α) : RowsLen (encL f xs) n = True := eq_true fun r hr => by obtain ⟨x, _, rfl⟩ := List.mem_map.mp hr; exact hf x
theorem to_stepL [Inhabited α] (z : List SV) (xs : List α) (k : Nat) (h : k < xs.length) : (encL f (xs.take k) ++ List.replicate (xs.length - k) z).set k (f (xs.getD k default)) = encL f (xs.take (k + 1)) ++ List.replicate (xs.length - (k + 1)) z := by
  have := take_step [] z (encL f xs) k (by rw [encL_length]; exact h)
  rw [encL_length, encL_getD f xs k h, encL_take, encL_take] at this
  exact this
theorem to_allL (z : List SV) (xs : List α) : encL f (xs.take xs.length) ++ List.replicate (xs.length - xs.length) z = encL f xs := by
  rw [List.take_length, Nat.sub_self, List.replicate_zero, List.append_nil]
theorem to_lengthL (z : List SV) (xs : List α) (k : Nat) (h : k ≤ xs.length) : (encL f (xs.take k) ++ List.replicate (xs.length - k) z).length = xs.length := by
  rw [List.length_append, encL_length, List.length_take, List.length_replicate]; omega
theorem to_getDL (z : List SV) (xs : List α) (k : Nat) (h : k < xs.length) : (encL f (xs.take k) ++ List.replicate (xs.length - k) z).getD k [] = z := by
  have h1 : (encL f (xs.take k)).length = k := by rw [encL_length, List.length_take]; omega
  rw [List.getD_eq_getElem?_getD, List.getElem?_append_right (by omega), h1, Nat.sub_self, List.getElem?_replicate, if_pos (by omega)]; rfl
theorem mk_stepL [Inhabited α] (xs ys : List α) (k : Nat) (h : k < xs.length) (hl : ys.length = xs.length) : (encL f (ys.take k ++ xs.drop k)).set k (f (ys.getD k default)) = encL f (ys.take (k + 1) ++ xs.drop (k + 1)) := by
  rw [← set_step default xs ys k h hl]
  simp [encL, List.map_set]
end

/-! ## What is marked, how much there is -/

def sumN {α : Type} (ct : α → Nat) : List α → Nat
  | [] => 0
  | x :: xs => ct x + sumN ct xs
theorem sumN_nil {α : Type} (ct : α → Nat) : sumN ct [] = 0 := rfl
def mkS {α : Type} (mk : Int → α → α) (ct : α → Nat) : Int → List α → List α
  | _, [] => []
  | b, x :: xs => mk b x :: mkS mk ct (b + ct x) xs
section
variable {α : Type} (ct : α → Nat) (mk : Int → α → α)
theorem sumN_append (xs ys : List α) : sumN ct (xs ++ ys) = sumN ct xs + sumN ct ys := by
  induction xs with
  | nil => simp [sumN]
  | cons x xs ih => simp only [List.cons_append, sumN, ih]; omega
theorem sumN_step [Inhabited α] (xs : List α) (k : Nat) (h : k < xs.length) : sumN ct (xs.take (k + 1)) = sumN ct (xs.take k) + ct (xs.getD k default) := by
  rw [← List.take_append_getElem h, sumN_append, List.getD_eq_getElem?_getD, List.getElem?_eq_getElem h]; rfl
theorem sumN_le (xs : List α) (k : Nat) : sumN ct (xs.take k) ≤ sumN ct xs := by
  have := sumN_append ct (xs.take k) (xs.drop k)
  rw [List.take_append_drop] at this
  omega
theorem sumN_get [Inhabited α] (xs : List α) (k : Nat) (h : k < xs.length) : sumN ct (xs.take k) + ct (xs.getD k default) ≤ sumN ct xs := by
  rw [← sumN_step ct xs k h]; exact sumN_le ct xs (k + 1)
theorem mkS_length (b : Int) (xs : List α) : (mkS mk ct b xs).length = xs.length := by
  induction xs generalizing b with
  | nil => rfl
  | cons x xs ih => simp [mkS, ih]
theorem mkS_getD [Inhabited α] (b : Int) (xs : List α) (k : Nat) (h : k < xs.length) : (mkS mk ct b xs).getD k default = mk (b + sumN ct (xs.take k)) (xs.getD k default) := by
  induction xs generalizing b k with
  | nil => simp at h
  | cons x xs ih =>
    cases k with
    | zero => simp [mkS, sumN]
    | succ k =>
      have := ih (b + ct x) k (by simpa using h)
      simp only [mkS, List.getD_cons_succ, List.take_succ_cons, sumN]
      rw [this]
      congr 1
      omega
end
theorem mk_nextL {α : Type} [Inhabited α] (f : α → List SV) (mk : Int → α → α) (ct : α → Nat) (b : Int) (xs : List α) (k : Nat) (h : k < xs.length) : (encL f ((mkS mk ct b xs).take k ++ xs.drop k)).set k (f (mk (b + sumN ct (xs.take k)) (xs.getD k default))) = encL f ((mkS mk ct b xs).take (k + 1) ++ xs.drop (k + 1)) := by
  have := mk_stepL f xs (mkS mk ct b xs) k h (mkS_length ct mk b xs)
  rw [mkS_getD ct mk b xs k h] at this
  exact this
/-- The bytes of a marked slice. -/
def markL (k : IntKind) (b : Int) (n : Nat) : List Int := (List.range n).map fun (i : Nat) => k.wrap (b + i)
theorem markL_length (k : IntKind) (b : Int) (n : Nat) : (markL k b n).length = n := by simp [markL]
theorem markL_getD (k : IntKind) (b : Int) (n i : Nat) (h : i < n) : (markL k b n).getD i 0 = k.wrap (b + i) := by simp [markL, List.getD_eq_getElem?_getD, h]

/-! ## Calls, the contract last -/

section
variable {C : Cx} {st st' : St} {K : St → Prop} {ops : Array Oper} {l : List Oper} {ty : Nat} {pos : String} {af : Array Edge} {g : Option (Nat × Bool)}
theorem O.k {c : Call} {f : Nat} {d : Option Nat} (sh : Bool) (pa : List (Nat × Nat × Option Nat)) {bs : Bs} {pins ps : Pins} {args : List SV} {r : SV} (hk : CallOk C.P f) (hc : c.callee = .value (.func f)) (_hb0 : pa.map (pinAt (c.args.toList.map st.ev)) = bs)
    (hbs : bsOk bs = true) (hw : ∀ q ∈ bs, C.M.wr q.2) (hp : pinsOf st.blk (toPin bs) bs = some pins) (ha : (c.args.toList.map st.ev).map (argSV (lentB st bs sh) (toPin bs)) = args) (hsp : TSpec C.P f pins args sh ps r) (hd : dOk st.n d) (hi : impOk r) (hb : bindR (backs st bs ps) d r = st') (h : Sl C ops l st' K) :
    Sl C ops ({ dst := d, op := .call c, type := ty, pos := pos, after := af, guard := none } :: l) st K := O.c bs hsp hk hc hbs hw hp ha hd hi hb h
end
section
variable {P : Program} {W : Nat → Bool} {ws : List Nat} {pan : List PanicEntry → St → Prop} {fuel i : Nat} {listed : Array Bool} {st st' : St} {K : St → Prop} {l : List Oper}
theorem RA.k {ty : Nat} {d : Option Nat} {pos : String} {af : Array Edge} {c : Call} {f : Nat} (sh : Bool) (pa : List (Nat × Nat × Option Nat)) {bs : Bs} {pins ps : Pins} {args : List SV} {r : SV} (hk : CallOk P f)
    (ho : nthO l i = some { dst := d, op := .call c, type := ty, pos := pos, after := af, guard := none }) (hr : Region.ready .any l.toArray listed = [i]) (hc : c.callee = .value (.func f)) (_hb0 : pa.map (pinAt (c.args.toList.map st.ev)) = bs) (hbs : bsOk bs = true) (hw : ∀ q ∈ bs, ws.contains i = true ∧ W q.2 = true)
    (hp : pinsOf st.blk (toPin bs) bs = some pins) (ha : (c.args.toList.map st.ev).map (argSV (lentB st bs sh) (toPin bs)) = args) (hsp : TSpec P f pins args sh ps r) (hd : dOk st.n d) (hi : impOk r) (hb : bindR (backs st bs ps) d r = st')
    (h : RA P W ws pan l.toArray fuel (listed.setIfInBounds i true) st' K) : RA P W ws pan l.toArray (fuel + 1) listed st K := RA.c1 bs hsp hk ho hr hc hbs hw hp ha hd hi hb h
theorem RX.k {is : List Nat} {ty : Nat} {d : Option Nat} {pos : String} {af : Array Edge} {c : Call} {f : Nat} (sh : Bool) (pa : List (Nat × Nat × Option Nat)) {bs : Bs} {pins ps : Pins} {args : List SV} {r : SV} (hk : CallOk P f)
    (ho : nthO l i = some { dst := d, op := .call c, type := ty, pos := pos, after := af, guard := none }) (hc : c.callee = .value (.func f)) (_hb0 : pa.map (pinAt (c.args.toList.map st.ev)) = bs) (hbs : bsOk bs = true) (hw : ∀ q ∈ bs, ws.contains i = true ∧ W q.2 = true)
    (hp : pinsOf st.blk (toPin bs) bs = some pins) (ha : (c.args.toList.map st.ev).map (argSV (lentB st bs sh) (toPin bs)) = args) (hsp : TSpec P f pins args sh ps r) (hd : dOk st.n d) (hi : impOk r) (hb : bindR (backs st bs ps) d r = st')
    (h : RA P W ws pan l.toArray fuel (listed.setIfInBounds i true) st' K) (hr : RAll P W ws pan l.toArray fuel listed st K is) : RAll P W ws pan l.toArray fuel listed st K (i :: is) := RX.c bs hsp hk ho hc hbs hw hp ha hd hi hb h hr
end

theorem chunks_zero (row : List SV) (k : Nat) : chunks row k 0 = [] := rfl
theorem chunks_one (row : List SV) (k : Nat) : chunks row k 1 = [row.take k] := by simp [chunks, List.range_succ]
theorem chunks_two (row : List SV) (k : Nat) : chunks row k 2 = [row.take k, (row.drop k).take k] := by simp [chunks, List.range_succ]
theorem chunks_three (row : List SV) (k : Nat) : chunks row k 3 = [row.take k, (row.drop k).take k, (row.drop (2 * k)).take k] := by simp [chunks, List.range_succ]
attribute [go_sem] chunks_one chunks_two chunks_three Nat.one_mul Nat.mul_one Nat.zero_mul Nat.mul_zero List.replicate_one killRows_cons killRows_nil rnRows_cons rnRows_nil sbRows_cons sbRows_nil cloRows_cons cloRow_cons cloRows_nil cloRow_nil chunks_zero Bool.not_not Bool.or_not_self Bool.not_or_self sumN_nil encL_length encL_nil List.set_set markL_length mkS_length
attribute [go_sem] lendRows_nil lendRows_cons lendRows_clo encI_nil encI_getD i64_in u8_in u32_in u16_in u64_in getD_set_self td_getD td_length tr_length markL_getD encL_getD to_lengthL to_getDL killRows_clo rnRows_clo sbRows_clo cloRows_set cloRows_append cloRows_replicate encI_clo encI_frz encI_shut List.take_of_length_le mkS_getD app_getD app_set
attribute [simp] markL_length mkS_length encL_length

end Go.Vcg
/- From a contract to the row's own words: the law returns true and leaves all as it was. -/
namespace Go.Vcg
open Go.RowKit

/-- All blocks that are there. -/
def allBlk (w : World) (i : Nat) : Prop := i < w.heap.size

theorem TSpec.law {P : Program} {f : Nat} {args : List SV} (h : TSpec P f [] args false [] (.pl (.bool true))) (w : World) (vals : List Value) (hl : vals.length = args.length) (hr : ∀ (i : Nat) (v : Value) (s : SV), vals[i]? = some v → args[i]? = some s → RepP (allBlk w) w v s) :
    Calls P f vals.toArray w fun e w' => e = .returned (.bool true) ∧ Below w.heap.size w w' := by
  have hn : ∀ b, pk [] b ≠ none → False := fun b hb => hb rfl
  refine (h w (allBlk w) (fun _ => none) (fun _ _ => False) vals (fun _ hi => hi) ⟨fun b k hb => (by cases hb), fun b _ _ hb => (hn b hb).elim, fun b _ hb => (hn b hb).elim, fun b _ hb => (hn b hb).elim, fun b _ hb => (hn b hb).elim⟩ (fun b hb => (hn b hb).elim) hl fun i v s h1 h2 => .per (hr i v s h1 h2)).mono ?_
  rintro e w' ⟨o, ps, ρ', φ', S', ⟨rfl, rfl⟩, hM⟩
  obtain ⟨v, rfl, F, h1, _⟩ := hM.out
  refine ⟨?_, hM.wide.1.1, hM.wide.1.2.1, hM.wide.1.2.2, hM.grow, fun k hk => hM.keep k hk fun ⟨b, hb, _⟩ => hn b hb⟩
  cases h1 with
  | per h => cases h; rfl

end Go.Vcg
/- What the reading of an argument shows: its cells are there, and what they hold. -/
namespace Go.Vcg

section
variable {H : Type} {enc : TypeId × Value → H} {P : Program} {w : World} {t e : TypeId} {cs : List Value}

/-- The cells are read; no slice in them is larger than memory. -/
def Rd (enc : TypeId × Value → H) (P : Program) (w : World) (t : TypeId) (cs : List Value) : Prop := ∃ fuel d ps, DataW.trod enc P w 0 (fun _ => true) true fuel t cs = some (d, ps) ∧ ∀ x ∈ d.weights P t, x ≤ reachBytes

theorem weightsAll_mem {P : Program} {e : TypeId} : ∀ {l : List (DataW H)} {i : Nat} {d : DataW H}, l[i]? = some d → ∀ x ∈ d.weights P e, x ∈ DataW.weightsAll P e l
  | [], i, d, h, x, hx => by simp at h
  | d0 :: l, 0, d, h, x, hx => by
    simp only [List.getElem?_cons_zero, Option.some.injEq] at h
    subst h
    rw [DataW.weightsAll]
    exact List.mem_append_left _ hx
  | d0 :: l, i + 1, d, h, x, hx => by
    rw [DataW.weightsAll]
    exact List.mem_append_right _ (weightsAll_mem (l := l) (i := i) (by simpa using h) x hx)
theorem weightsEach_mem {P : Program} : ∀ {ts : List TypeId} {l : List (DataW H)} {i : Nat} {t : TypeId} {d : DataW H}, ts[i]? = some t → l[i]? = some d → ∀ x ∈ d.weights P t, x ∈ DataW.weightsEach P ts l
  | [], _, i, _, _, h, _, x, hx => by simp at h
  | _ :: _, [], i, _, _, _, h, x, hx => by simp at h
  | t0 :: ts, d0 :: l, 0, t, d, h, h', x, hx => by
    simp only [List.getElem?_cons_zero, Option.some.injEq] at h h'
    subst h; subst h'
    rw [DataW.weightsEach]
    exact List.mem_append_left _ hx
  | t0 :: ts, d0 :: l, i + 1, t, d, h, h', x, hx => by
    rw [DataW.weightsEach]
    exact List.mem_append_right _ (weightsEach_mem (ts := ts) (l := l) (i := i) (by simpa using h) (by simpa using h') x hx)

theorem Rd.int {k : IntKind} (ht : P.underlying t = some (.int k)) (h : Rd enc P w t cs) : ∃ n, cs = [.int k n] ∧ (Lit.int k n).wf = true := by
  obtain ⟨fuel, d, ps, h1, _⟩ := h
  obtain ⟨n, h2, _, h3⟩ := DataW.trod_int ht h1
  exact ⟨n, h2, h3⟩
theorem Rd.bool (ht : P.underlying t = some .bool) (h : Rd enc P w t cs) : ∃ b, cs = [.bool b] := by
  obtain ⟨fuel, d, ps, h1, _⟩ := h
  obtain ⟨b, h2, _⟩ := DataW.trod_bool ht h1
  exact ⟨b, h2⟩
theorem Rd.str (ht : P.underlying t = some .string) (h : Rd enc P w t cs) : ∃ s : ByteArray, cs = [.string s] ∧ s.size ≤ reachBytes := by
  obtain ⟨fuel, d, ps, h1, hw⟩ := h
  obtain ⟨s, h2, h3, _⟩ := DataW.trod_string ht h1
  obtain ⟨rfl, _⟩ := Prod.mk.inj h3
  refine ⟨s, h2, ?_⟩
  have := hw s.data.toList.length (by simp [DataW.weights])
  simpa using this
theorem Rd.slice (ht : P.underlying t = some (.slice e)) (hb : 0 < P.bytesOf e) (h : Rd enc P w t cs) : cs = [.slice none 0 0] ∨
    ∃ (a : Addr) (len cap : Nat), cs = [.slice (some a) len cap] ∧ len ≤ cap ∧ len ≤ reachBytes ∧ ∀ i, i < len → ∃ row, w.cells? 0 (a.add (i * P.cellsOf e)) (P.cellsOf e) = some row ∧ Rd enc P w e row := by
  obtain ⟨fuel, d, ps, h1, hw⟩ := h
  rcases DataW.trod_slice ht h1 with ⟨h2, _⟩ | ⟨a, len, cap, elems, rest, n, rfl, rfl, hx, _, hl, _, hlen, hel, _⟩
  · exact .inl h2
  · refine .inr ⟨a, len, cap, rfl, hl, ?_, fun i hi => ?_⟩
    all_goals
      obtain ⟨rfl, _⟩ := Prod.mk.inj hx
      rw [DataW.weights, ht] at hw
      simp only [List.length_map] at hw
    · have h3 := hw _ (List.mem_cons_self ..)
      have h4 : elems.length * 1 ≤ (elems.length + rest.length) * P.bytesOf e := Nat.mul_le_mul (by omega) hb
      omega
    · have h3 := hel i hi
      have h4 : i < elems.length := by omega
      rw [List.getElem?_eq_getElem h4, Option.bind_eq_some_iff] at h3
      obtain ⟨row, h5, h6⟩ := h3
      refine ⟨row, h5, n, elems[i].1, elems[i].2, h6, fun x hx => hw x ?_⟩
      refine List.mem_cons_of_mem _ (List.mem_append_left _ ?_)
      exact weightsAll_mem (i := i) (by rw [List.getElem?_map, List.getElem?_eq_getElem h4]; rfl) x hx
theorem Rd.struct {fs : Array Field} (ht : P.underlying t = some (.struct fs)) (h : Rd enc P w t cs) : cs.length = P.cellsOf t ∧ ∀ (i : Nat) (f : Field), fs[i]? = some f → Rd enc P w f.type ((cs.drop f.offset).take (P.cellsOf f.type)) := by
  obtain ⟨fuel, d, ps, h1, hw⟩ := h
  obtain ⟨xs, n, rfl, hx, hl, hs, hf⟩ := DataW.trod_struct ht h1
  obtain ⟨rfl, _⟩ := Prod.mk.inj hx
  refine ⟨hl, fun i f hi => ?_⟩
  have h2 := hf i f hi
  have hi' : i < xs.length := by rw [hs]; exact (Array.getElem?_eq_some_iff.mp hi).1
  rw [List.getElem?_eq_getElem hi'] at h2
  refine ⟨n, xs[i].1, xs[i].2, h2, fun x hx => hw x ?_⟩
  rw [DataW.weights, ht]
  exact weightsEach_mem (i := i) (t := f.type) (d := xs[i].1) (by rw [List.getElem?_map, Array.getElem?_toList, hi]; rfl) (by rw [List.getElem?_map, List.getElem?_eq_getElem hi']; rfl) x hx
end

/-! ## What the cells are -/

/-- The cells of a value, as a row that is kept for good. -/
structure RowRep (w : World) (cs : List Value) (row : List SV) : Prop where
  len : cs.length = row.length
  rep : ∀ (j : Nat) (v : Value) (s : SV), cs[j]? = some v → row[j]? = some s → RepP (allBlk w) w v s ∧ v.oneCell' = true

/-- Whatever is read as a t is an A: its row is f a, and ok holds. -/
def EncP {H : Type} (enc : TypeId × Value → H) (P : Program) (w : World) (t : TypeId) {A : Type} (f : A → List SV) (ok : A → Prop) : Prop := ∀ cs, Rd enc P w t cs → ∃ a, RowRep w cs (f a) ∧ ok a

theorem RowRep.append {w : World} {cs ds : List Value} {r r' : List SV} (h : RowRep w cs r) (h' : RowRep w ds r') : RowRep w (cs ++ ds) (r ++ r') := by
  refine ⟨by rw [List.length_append, List.length_append, h.len, h'.len], fun j v s h1 h2 => ?_⟩
  rw [List.getElem?_append] at h1 h2
  rw [h.len] at h1
  by_cases e : j < r.length
  · rw [if_pos e] at h1 h2; exact h.rep j v s h1 h2
  · rw [if_neg e] at h1 h2; exact h'.rep _ v s h1 h2
theorem RowRep.one {w : World} {v : Value} {s : SV} (h : RepP (allBlk w) w v s) (h1 : v.oneCell' = true) : RowRep w [v] [s] := by
  refine ⟨rfl, fun j v' s' e1 e2 => ?_⟩
  cases j with
  | zero =>
    simp only [List.getElem?_cons_zero, Option.some.injEq] at e1 e2
    subst e1; subst e2
    exact ⟨h, h1⟩
  | succ j => simp at e1

section
variable {H : Type} {enc : TypeId × Value → H} {P : Program} {w : World} {t e : TypeId}
theorem EncP.int {k : IntKind} (ht : P.underlying t = some (.int k)) : EncP enc P w t (fun n : Int => [.pl (.int k n)]) (fun n => (Lit.int k n).wf = true) := fun cs h => by
  obtain ⟨n, rfl, hw⟩ := h.int ht
  exact ⟨n, .one (.pl _) rfl, hw⟩

theorem cells_mem {w : World} {a : Addr} {n : Nat} {row : List Value} (h : w.cells? 0 a n = some row) : row.length = n ∧ ∀ j v, row[j]? = some v → w.cell? (a.add j) = some v := by
  obtain ⟨_, h1, h2⟩ := World.cells?_some h
  refine ⟨h1, fun j v hj => ?_⟩
  have hj' : j < n := by rw [← h1]; exact (List.getElem?_eq_some_iff.mp hj).1
  rw [h2 j hj', hj]

theorem EncP.slice {A : Type} [Inhabited A] {f : A → List SV} {ok : A → Prop} (ht : P.underlying t = some (.slice e)) (hb : 0 < P.bytesOf e) (hc : 0 < P.cellsOf e) (he : EncP enc P w e f ok) :
    EncP enc P w t (fun xs : List A => [.pd (encL f xs)]) (fun xs => xs.length ≤ reachBytes ∧ ∀ i, i < xs.length → ok (xs.getD i default)) := fun cs h => by
  rcases h.slice ht hb with rfl | ⟨a, len, cap, rfl, h1, h2, h3⟩
  · exact ⟨[], .one (.pd0 none 0) rfl, by simp, fun i hi => by simp at hi⟩
  · have hch : ∀ i, ∃ x : A, i < len → ∃ row, w.cells? 0 (a.add (i * P.cellsOf e)) (P.cellsOf e) = some row ∧ RowRep w row (f x) ∧ ok x := fun i => by
      by_cases hi : i < len
      · obtain ⟨row, g1, g2⟩ := h3 i hi
        obtain ⟨x, g3, g4⟩ := he row g2
        exact ⟨x, fun _ => ⟨row, g1, g3, g4⟩⟩
      · exact ⟨default, fun g => absurd g hi⟩
    obtain ⟨x, hx⟩ := Classical.axiomOfChoice hch
    let xs := (List.range len).map x
    have hlen : xs.length = len := by simp [xs]
    have hget : ∀ i, i < len → xs.getD i default = x i := fun i hi => by simp [xs, List.getD_eq_getElem?_getD, hi]
    refine ⟨xs, ?_, by omega, fun i hi => ?_⟩
    · by_cases h0 : len = 0
      · subst h0
        have : xs = [] := List.length_eq_zero_iff.mp hlen
        rw [this]
        exact .one (.pd0 (some a) cap) rfl
      · obtain ⟨b, off, sub⟩ := a
        have hall : ∀ i, i < len → ∃ row : List Value, row.length = (f (x i)).length ∧ (f (x i)).length = P.cellsOf e ∧ (∀ j v, row[j]? = some v → w.cell? ((⟨b, off, sub⟩ : Addr).add (i * P.cellsOf e + j)) = some v) ∧ ∀ (j : Nat) (v : Value) (s : SV), row[j]? = some v → (f (x i))[j]? = some s → RepP (allBlk w) w v s ∧ v.oneCell' = true := fun i hi => by
          obtain ⟨row, g1, g2, _⟩ := hx i hi
          obtain ⟨g3, g4⟩ := cells_mem g1
          refine ⟨row, g2.len, by rw [← g2.len, g3], fun j v hj => ?_, g2.rep⟩
          have := g4 j v hj
          rw [Addr.add_add] at this
          exact this
        have hcell : ∀ i j s, i < len → (f (x i))[j]? = some s → ∃ v, w.cell? ((⟨b, off, sub⟩ : Addr).add (i * P.cellsOf e + j)) = some v ∧ v.oneCell' = true ∧ RepP (allBlk w) w v s := fun i j s hi hj => by
          obtain ⟨row, g1, g2, g3, g4⟩ := hall i hi
          have hjl : j < row.length := by rw [g1]; exact (List.getElem?_eq_some_iff.mp hj).1
          have e1 := List.getElem?_eq_getElem hjl
          exact ⟨_, g3 j _ e1, (g4 j _ s e1 hj).2, (g4 j _ s e1 hj).1⟩
        have hsub : sub = none := by
          obtain ⟨row, g1, g2, g3, g4⟩ := hall 0 (by omega)
          have e1 := List.getElem?_eq_getElem (l := row) (i := 0) (by omega)
          have := g3 0 _ e1
          simpa [Addr.add] using World.cell?_spot this
        subst hsub
        have hblk : allBlk w b := by
          obtain ⟨row, g1, g2, g3, g4⟩ := hall 0 (by omega)
          have e1 := List.getElem?_eq_getElem (l := row) (i := 0) (by omega)
          have := g3 0 _ e1
          unfold allBlk
          apply Classical.byContradiction
          intro hn
          have h0 : w.heap[b]? = none := Array.getElem?_eq_none (by omega)
          simp [World.cell?, Addr.add, h0] at this
        have hrow : ∀ (i : Nat) (r : List SV), (encL f xs)[i]? = some r → i < len ∧ r = f (x i) := fun i r hi => by
          unfold encL at hi
          rw [List.getElem?_map, Option.map_eq_some_iff] at hi
          obtain ⟨y, g1, rfl⟩ := hi
          have hil : i < len := by rw [← hlen]; exact (List.getElem?_eq_some_iff.mp g1).1
          refine ⟨hil, ?_⟩
          have : xs[i]? = some (x i) := by simp [xs, hil]
          rw [this] at g1
          rw [← Option.some.inj g1]
        have hv := RepP.pd (S := allBlk w) (w := w) b off (P.cellsOf e) cap (encL f xs) (fun i j => (w.cell? ((⟨b, off, none⟩ : Addr).add (i * P.cellsOf e + j))).getD undef) hblk (by rw [encL_length, hlen]; exact h1) (fun i r hi => by
            obtain ⟨g1, rfl⟩ := hrow i r hi
            obtain ⟨_, _, g2, _⟩ := hall i g1
            exact g2) (fun i r j c hi hj => by
            obtain ⟨g1, rfl⟩ := hrow i r hi
            obtain ⟨v, g2, g3, _⟩ := hcell i j c g1 hj
            have g2' : w.cell? ⟨b, off + i * P.cellsOf e + j, none⟩ = some v := by rw [← g2, Addr.add_lit, Nat.add_assoc]
            rw [g2]
            exact ⟨g2', g3⟩) (fun i r j c hi hj => by
            obtain ⟨g1, rfl⟩ := hrow i r hi
            obtain ⟨v, g2, _, g4⟩ := hcell i j c g1 hj
            rw [g2]
            exact g4)
        rw [encL_length, hlen] at hv
        exact .one hv rfl
    · rw [hlen] at hi
      obtain ⟨_, _, _, g⟩ := hx i hi
      rw [hget i hi]
      exact g
end

end Go.Vcg
/- Structs among an argument's cells. -/
namespace Go.Vcg

section
variable {H : Type} {enc : TypeId × Value → H} {P : Program} {w : World} {t : TypeId}

/-- A struct's fields, one behind the other. -/
def fieldsAt (P : Program) : List Field → Nat → Nat → Bool
  | [], o, n => o == n
  | f :: fs, o, n => f.offset == o && fieldsAt P fs (o + P.cellsOf f.type) n
/-- The rest of a struct's cells, from a field on. -/
def EncFs (enc : TypeId × Value → H) (P : Program) (w : World) (fs : List Field) {A : Type} (f : A → List SV) (ok : A → Prop) : Prop :=
  ∀ (o : Nat) (cs : List Value), fieldsAt P fs o (o + cs.length) = true → (∀ (g : Field), g ∈ fs → Rd enc P w g.type ((cs.drop (g.offset - o)).take (P.cellsOf g.type))) → ∃ a, RowRep w cs (f a) ∧ ok a
theorem EncFs.nil : EncFs enc P w [] (fun _ : Unit => []) (fun _ => True) := fun o cs h _ => by
  have : cs = [] := by
    simp only [fieldsAt, beq_iff_eq] at h
    exact List.length_eq_zero_iff.mp (by omega)
  subst this
  exact ⟨(), ⟨rfl, fun j v s h => by simp at h⟩, trivial⟩
theorem fieldsAt_ge {P : Program} : ∀ {fs : List Field} {o n : Nat}, fieldsAt P fs o n = true → o ≤ n ∧ ∀ g ∈ fs, o ≤ g.offset ∧ g.offset + P.cellsOf g.type ≤ n
  | [], o, n, h => by
    simp only [fieldsAt, beq_iff_eq] at h
    exact ⟨by omega, fun g hg => by simp at hg⟩
  | f :: fs, o, n, h => by
    simp only [fieldsAt, Bool.and_eq_true, beq_iff_eq] at h
    obtain ⟨h1, h2⟩ := fieldsAt_ge h.2
    refine ⟨by omega, fun g hg => ?_⟩
    rcases List.mem_cons.mp hg with rfl | hg
    · omega
    · have := h2 g hg; omega
theorem EncFs.cons {g : Field} {fs : List Field} {A B : Type} {f : A → List SV} {ok : A → Prop} {f' : B → List SV} {ok' : B → Prop} (h1 : EncP enc P w g.type f ok) (h2 : EncFs enc P w fs f' ok') : EncFs enc P w (g :: fs) (fun x : A × B => f x.1 ++ f' x.2) (fun x => ok x.1 ∧ ok' x.2) := fun o cs h hr => by
  have hge := (fieldsAt_ge h).2
  simp only [fieldsAt, Bool.and_eq_true, beq_iff_eq] at h
  have hg := hge g (by simp)
  have hn : P.cellsOf g.type ≤ cs.length := by omega
  have r0 := hr g (by simp)
  rw [h.1, Nat.sub_self, List.drop_zero] at r0
  obtain ⟨a, ha, oka⟩ := h1 _ r0
  have hl : (cs.drop (P.cellsOf g.type)).length = cs.length - P.cellsOf g.type := List.length_drop
  obtain ⟨b, hb, okb⟩ := h2 (o + P.cellsOf g.type) (cs.drop (P.cellsOf g.type)) (by rw [hl, show o + P.cellsOf g.type + (cs.length - P.cellsOf g.type) = o + cs.length from by omega]; exact h.2) fun g' hg' => by
    have h3 := hr g' (by simp [hg'])
    have h4 := (fieldsAt_ge h.2).2 g' hg'
    rw [List.drop_drop, show P.cellsOf g.type + (g'.offset - (o + P.cellsOf g.type)) = g'.offset - o from by omega]
    exact h3
  refine ⟨(a, b), ?_, oka, okb⟩
  have := ha.append hb
  rw [List.take_append_drop] at this
  exact this
theorem EncFs.struct {fs : Array Field} {A B : Type} {f : A → List SV} {ok : A → Prop} {g : B → List SV} {ok' : B → Prop} (ht : P.underlying t = some (.struct fs)) (hf : fieldsAt P fs.toList 0 (P.cellsOf t) = true) (h : EncFs enc P w fs.toList f ok) (m : A → B) (hm : ∀ a, f a = g (m a)) (ho : ∀ a, ok a → ok' (m a)) : EncP enc P w t g ok' := fun cs hr => by
  obtain ⟨h1, h2⟩ := hr.struct ht
  obtain ⟨a, ha, oka⟩ := h 0 cs (by rw [Nat.zero_add, h1]; exact hf) fun x hx => by
    obtain ⟨i, hi⟩ := List.getElem?_of_mem hx
    exact h2 i x (by rw [← Array.getElem?_toList]; exact hi)
  exact ⟨m a, hm a ▸ ha, ho a oka⟩
/-- Another way to say what holds. -/
theorem EncP.imp {A : Type} {f : A → List SV} {ok ok' : A → Prop} (h : EncP enc P w t f ok) (hi : ∀ a, ok a → ok' a) : EncP enc P w t f ok' := fun cs hr => let ⟨a, h1, h2⟩ := h cs hr; ⟨a, h1, hi a h2⟩

/-- The reading of an argument that is no struct. -/
theorem EncP.arg1 {A : Type} {s : A → SV} {ok : A → Prop} (h : EncP enc P w t (fun a => [s a]) ok) {v : Value} {d : DataW H} {ps : List MemPlace} (hv : v.cells.toList = [v]) (hd : DataW.Trod enc P w 0 (fun _ => true) true t v d ps) (hw : ∀ x ∈ d.weights P t, x ≤ reachBytes) : ∃ a, RepP (allBlk w) w v (s a) ∧ ok a := by
  obtain ⟨n, hn⟩ := hd
  obtain ⟨a, h1, h2⟩ := h _ ⟨n, d, ps, hn, hw⟩
  rw [hv] at h1
  exact ⟨a, (h1.rep 0 v (s a) rfl rfl).1, h2⟩
/-- The reading of a struct. -/
theorem EncP.argS {A : Type} {f : A → List SV} {ok : A → Prop} (h : EncP enc P w t f ok) {vs : Array Value} {d : DataW H} {ps : List MemPlace} (hd : DataW.Trod enc P w 0 (fun _ => true) true t (.agg vs) d ps) (hw : ∀ x ∈ d.weights P t, x ≤ reachBytes) : ∃ a, RepP (allBlk w) w (.agg vs) (.ag (f a)) ∧ ok a := by
  obtain ⟨n, hn⟩ := hd
  obtain ⟨a, h1, h2⟩ := h vs.toList ⟨n, d, ps, hn, hw⟩
  exact ⟨a, RepP.ag vs.toList (f a) h1.len fun i v c g1 g2 => (h1.rep i v c g1 g2).1, h2⟩
end

end Go.Vcg
/- copy. -/
namespace Go.Vcg

variable {w0 : World} {M : Perm} {S0 : Nat → Prop} {ρ : Nat → Option Loc} {φ : Nat → Nat → Prop} {S : Nat → Prop} {st : St} {a : Act} {w : World} {P : Program} {T : Nat → Option TI} {C : Cx} {K : St → Prop} {o : Oper}

/-- Rows laid over rows. -/
def overRows (rows : Rows) (i : Nat) (ys : Rows) : Rows := rows.take i ++ ys ++ rows.drop (i + ys.length)
theorem overRows_length (rows : Rows) (i : Nat) (ys : Rows) (h : i + ys.length ≤ rows.length) : (overRows rows i ys).length = rows.length := by
  unfold overRows; rw [List.length_append, List.length_append, List.length_take, List.length_drop]; omega
theorem overRows_get (rows : Rows) (i : Nat) (ys : Rows) (j : Nat) (h : i + ys.length ≤ rows.length) : (overRows rows i ys)[j]? = if i ≤ j ∧ j < i + ys.length then ys[j - i]? else rows[j]? := by
  unfold overRows
  rw [List.getElem?_append, List.length_append, List.length_take]
  by_cases h1 : j < i
  · rw [if_pos (by omega), List.getElem?_append, List.length_take, if_pos (by omega), List.getElem?_take, if_pos h1, if_neg (by omega)]
  · by_cases h2 : j < i + ys.length
    · rw [if_pos (by omega), List.getElem?_append, List.length_take, if_neg (by omega), if_pos ⟨by omega, h2⟩]
      congr 1
      omega
    · rw [if_neg (by omega), List.getElem?_drop, if_neg (by omega)]
      congr 1
      omega

def xCopy (T : Nat → Option TI) (wr : Nat → Prop) (st : St) (t tx : Nat) (s x : SV) (d : Nat) : Option (Prop × St) := match T t, s with
  | some ti, .sl b i n => match ti.k with
    | .slice e => match T e, st.blk b with
      | some ei, some (.c k rows) => match srcRows T st ei.size tx x with
        | some (side, ys) => some (d < st.n ∧ wr b ∧ k = ei.size ∧ i + n ≤ rows.length ∧ side, (st.setBlk b (.c k (overRows rows i (ys.take (min ys.length n))))).set d (.pl (.int .i64 (min ys.length n : Nat))))
        | none => none
      | _, _ => none
    | _ => none
  | _, _ => none

theorem run_copy {t tx ty e k n cap m : Nat} {v : Value} {vs : List Value} {base : Option Addr} {i : TypeInfo} (ht : P.underlying t = some (.slice e)) (hi : P.info? e = some i) (hk : i.size = k)
    (hlen : (Builtin.lenOf v).run P w = .ok m w) (hfirst : (Builtin.firstCells k (min m n) v).run P w = .ok vs.toArray w) :
    (Builtin.copy_ #[t, tx] ty #[.slice base n cap, v]).run P w = match base with
      | some x => ((storeCells x vs).run P w).andThen fun _ w' => .ok (.int .i64 (min m n : Nat)) w'
      | none => .ok (.int .i64 (min m n : Nat)) w := by
  have hfirst' : (Builtin.firstCells k (Nat.min m n) v).run P w = .ok vs.toArray w := hfirst
  cases base with
  | none => simp [Builtin.copy_, run_underlying ht, sizeOf, typeInfo, hi, hk, hlen, hfirst', goInt]
  | some x => simp [Builtin.copy_, run_underlying ht, sizeOf, typeInfo, hi, hk, hlen, hfirst', goInt]

theorem Sim.sameBlk (h : Sim w0 M S0 ρ φ S st a w) {b : Nat} {k : Bk} (hb : st.blk b = some k) : Sim w0 M S0 ρ φ S (st.setBlk b k) a w :=
  h.congr rfl (fun _ => rfl) fun x => by
    rw [St.blk_setBlk]
    by_cases e : x = b
    · rw [if_pos e, e, hb]
    · rw [if_neg e]

theorem xCopy_run (hT : TOk P T) (h : Sim w0 M S0 ρ φ S st a w) {t tx ty d : Nat} {vs0 vx : Value} {s x : SV} {side : Prop} {st' : St} (hrs : Rep ρ S w vs0 s) (hrx : Rep ρ S w vx x) (he : xCopy T M.wr st t tx s x d = some (side, st')) (hs : side) :
    ∃ u w', (Builtin.copy_ #[t, tx] ty #[vs0, vx]).run P w = .ok u w' ∧ Holds w0 M S0 st' (a.put (some d) u) w' := by
  unfold xCopy at he
  split at he <;> try (cases he; done)
  rename_i ti b i0 n ht
  split at he <;> try (cases he; done)
  rename_i e hk
  split at he <;> try (cases he; done)
  rename_i ei k rows hei hb
  split at he <;> try (cases he; done)
  rename_i side' ys hsrc
  obtain ⟨rfl, rfl⟩ := Prod.mk.inj (Option.some.inj he)
  obtain ⟨g1, gwr, rfl, s2, g3⟩ := hs
  obtain ⟨dd, u1, u2⟩ := (hT t ti ht).und
  rw [hk] at u2
  obtain rfl := tk_slice u2
  obtain ⟨i, z, z1, z2, z3, z4, z5⟩ := (hT e ei hei).parts
  obtain ⟨vs, hsr⟩ := src_ok (P := P) (F := fun _ => False) hT h hrx hsrc g3
  have hne : st.blk b ≠ none := by rw [hb]; simp
  cases hrs with
  | per hr => cases hr
  | sl0 xa _ _ =>
    have hm0 : min ys.length 0 = 0 := by omega
    have hfirst := hsr.first 0 w (by omega) rfl
    rw [Nat.zero_mul, List.take_zero] at hfirst
    have hrun := run_copy (P := P) (w := w) (tx := tx) (ty := ty) (n := 0) (cap := 0) (base := xa) u1 z1 z4 (hsr.lenOf w) (by rw [hm0]; exact hfirst)
    rw [hm0, List.take_zero]
    have e0 : overRows rows i0 [] = rows := by unfold overRows; simp
    rw [e0]
    refine ⟨.int .i64 (0 : Nat), w, ?_, ρ, φ, S, (h.sameBlk hb).setSlot g1 (.per (.pl _))⟩
    rw [hrun, hm0]
    cases xa <;> simp [storeCells]
  | sl _ _ _ cap l hl hc hi hz =>
    obtain ⟨hesz, hok⟩ := h.cellsAt hb hl
    have hself := h.heap.self b l hne hl
    have hnS := h.heap.notS b _ hne (.inl ⟨l, hl, rfl⟩)
    let c := min ys.length n
    have hcy : c ≤ ys.length := Nat.min_le_left _ _
    have hcn : c ≤ n := Nat.min_le_right _ _
    have hfl := hsr.flat.take c hcy
    have hlt : (ys.take c).length = c := by rw [List.length_take]; omega
    have hfirst := hsr.first c w hcy rfl
    have hrun := run_copy (P := P) (w := w) (tx := tx) (ty := ty) (n := n) (cap := cap) (base := some (l.addr i0 0)) u1 z1 z4 (hsr.lenOf w) hfirst
    have hvl : (vs.take (c * ei.size)).length = c * l.esz := by rw [hfl.len, hlt, hesz]
    have hcells : ∀ q, q < c * l.esz → ∃ u, w.cell? ⟨l.blk, l.base + i0 * l.esz + q, none⟩ = some u := fun q hq => by
      have h1 : c * l.esz ≤ cap * l.esz := Nat.mul_le_mul_right _ (by omega)
      have hq2 : l.base + i0 * l.esz + q < rowSize w l.blk := by rw [Nat.add_mul] at hz; omega
      unfold rowSize at hq2
      unfold World.cell?
      cases hh : w.heap[l.blk]? with
      | none => rw [hh] at hq2; simp at hq2
      | some ob =>
        rw [hh] at hq2
        cases ob <;> first | (simp at hq2; done) | (simp at hq2; exact ⟨_, by simp [hq2]; rfl⟩)
    obtain ⟨w', r1, r2, r3, r4, r5, r6, r7, r8⟩ := run_storeCells_gen (P := P) l.blk (l.base + i0 * l.esz) (vs.take (c * ei.size)) w 0 (fun j hj => by
      obtain ⟨u, hu⟩ := hcells j (by omega)
      exact ⟨u, by rw [Nat.zero_add]; exact hu⟩) hok.free hfl.one
    have hz' : ∀ x, rowSize w x ≤ rowSize w' x := fun x => Nat.le_of_eq (r4 x).symm
    have hov : i0 + (ys.take c).length ≤ rows.length := by rw [hlt]; omega
    have hnew : BkOk ρ S w' (φ b) b (.c ei.size (overRows rows i0 (ys.take c))) := by
      obtain ⟨G, p1, p2, p3⟩ := hok.cell
      obtain ⟨G2, q1, _, q3⟩ := hfl.cell
      refine .inr ⟨l, hl, hesz, fun o => by rw [r5]; exact hok.free o, fun i' r hr => ?_, by rw [overRows_length _ _ _ hov]; exact hok.long, G, p1, p2, fun i' r j c' hr hj => ?_⟩
      · rw [overRows_get _ _ _ _ hov] at hr
        split at hr
        · rw [hesz]; exact hfl.row _ r hr
        · exact hok.len _ r hr
      · rw [overRows_get _ _ _ _ hov, hlt] at hr
        split at hr
        · rename_i hi'
          obtain ⟨u, e1, e2⟩ := q3 _ r j c' hr hj
          refine ⟨u, ?_, hfl.one u (List.mem_of_getElem? e1), e2.mono (fun _ h => h) (by omega) (fun x hx _ => r3 x fun e => by
            rcases hx with hx | hx
            · exact hnS (e ▸ hx)
            · exact (q1 _ _ x hx).elim) h.sb (fun _ _ => rfl) hz' fun x hx => (q1 _ _ x hx).elim⟩
          rw [← r6 _ u e1]
          unfold Loc.addr
          congr 2
          rw [← hesz, Nat.zero_add]
          have : i' = i0 + (i' - i0) := by omega
          rw [this, Nat.add_mul]
          simp
          omega
        · rename_i hi'
          obtain ⟨u, e1, e2, e3⟩ := p3 _ r j c' hr hj
          have hjl : j < l.esz := by rw [← hok.len _ r hr]; exact (List.getElem?_eq_some_iff.mp hj).1
          refine ⟨u, ?_, e2, e3.mono (fun _ h => h) (by omega) (fun x hx _ => r3 x fun e => by
            rcases hx with hx | hx
            · exact hnS (e ▸ hx)
            · exact hself (e ▸ p1 _ _ x hx)) h.sb (fun _ _ => rfl) hz' fun _ h => h⟩
          rw [← e1]
          refine r7 (l.addr i' j) fun q hq => ?_
          rw [hvl] at hq
          unfold Loc.addr
          simp only [ne_eq, Addr.mk.injEq, true_and, and_true, Nat.zero_add]
          intro he
          have h1 : i' * l.esz + j = i0 * l.esz + q := by omega
          rcases Nat.lt_or_ge i' i0 with g | g
          · have h2 : (i' + 1) * l.esz ≤ i0 * l.esz := Nat.mul_le_mul_right _ g
            rw [Nat.succ_mul] at h2
            omega
          · have h2 : (i0 + c) * l.esz ≤ i' * l.esz := Nat.mul_le_mul_right _ (by omega)
            rw [Nat.add_mul] at h2
            omega
    have h1 := h.turn (w' := w') gwr hb hl r2 r3 (hz' _) hnew r8
    refine ⟨.int .i64 (c : Nat), w', ?_, _, _, S, h1.setSlot g1 (.per (.pl _))⟩
    rw [hrun]
    show ((storeCells (l.addr i0 0) (vs.take (c * ei.size))).run P w).andThen _ = _
    rw [show l.addr i0 0 = ⟨l.blk, l.base + i0 * l.esz, none⟩ from rfl, r1]
    rfl

/-- More operations that write. -/
def yop (T : Nat → Option TI) (wr : Nat → Prop) (st : St) (dst : Option Nat) : Op → Option (Prop × St)
  | .call c => match dst, c.callee, c.args.toList, c.argTypes.toList with
    | some d, .builtin .copy, [s, x], [t, tx] => xCopy T wr st t tx (st.ev s) (st.ev x) d
    | _, _, _, _ => none
  | _ => none

theorem yop_ok (hT : TOk C.P T) {side : Prop} {st' : St} (he : yop T C.M.wr st o.dst o.op = some (side, st')) (hs : side) (hK : K st') : Sop C o st K := by
  unfold Sop
  intro Q a w _ ⟨ρ, φ, S, h⟩
  unfold yop at he
  split at he <;> try (cases he; done)
  rename_i c hop
  split at he <;> try (cases he; done)
  rename_i d s x t tx hd hc ha ht
  obtain ⟨u, w', h1, h3⟩ := xCopy_run (P := C.P) (ty := o.type) hT h (h.ev s) (h.ev x) he hs
  refine wp_value (v := u) (w' := w') ?_ ⟨st', hK, by rw [hd]; exact h3⟩
  have e1 : c.args = #[s, x] := Array.ext' (by simpa using ha)
  have e2 : c.argTypes = #[t, tx] := Array.ext' (by simpa using ht)
  unfold execOp
  simp [hop, resolve, hc, invoke, builtin, e1, e2, h1]

section
variable {ops : Array Oper} {l : List Oper} {ty : Nat} {pos : String} {af : Array Edge} {side : Prop} {st' : St} {op : Op}
theorem X.k {g : Option (Nat × Bool)} {c : Call} {f : Nat} {d : Option Nat} (sh : Bool) (pa : List (Nat × Nat × Option Nat)) {bs : Bs} {pins ps : Pins} {args : List SV} {r : SV} (hk : CallOk C.P f) (hc : c.callee = .value (.func f)) (_hb0 : pa.map (pinAt (c.args.toList.map st.ev)) = bs)
    (hbs : bsOk bs = true) (hw : ∀ q ∈ bs, C.M.wr q.2) (hp : pinsOf st.blk (toPin bs) bs = some pins) (ha : (c.args.toList.map st.ev).map (argSV (lentB st bs sh) (toPin bs)) = args) (hsp : TSpec C.P f pins args sh ps r) (hd : dOk st.n d) (hi : impOk r) (hb : bindR (backs st bs ps) d r = st') (h : K st') :
    Sop C { dst := d, op := .call c, type := ty, pos := pos, after := af, guard := g } st K := X.c bs hsp hk hc hbs hw hp ha hd hi hb h
theorem O.y (hT : TOk C.P T) {dst : Option Nat} (he : yop T C.M.wr st dst op = some (side, st')) (hs : side) (h : side → Sl C ops l st' K) : Sl C ops ({ dst := dst, op := op, type := ty, pos := pos, after := af, guard := none } :: l) st K := Sl.cons (So.op rfl (yop_ok hT he hs (h hs)))
end
section
variable {W : Nat → Bool} {ws : List Nat} {pan : List PanicEntry → St → Prop} {fuel i : Nat} {listed : Array Bool} {side : Prop} {st' : St} {l : List Oper}
theorem RA.y1 (hT : TOk P T) {o : Oper} (ho : nthO l i = some o) (hr : Region.ready .any l.toArray listed = [i]) (hg : o.guard = none) (he : yop T (fun b => ws.contains i = true ∧ W b = true) st o.dst o.op = some (side, st')) (hs : side) (h : side → RA P W ws pan l.toArray fuel (listed.setIfInBounds i true) st' K) : RA P W ws pan l.toArray (fuel + 1) listed st K :=
  RA.one ho hr fun w0 may pin ro S0 => So.op hg (yop_ok (C := RCx P W (ws.contains i) w0 may pin ro S0 pan) hT he hs (h hs))
theorem RX.y {is : List Nat} (hT : TOk P T) {o : Oper} (ho : nthO l i = some o) (hg : o.guard = none) (he : yop T (fun b => ws.contains i = true ∧ W b = true) st o.dst o.op = some (side, st')) (hs : side) (h : side → RA P W ws pan l.toArray fuel (listed.setIfInBounds i true) st' K) (hr : RAll P W ws pan l.toArray fuel listed st K is) : RAll P W ws pan l.toArray fuel listed st K (i :: is) := by
  exact RX.of ho (fun w0 may pin ro S0 => So.op hg (yop_ok (C := RCx P W (ws.contains i) w0 may pin ro S0 pan) hT he hs (h hs))) hr
end

attribute [go_sem] yop xCopy

end Go.Vcg
/- Slices that are cut with a bound on their room; bytealg.MakeNoZero. -/
namespace Go.Vcg

variable {w0 : World} {M : Perm} {S0 : Nat → Prop} {ρ : Nat → Option Loc} {φ : Nat → Nat → Prop} {S : Nat → Prop} {st : St} {a : Act} {w : World} {P : Program} {T : Nat → Option TI} {C : Cx} {K : St → Prop} {o : Oper} {ops : Array Oper} {l : List Oper} {ty : Nat} {pos : String} {af : Array Edge}

/-- x[:h:m] -/
def pSlice3 (T : Nat → Option TI) (t : Nat) (x h m : SV) : Option (Prop × SV) := match T t, x, h, m with
  | some ti, .sl b i n, .pl (.int _ h), .pl (.int _ m) => match ti.k with
    | .slice e => match T e with
      | some _ => some (0 ≤ h ∧ h ≤ m ∧ m ≤ n, .sl b i h.toNat)
      | none => none
    | _ => none
  | _, _, _, _ => none

theorem pSlice3_ok (hT : TOk P T) (_h : Sim w0 M S0 ρ φ S st a w) {t : Nat} {v vh vm : Value} {s sh sm sv : SV} {side : Prop} (hr : Rep ρ S w v s) (hrh : Rep ρ S w vh sh) (hrm : Rep ρ S w vm sm) (he : pSlice3 T t s sh sm = some (side, sv)) (hs : side) :
    ∃ u, (∀ w', (Instr.sliceAt t v none (some vh) (some vm)).run P w' = .ok u w') ∧ Rep ρ S w u sv := by
  unfold pSlice3 at he
  split at he <;> try (cases he; done)
  rename_i ti b i n k1 h k2 m ht
  split at he <;> try (cases he; done)
  rename_i e hk
  split at he <;> try (cases he; done)
  rename_i ei hei
  obtain ⟨rfl, rfl⟩ := Prod.mk.inj (Option.some.inj he)
  obtain ⟨g1, g2, g3⟩ := hs
  obtain ⟨d, u1, u2⟩ := (hT t ti ht).run_und
  rw [hk] at u2
  obtain rfl := tk_slice u2
  have hsz : ∀ w', (sizeOf e).run P w' = .ok ei.size w' := fun w' => (hT e ei hei).run_size w'
  have key : ∀ (base : Option Addr) (cap : Nat), n ≤ cap → ∀ w', (Instr.sliceAt t (.slice base n cap) none (some (.int k1 h)) (some (.int k2 m))).run P w' = .ok (.slice base h.toNat m.toNat) w' := fun base cap hc w' => by
    have h1 : m ≤ (cap : Int) := by omega
    have h3 : 0 ≤ m := by omega
    simp [Instr.sliceAt, Instr.slice, u1, Instr.sliceBounds, Instr.sliceBound, asIntOf, hsz, h1, h3, g1]
    cases base <;> simp [Addr.add] <;> (intro g; omega)
  rw [hrh.pl_eq, hrm.pl_eq]
  cases hr with
  | per hr => cases hr
  | sl0 xa _ _ =>
    refine ⟨_, key xa 0 (by omega), ?_⟩
    have e1 : h.toNat = 0 := by omega
    have e2 : m.toNat = 0 := by omega
    rw [e1, e2]
    exact .sl0 xa b i
  | sl _ _ _ cap l hl hc hi hz =>
    exact ⟨_, key _ cap hc, .sl b i h.toNat m.toNat l hl (by omega) (by omega) (Nat.le_trans (by
      have : (i + m.toNat) * l.esz ≤ (i + cap) * l.esz := Nat.mul_le_mul_right _ (by omega)
      omega) hz)⟩
theorem O.s3 (hT : TOk C.P T) {g : Option (Nat × Bool)} {t d : Nat} {x h m : Operand} {side : Prop} {sv : SV} (he : pSlice3 T t (st.ev x) (st.ev h) (st.ev m) = some (side, sv)) (hd : d < st.n) (hs : side) (hK : side → K (st.set d sv)) :
    Sop C { dst := some d, op := .slice t x none (some h) (some m), type := ty, pos := pos, after := af, guard := g } st K := by
  unfold Sop
  intro Q a w _ ⟨ρ, φ, S, hsim⟩
  obtain ⟨u, h1, h2⟩ := pSlice3_ok (P := C.P) hT hsim (hsim.ev x) (hsim.ev h) (hsim.ev m) he hs
  refine wp_value (v := u) (w' := w) ?_ ⟨_, hK hs, ρ, φ, S, hsim.setSlot hd h2⟩
  unfold execOp
  simp [h1 w]

/-! ## MakeNoZero: whatever it holds -/

theorem digits_one : ∀ (n t : Nat) (acc : Array Value), (∀ v ∈ acc.toList, v.oneCell' = true) → ∀ v ∈ (Extern.BytealgMakeNoZero.digits n t acc).toList, v.oneCell' = true
  | 0, _, _, h => h
  | n + 1, t, acc, h => by
    rw [Extern.BytealgMakeNoZero.digits]
    refine digits_one n (t / 256) _ fun v hv => ?_
    rw [Array.toList_push, List.mem_append] at hv
    rcases hv with hv | hv
    · exact h v hv
    · simp only [List.mem_singleton] at hv
      subst hv
      rfl
theorem run_mnz (w : World) (ps : Array TypeId) (t e : TypeId) (ht : P.underlying t = some (.slice e)) (n : Nat) (hn : n ≤ 281474976710656) :
    ∃ cs : Array Value, (Extern.BytealgMakeNoZero.makeNoZero ps #[t] #[.int .i64 n]).run P w = .ok (.slice (some ⟨w.heap.size, 0, none⟩) n cs.size) (w.drew.drew.alloc (.cells cs e)) ∧ n ≤ cs.size ∧ ∀ v ∈ cs.toList, v.oneCell' = true := by
  have hdef : Extern.BytealgMakeNoZero.makeNoZero ps #[t] #[.int .i64 n] =
      (do
        let .slice elem ← underlying t | stuck "bytealg.MakeNoZero: slice type expected"
        if (n : Int) < 0 || (n : Int) > 2 ^ 48 then runtimePanic (.error "makeslice: len out of range")
        let cap ← choose (.appendCap (n : Int).toNat 0 elem)
        askRoom cap
        let bytes ← choose (.extern "internal/bytealg.MakeNoZero.bytes" 0)
        let a ← newRow elem (Extern.BytealgMakeNoZero.digits cap bytes #[])
        pure (.slice (some a) (n : Int).toNat cap)) := rfl
  refine ⟨Extern.BytealgMakeNoZero.digits (grownCap w n 0 e) ((Question.extern "internal/bytealg.MakeNoZero.bytes" 0).cut (w.tape (w.drawn + 1) (.extern "internal/bytealg.MakeNoZero.bytes" 0))) #[], ?_, ?_, digits_one _ _ _ (fun v hv => by simp at hv)⟩
  · rw [hdef]
    have h1 : ¬ (n : Int) < 0 := by omega
    have h2 : ¬ (281474976710656 : Int) < (n : Int) := by omega
    simp [run_underlying ht, h1, h2, Question.forced, newRow, Lib.size_digits, grownCap]
  · rw [Lib.size_digits]
    simpa using grownCap_ge w n 0 e

/-- That a function is MakeNoZero, of a slice of bytes. -/
structure MnzOk (P : Program) (f t : Nat) : Prop where
  fn : ∃ fn : Func, P.funcs[f]? = some fn ∧ (fn.name == "runtime.NumGoroutine") = false ∧ fn.body.isNone = true ∧ Extern.findNext fn = none ∧ ∃ ps, Extern.find fn = some (Extern.BytealgMakeNoZero.makeNoZero ps #[t])
  ty : ∃ e, P.underlying t = some (.slice e)

theorem O.mnz {g : Option (Nat × Bool)} {f t d : Nat} {c : Call} {n : Nat} {x : Operand} (hf : MnzOk C.P f t) (hc : c.callee = .value (.func f)) (hargs : c.args.toList = [x]) (he : st.ev x = .pl (.int .i64 n)) (hd : d < st.n) (hn : n ≤ 281474976710656)
    (hK : K (((st.kill d).setBlk d (.c 1 (List.replicate n [.dead]))).set d (.sl d 0 n))) :
    Sop C { dst := some d, op := .call c, type := ty, pos := pos, after := af, guard := g } st K := by
  unfold Sop
  intro Q a w _ ⟨ρ, φ, S, hsim⟩
  obtain ⟨⟨fn, f1, f2, f3, f4, ps, f5⟩, e, ht⟩ := hf
  have hx : a.eval x = .int .i64 n := by
    have := hsim.ev x
    rw [he] at this
    exact this.pl_eq
  obtain ⟨cs, h1, h2, h3⟩ := run_mnz (P := C.P) w ps t e ht n hn
  have hlen : (cs.toList.take n).length = n := by rw [List.length_take, Array.length_toList]; omega
  have hflat : Flat ρ S w.drew.drew 1 (cs.toList.take n) (List.replicate n [.dead]) (fun _ => False) := by
    refine Flat.plain (by rw [hlen]; simp) (fun i r hr => ?_) (fun v hv => h3 v (List.mem_of_mem_take hv)) fun i r j c hr hj => ?_
    · rw [List.getElem?_replicate] at hr
      split at hr
      · obtain rfl := Option.some.inj hr; rfl
      · cases hr
    · rw [List.getElem?_replicate] at hr
      split at hr
      · rename_i hi
        obtain rfl := Option.some.inj hr
        cases j with
        | zero =>
          simp only [List.getElem?_cons_zero, Option.some.injEq] at hj
          subst hj
          exact ⟨(cs.toList.take n)[i * 1 + 0]'(by rw [hlen]; omega), List.getElem?_eq_getElem (by rw [hlen]; omega), .dead _⟩
        | succ j => simp at hj
      · cases hr
  have hb := (hsim.drew.drew).bufNew (d := d) (cap := cs.size) (rest := cs.toList.drop n) e hd (fun _ => False) (fun _ g => g.elim) hflat (by simpa using h2) (by rw [hlen, List.length_drop, Array.length_toList]; omega) cs (List.take_append_drop n cs.toList).symm
  have hk : killRows d (List.replicate n [SV.dead]) = List.replicate n [.dead] := by
    unfold killRows
    rw [List.map_replicate]
    rfl
  rw [hk, List.length_replicate] at hb
  refine wp_value (v := .slice (some ⟨w.heap.size, 0, none⟩) n cs.size) (w' := w.drew.drew.alloc (.cells cs e)) ?_ ⟨_, hK, hb⟩
  have ha : c.args.map a.eval = #[.int .i64 n] := Array.ext' (by rw [Array.toList_map, hargs]; simp [hx])
  unfold execOp
  simp [resolve, hc, Act.eval, Deferred.ofValue, invoke, ha, run_callFunc_extern f1 f2 f3 f4 f5, h1]

end Go.Vcg
/- What a guard has let in is there. -/
namespace Go.Vcg
variable {C : Cx} {st : St} {K : St → Prop} {o : Oper}
theorem X.asm (t : Nat) {c : Bool} {s : SV} (h : st.get t = .cn c s) (hc : c = true) (hK : Sop C o (st.set t s) K) : Sop C o st K := by
  unfold Sop at hK ⊢
  intro Q a w hq ⟨ρ, φ, S, hs⟩
  refine hK Q a w hq ⟨ρ, φ, S, hs.reslot t ?_⟩
  have h1 := hs.slot t
  rw [h, hc] at h1
  generalize a.tmps.getD t undef = v at h1
  cases h1 with
  | per h => cases h
  | cn _ _ _ h1 _ => exact h1 rfl
section
variable {ops : Array Oper} {l : List Oper} {dst : Option Nat} {ty : Nat} {op : Op} {pos : String} {af : Array Edge}
/-- What the guard's bool is. -/
theorem O.split {j e : Nat} {want c g : Bool} {oj : Oper} (_hj : ops[j]? = some oj) (_hdj : oj.dst = some e) (_hv : gVal (st.get e) = some (c, g)) (h1 : g = true → Sl C ops ({ dst := dst, op := op, type := ty, pos := pos, after := af, guard := some (j, want) } :: l) st K)
    (h2 : g = false → Sl C ops ({ dst := dst, op := op, type := ty, pos := pos, after := af, guard := some (j, want) } :: l) st K) : Sl C ops ({ dst := dst, op := op, type := ty, pos := pos, after := af, guard := some (j, want) } :: l) st K := by
  cases g with
  | true => exact h1 rfl
  | false => exact h2 rfl
end
end Go.Vcg
/- The walk's rules once more; what they want is filled in by itself. hD, in a proof that uses them: what else is to be simplified. -/
namespace Go.Vcg
set_option linter.unusedVariables false
open Go.IntWalk
theorem lDrop {α : Type} {i : Nat} {l : List α} : (l.drop i).length = l.length - i := List.length_drop
theorem lTake {α : Type} {i : Nat} {l : List α} : (l.take i).length = min i l.length := List.length_take
theorem lApp {α : Type} {l r : List α} : (l ++ r).length = l.length + r.length := List.length_append
theorem lRep {α : Type} {n : Nat} {a : α} : (List.replicate n a).length = n := List.length_replicate
theorem lTakeNil {α : Type} {i : Nat} : ([] : List α).take i = [] := List.take_nil
theorem lAssoc {α : Type} {a b c : List α} : a ++ b ++ c = a ++ (b ++ c) := List.append_assoc a b c
def dNo : Nat → Nat := fun _ => 0
theorem dN0 : dNo 0 = 0 := rfl
/-! The deferred calls of a state. -/
def St.setDf (st : St) (df : List Dfd) : St := { st with df := df }
theorem df_set (st : St) (t : Nat) (s : SV) : (st.set t s).df = st.df := rfl
theorem df_setBlk (st : St) (b : Nat) (r : Bk) : (st.setBlk b r).df = st.df := rfl
theorem df_kill (st : St) (d : Nat) : (st.kill d).df = st.df.map (Dfd.mp (SV.kill d)) := rfl
theorem df_start (n : Nat) (args : List SV) (pins : Pins) : (St.start n args pins).df = [] := rfl
theorem df_lit (n : Nat) (sl : List (Nat × SV)) (bl : List (Nat × Bk)) (df : List Dfd) : (St.mk n sl bl df).df = df := rfl
theorem df_setDf (st : St) (df : List Dfd) : (st.setDf df).df = df := rfl
theorem df_put (st : St) (d : Option Nat) (s : SV) : (st.put d s).df = st.df := by cases d <;> rfl
theorem get_setDf (st : St) (df : List Dfd) (t : Nat) : (st.setDf df).get t = st.get t := rfl
theorem blk_setDf (st : St) (df : List Dfd) (b : Nat) : (st.setDf df).blk b = st.blk b := rfl
theorem n_setDf (st : St) (df : List Dfd) : (st.setDf df).n = st.n := rfl
theorem mp_nil (g : SV → SV) : List.map (Dfd.mp g) [] = [] := rfl
theorem df_frz_nil (st : St) (b : Nat) (h : st.df = []) : (st.frz b).df = [] := by
  unfold St.frz
  split
  · show st.df.map _ = []
    rw [h]
    rfl
  · exact h
theorem df_ren_nil (st : St) (d d' : Nat) (h : st.df = []) : (st.ren d d').df = [] := by
  have hk : (st.kill d').df = [] := by rw [df_kill, h]; rfl
  unfold St.ren
  split
  · split
    · exact h
    · show (st.kill d').df.map _ = []
      rw [hk]
      rfl
  · exact h
theorem df_virt_nil (st : St) (t d k : Nat) (h : st.df = []) : (st.virt t d k).df = [] := by
  unfold St.virt
  split
  · split
    · exact h
    · rw [df_set, df_setBlk, df_kill, h]; rfl
  · exact h
theorem df_virtAt_nil (st : St) (b i j d k : Nat) (h : st.df = []) : (st.virtAt b i j d k).df = [] := by
  unfold St.virtAt
  split
  · split
    · split
      · exact h
      · rw [df_setBlk, df_setBlk, df_kill, h]; rfl
    · exact h
  · exact h
attribute [go_sem] df_set df_setBlk df_kill df_start df_lit df_setDf get_setDf blk_setDf n_setDf mp_nil Dfd.mp df_put
theorem dfz {st : St} (h : st.df = [] := by first | (simp only [df_set, df_setBlk, df_kill, df_start, df_lit, df_setDf, df_put, mp_nil, df_frz_nil, df_ren_nil, df_virt_nil, df_virtAt_nil]; done) | rfl) : st.df = [] := h
theorem dfe {st : St} {df : List Dfd} (h : st.df = df := by first | (simp +decide only [go_sem, df_frz_nil, df_ren_nil, df_virt_nil, df_virtAt_nil]; done) | rfl) : st.df = df := h
theorem ds {p : Prop} (h : p := by first | omega | assumption | (simp only [go_sem, hD]; done) | (simp; done) | (simp; omega) | (simp only [go_sem, hD]; omega) | fail) : p := h
theorem ev {α : Sort _} {a b : α} (h : a = b := by (focus simp +decide only [go_sem] <;> (try simp (disch := first | exact ds | fail) only [go_sem, Nat.reduceAdd, Nat.reduceMul, Nat.reduceSub, Int.reduceToNat, Int.reduceNeg, Nat.reduceLeDiff, hD]) <;> rfl)) : a = b := h
theorem ev0 {α : Sort _} {a b : α} (h : a = b := by (focus simp +decide only [go_sem] <;> rfl)) : a = b := h
theorem nn {p : Prop} (h : p := by (simp +decide only [go_sem]; done)) : p := h
theorem sd {p : Prop} (h : p := by ((repeat' apply And.intro) <;> first | exact True.intro | omega | assumption | trivial | (simp; done) | (simp; omega) | fail)) : p := h
theorem sg {p : Prop} (h : p := by (intro hg; (repeat' apply And.intro) <;> first | exact True.intro | omega | assumption | trivial | (simp; done) | (simp at hg ⊢; omega) | fail)) : p := h
theorem pm1 {p : Prop} (h : p := by
  first
  | exact True.intro
  | omega
  | assumption
  | (apply hall; omega)
  | (simp +decide only [go_sem]; done)
  | (simp +decide (disch := first | exact ds | fail) only [go_sem, Nat.reduceAdd, Nat.reduceMul, Nat.reduceSub, Int.reduceToNat, Int.reduceNeg, Nat.reduceLeDiff, hD]; done)
  | (simp; done)
  | (simp; omega)
  | (simp +decide (disch := first | exact ds | fail) only [go_sem, List.length_append, List.length_replicate, Nat.reduceAdd, Nat.reduceMul, Nat.reduceSub, Int.reduceToNat, Int.reduceNeg, Nat.reduceLeDiff, hD] <;> omega)
  | (simp +decide [impOk, impOk1, go_sem]; done)
  | fail) : p := h
theorem pm {p : Prop} (h : p := by first | omega | assumption | ((repeat' apply And.intro) <;> exact pm1) | fail) : p := h
theorem wq {p : Prop} (h : p := by first | exact fun _ _ => trivial | exact fun _ _ => ⟨rfl, rfl⟩ | exact wr_nil | (simp +decide [go_sem]; done) | fail) : p := h
theorem to1 {p : Prop} (h : p := by
  first
  | (simp +decide only [go_sem]; done)
  | (simp +decide only [go_sem]; (try simp (disch := first | exact ds | fail) only [go_sem, Nat.reduceAdd, Nat.reduceMul, Nat.reduceSub, Int.reduceToNat, Int.reduceNeg, Nat.reduceLeDiff, hD]); (try simp only [SV.pl.injEq, SV.sl.injEq, Value.int.injEq, Bk.c.injEq, encI_inj, true_and]); (try omega); done)
  | (simp (disch := first | exact ds | fail) only [go_sem, Nat.reduceAdd, Nat.reduceMul, Nat.reduceSub, Int.reduceToNat, Int.reduceNeg, Nat.reduceLeDiff, hD]; done)
  | omega
  | assumption
  | fail) : p := h
section
variable {C : Cx} {st : St} {Q : SQ} {K : St → Prop} {ops : Array Oper} {l : List Oper} {ks : List Kont} {T : Nat → Option TI} {d ty : Nat} {op : Op} {pos : String} {af : Array Edge} {g : Option (Nat × Bool)} {side p : Prop} {sv : SV} {st' : St} {dst : Option Nat}
/-! ## Operations -/
theorem sP (h : K (st.set d sv)) (hT : TOk C.P T := by exact tyOk) (he : pev T st st.ev op = some (True, sv) := by exact ev) (hd : d < st.n := by exact nn) : Sop C { dst := some d, op := op, type := ty, pos := pos, after := af, guard := g } st K := Sop.pure hT he trivial hd h
theorem sQ (h : side → K (st.set d sv)) (hT : TOk C.P T := by exact tyOk) (he : pev T st st.ev op = some (side, sv) := by exact ev) (hd : d < st.n := by exact nn) (hs : side := by exact sd) : Sop C { dst := some d, op := op, type := ty, pos := pos, after := af, guard := g } st K := Sop.pure hT he hs hd (h hs)
theorem sX (h : side → K st') (hT : TOk C.P T := by exact tyOk) (he : xop T C.M.wr st dst op = some (side, st') := by exact ev) (hs : side := by exact sd) : Sop C { dst := dst, op := op, type := ty, pos := pos, after := af, guard := g } st K := xop_ok hT he hs (h hs)
theorem sY {P : Program} (h : side → K st') (hC : C.P = P := by rfl) (hT : TOk P T := by exact tyOk) (he : yop T C.M.wr st dst op = some (side, st') := by exact ev) (hs : side := by exact pm) : Sop C { dst := dst, op := op, type := ty, pos := pos, after := af, guard := g } st K := by
  subst hC
  exact yop_ok hT he hs (h hs)
theorem z3 {t : Nat} {x y m : Operand} (hK : side → K (st.set d sv)) (hT : TOk C.P T := by exact tyOk) (he : pSlice3 T t (st.ev x) (st.ev y) (st.ev m) = some (side, sv) := by exact ev) (hd : d < st.n := by exact nn) (hs : side := by exact pm) :
    Sop C { dst := some d, op := .slice t x none (some y) (some m), type := ty, pos := pos, after := af, guard := g } st K := O.s3 hT he hd hs hK
theorem zz {f t : Nat} {c : Call} {n : Nat} {x : Operand} (hK : K (((st.kill d).setBlk d (.c 1 (List.replicate n [.dead]))).set d (.sl d 0 n))) (hf : MnzOk C.P f t := by exact mnzOk) (hc : c.callee = .value (.func f) := by rfl) (hargs : c.args.toList = [x] := by rfl) (he : st.ev x = .pl (.int .i64 n) := by exact ev) (hd : d < st.n := by exact nn) (hn : n ≤ 281474976710656 := by exact pm) :
    Sop C { dst := some d, op := .call c, type := ty, pos := pos, after := af, guard := g } st K := O.mnz hf hc hargs he hd hn hK
theorem zg {j e : Nat} {want c b : Bool} {oj : Oper} (h : (gWant want c b = true → side) → Sl C ops l (st.set d (.cn (gWant want c b) sv)) K) (hT : TOk C.P T := by exact tyOk) (hj : ops[j]? = some oj := by rfl) (hdj : oj.dst = some e := by rfl) (hv : gVal (st.get e) = some (c, b) := by exact ev)
    (he : pev T st (fun x => (st.ev x).assume (gWant want c b)) op = some (side, sv) := by exact ev) (hn : e < st.n := by exact nn) (hd : d < st.n := by exact nn) (hs : gWant want c b = true → side := by exact sg) : Sl C ops ({ dst := some d, op := op, type := ty, pos := pos, after := af, guard := some (j, want) } :: l) st K :=
  O.g hT hj hdj hv he hn hd hs h
theorem zs {j e : Nat} {want c b : Bool} {oj : Oper} (h1 : b = true → Sl C ops ({ dst := dst, op := op, type := ty, pos := pos, after := af, guard := some (j, want) } :: l) st K) (h2 : b = false → Sl C ops ({ dst := dst, op := op, type := ty, pos := pos, after := af, guard := some (j, want) } :: l) st K)
    (hj : ops[j]? = some oj := by rfl) (hdj : oj.dst = some e := by rfl) (hv : gVal (st.get e) = some (c, b) := by exact ev) : Sl C ops ({ dst := dst, op := op, type := ty, pos := pos, after := af, guard := some (j, want) } :: l) st K := O.split hj hdj hv h1 h2
theorem zj {j e : Nat} {want c b : Bool} {oj : Oper} (h1 : gWant want c b = true → Sop C { dst := some d, op := op, type := ty, pos := pos, after := af, guard := some (j, want) } st fun s => Sl C ops l s K) (h2 : gWant want c b = false → Sl C ops l (st.set d (.cn false .dead)) K)
    (hj : ops[j]? = some oj := by rfl) (hdj : oj.dst = some e := by rfl) (hv : gVal (st.get e) = some (c, b) := by exact ev) (hn : e < st.n := by exact nn) (hd : d < st.n := by exact nn) : Sl C ops ({ dst := some d, op := op, type := ty, pos := pos, after := af, guard := some (j, want) } :: l) st K := O.gi hj hdj hv hn hd h1 h2
theorem sA {o : Oper} (t : Nat) {c : Bool} {s : SV} (hK : Sop C o (st.set t s) K) (h : st.get t = .cn c s := by exact ev) (hc : c = true := by first | exact hb | (simpa only [go_sem] using hb) | rfl) : Sop C o st K := X.asm t h hc hK
theorem zI {c : Operand} {x y : Code} {b : Bool} (h1 : b = true → Swk C Q ks x st) (h2 : b = false → Swk C Q ks y st) (he : st.ev c = .pl (.bool b) := by exact ev0) : Swk C Q ks (.cond c x y) st := W.cond he h1 h2
theorem zM {id id' : Nat} (h : Swe C Q ks id st) (hn : id ≠ id' := by decide) : Swe C Q (.blk id' :: ks) id st := E.miss hn h
/-! ## Calls -/
/-- A call of f with these arguments; what is to hold behind it. -/
def CK (C : Cx) (f : Nat) (pins : Pins) (args : List SV) (sh : Bool) (st : St) (bs : Bs) (d : Option Nat) (K : St → Prop) : Prop := ∃ ps r, TSpec C.P f pins args sh ps r ∧ impOk r ∧ K (bindR (backs st bs ps) d r)
theorem k1 {c : Call} {f : Nat} (sh : Bool) (pa : List (Nat × Nat × Option Nat)) {bs : Bs} {pins : Pins} {args : List SV} (hk : CallOk C.P f) (h : CK C f pins args sh st bs dst K) (hc : c.callee = .value (.func f) := by rfl) (hb0 : pa.map (pinAt (c.args.toList.map st.ev)) = bs := by exact ev)
    (hbs : bsOk bs = true := by decide) (hw : ∀ q ∈ bs, C.M.wr q.2 := by exact wq) (hp : pinsOf st.blk (toPin bs) bs = some pins := by exact ev) (ha : (c.args.toList.map st.ev).map (argSV (lentB st bs sh) (toPin bs)) = args := by exact ev) (hd : dOk st.n dst := by exact nn) :
    Sop C { dst := dst, op := .call c, type := ty, pos := pos, after := af, guard := g } st K := by
  obtain ⟨ps, r, h1, h2, h3⟩ := h
  exact X.cp pa h1 hk hc hb0 hbs hw hp ha hd h2 rfl h3
theorem k2 {f : Nat} {bs : Bs} {pins ps : Pins} {args : List SV} {sh : Bool} {r : SV} (hsp : TSpec C.P f pins args sh ps r) (h : K st') (hi : impOk r := by exact pm) (hb : bindR (backs st bs ps) dst r = st' := by exact ev) : CK C f pins args sh st bs dst K :=
  ⟨ps, r, hsp, hi, by rw [hb]; exact h⟩
/-! ## Ghost steps -/
section
variable {c : Code} {st2 : St}
theorem gV (t d k : Nat) (h : Swk C Q ks c (st.virt t d k)) : Swk C Q ks c st := W.virt t d k h
theorem gA (b i j d k : Nat) (h : Swk C Q ks c (st.virtAt b i j d k)) : Swk C Q ks c st := W.virtAt b i j d k h
theorem gZ (b : Nat) (h : Swk C Q ks c (st.frz b)) : Swk C Q ks c st := W.frz b h
theorem gR (d d' : Nat) (h : Swk C Q ks c (st.ren d d')) (hw : ∀ b, C.M.wr b := by exact fun _ => trivial) : Swk C Q ks c st := W.ren hw d d' h
theorem gF (b i j : Nat) (h : Swk C Q ks c st') (hw : ∀ b, C.M.wr b := by exact fun _ => trivial) (he : st.foldAt b i j = some (p, st') := by exact ev) (hp : p := by exact pm) : Swk C Q ks c st := W.fold hw b i j he hp h
theorem gU (b i j n : Nat) (h : Swk C Q ks c st') (hw : ∀ b, C.M.wr b := by exact fun _ => trivial) (he : st.unfoldAt b i j n = some (p, st') := by exact ev) (hp : p := by exact pm) : Swk C Q ks c st := W.unfold hw b i j n he hp h
theorem eV (t d k : Nat) (h : Weak C (st.virt t d k) st2) : Weak C st st2 := K.virt t d k h
theorem eA (b i j d k : Nat) (h : Weak C (st.virtAt b i j d k) st2) : Weak C st st2 := K.virtAt b i j d k h
theorem eZ (b : Nat) (h : Weak C (st.frz b) st2) : Weak C st st2 := K.frz b h
theorem eR (d d' : Nat) (h : Weak C (st.ren d d') st2) (hw : ∀ b, C.M.wr b := by exact fun _ => trivial) : Weak C st st2 := K.ren hw d d' h
theorem eF (b i j : Nat) (h : Weak C st' st2) (hw : ∀ b, C.M.wr b := by exact fun _ => trivial) (he : st.foldAt b i j = some (p, st') := by exact ev) (hp : p := by exact pm) : Weak C st st2 := K.fold hw b i j he hp h
theorem eU (b i j n : Nat) (h : Weak C st' st2) (hw : ∀ b, C.M.wr b := by exact fun _ => trivial) (he : st.unfoldAt b i j n = some (p, st') := by exact ev) (hp : p := by exact pm) : Weak C st st2 := K.unfold hw b i j n he hp h
end
/-! ## States compared; loops; the beginning; the return -/
theorem wt {n : Nat} {sl : List (Nat × SV)} {bl : List (Nat × Bk)} {df : List Dfd} (hn : st.n = n := by rfl) (h1 : slOk st sl := by exact to1) (h3 : blOk st bl := by exact to1) (hd : st.df = df := by exact dfe) : Weak C st ⟨n, sl, bl, df⟩ := Weak.to hn h1 h3 hd
theorem wI {c : Code} (I : Nat → St) (H : Nat → Prop) (N : Nat) (h : ∀ k, k ≤ N → H k → Swk C Q (.fin (fun s => k < N ∧ H (k + 1) ∧ Weak C s (I (k + 1))) :: ks) c (I k)) (hw : Weak C st (I 0) := by exact wt) (h0 : H 0 := by exact to1) : Swk C Q ks (.loop c) st := W.iter I H N hw h0 h
theorem nF {k N : Nat} {H2 : Prop} {s2 : St} (hw : Weak C st s2) (hk : k < N := by omega) (hH : H2 := by exact to1) : Swn C Q (.fin (fun s => k < N ∧ H2 ∧ Weak C s s2) :: ks) st := Go.Vcg.N.fin ⟨hk, hH, hw⟩
theorem nH {k N : Nat} {H2 : Prop} {s2 : St} (hH : H2) (hw : Weak C st s2) (hk : k < N := by omega) : Swn C Q (.fin (fun s => k < N ∧ H2 ∧ Weak C s s2) :: ks) st := Go.Vcg.N.fin ⟨hk, hH, hw⟩
/-- What is asked at the end, behind ghost steps. -/
def EW (C : Cx) (T : Nat → Option TI) (rs : List ResultVar) (pins : Pins) (sh : Bool) (post : Pins → Out → Prop) : SQ := fun e st => ∃ st', Weak C st st' ∧ Ends T rs pins sh post e st'
theorem EW.to {rs : List ResultVar} {pins : Pins} {sh : Bool} {post : Pins → Out → Prop} {c : Code} (h : Swp C c st (EW C T rs pins sh post)) : Swp C c st (Ends T rs pins sh post) := by
  unfold Swp at h ⊢
  intro a w hd
  refine wpm (h a w hd) fun e a w hq => ?_
  cases e with
  | outgrown => exact hq
  | panic ch => exact hq
  | _ =>
    obtain ⟨st1, ⟨st2, h1, h2⟩, h3⟩ := hq
    unfold Weak at h1
    exact ⟨st2, h2, h1 _ _ h3⟩
theorem sT {P : Program} {f : Nat} {fn : Func} {c : Code} {pins : Pins} {args : List SV} {sh : Bool} {post : Pins → Out → Prop} (n : Nat) (rs : List ResultVar) (hf : P.funcs[f]? = some fn)
    (h : ∀ (w0 : World) (S0 : Nat → Prop) (ρ0 : Nat → Option Loc) (φ0 : Nat → Nat → Prop), Swk ⟨P, w0, pinM ρ0 φ0 pins, S0, panC pins sh post⟩ (EW ⟨P, w0, pinM ρ0 φ0 pins, S0, panC pins sh post⟩ T rs pins sh post) [] c (St.start n args pins))
    (hT : TOk P T := by exact tyOk) (hb : fn.body = some c := by rfl) (hnt : fn.ntmps = n := by rfl) (hrs : fn.results.toList = rs := by rfl) (hn : args.length ≤ n := by exact Nat.le_of_ble_eq_true rfl) (hn' : n ≤ 1000000 := by exact Nat.le_of_ble_eq_true rfl) : MSpec P f pins args sh post :=
  MSpec.of_code hT hf hb hnt hrs hn hn' fun w0 S0 ρ0 φ0 => EW.to (W.start (h w0 S0 ρ0 φ0))
section
variable {rs : List ResultVar} {pins ps : Pins} {ss : List SV} {ns : List Nat} {t : SV} {sh : Bool} {post : Pins → Out → Prop} {e : Exit}
theorem rT (h1 : resSV T st rs = some (side, ss) := by exact ev) (h2 : side := by exact sd) (h3 : exRes st.blk ss t = some (p, ns) := by exact ev) (h4 : p := by exact pm) (h5 : decide ns.Nodup = true := by decide) (h6 : pinsTold st pins ns ps := by exact pm) (h7 : t.shut = true := by exact pm) (h9 : (ps.all fun q => q.2.shut) = true := by exact pm) (h0 : st.df = [] := by exact dfz) :
    EW C T rs pins false (fun ps' o => ps' = ps ∧ o = .ret t) .ret st := ⟨st, Weak.refl C st, R.told h1 h2 h3 h4 h5 h6 h7 h9 h0⟩
theorem rS (h1 : resSV T st rs = some (side, ss) := by exact ev) (h2 : side := by exact sd) (h3 : exRes st.blk ss t = some (p, ns) := by exact ev) (h4 : p := by exact pm) (h5 : decide ns.Nodup = true := by decide) (h6 : pinsTold st pins ns ps := by exact pm) (h0 : st.df = [] := by exact dfz) :
    EW C T rs pins true (fun ps' o => ps' = ps ∧ o = .ret t) .ret st := ⟨st, Weak.refl C st, R.share h1 h2 h3 h4 h5 h6 h0⟩
theorem rN (h : EW C T rs pins sh post .ret st) : Swn C (EW C T rs pins sh post) [] st := N.nil (show EW C T rs pins sh post .normal st from h)
theorem hV (t d k : Nat) (h : EW C T rs pins sh post e (st.virt t d k)) : EW C T rs pins sh post e st := by
  obtain ⟨st', h1, h2⟩ := h
  exact ⟨st', (Weak.virt C st t d k).trans h1, h2⟩
theorem hA (b i j d k : Nat) (h : EW C T rs pins sh post e (st.virtAt b i j d k)) : EW C T rs pins sh post e st := by
  obtain ⟨st', h1, h2⟩ := h
  exact ⟨st', (Weak.virtAt C st b i j d k).trans h1, h2⟩
theorem hZ (b : Nat) (h : EW C T rs pins sh post e (st.frz b)) : EW C T rs pins sh post e st := by
  obtain ⟨st', h1, h2⟩ := h
  exact ⟨st', (Weak.frz C st b).trans h1, h2⟩
theorem hR (d d' : Nat) (h : EW C T rs pins sh post e (st.ren d d')) (hw : ∀ b, C.M.wr b := by exact fun _ => trivial) : EW C T rs pins sh post e st := by
  obtain ⟨st', h1, h2⟩ := h
  exact ⟨st', (Weak.ren C hw st d d').trans h1, h2⟩
theorem hF (b i j : Nat) (h : EW C T rs pins sh post e st') (hw : ∀ b, C.M.wr b := by exact fun _ => trivial) (he : st.foldAt b i j = some (p, st') := by exact ev) (hp : p := by exact pm) : EW C T rs pins sh post e st := by
  obtain ⟨st2, h1, h2⟩ := h
  exact ⟨st2, (Weak.foldAt C hw he hp).trans h1, h2⟩
theorem hU (b i j n : Nat) (h : EW C T rs pins sh post e st') (hw : ∀ b, C.M.wr b := by exact fun _ => trivial) (he : st.unfoldAt b i j n = some (p, st') := by exact ev) (hp : p := by exact pm) : EW C T rs pins sh post e st := by
  obtain ⟨st2, h1, h2⟩ := h
  exact ⟨st2, (Weak.unfoldAt C hw he hp).trans h1, h2⟩
end
end
/-! ## Drawn regions -/
section
variable {P : Program} {T : Nat → Option TI} {W : Nat → Bool} {ws : List Nat} {pan : List PanicEntry → St → Prop} {l : List Oper} {fuel : Nat} {listed : Array Bool} {st : St} {K : St → Prop} {side : Prop} {sv : SV} {d : Nat} {o : Oper}
theorem ld {W : Nat → Bool} {o : Oper} {all : Bool} {f : Operand → SV} (h : ∀ t x, o.op = .load t x → all = false → (f x).safe W = true := by
  first | (intro t x hx he; cases he; done) | (intro t x hx _; cases hx; done) | (intro t x hx _; cases hx; simp +decide only [go_sem]; done)) : ∀ t x, o.op = .load t x → all = false → (f x).safe W = true := h
theorem RCx_wr (P : Program) (W : Nat → Bool) (wri : Bool) (w0 : World) (may : Nat → Prop) (pin : Nat → Option Loc) (ro : Nat → Nat → Prop) (S0 : Nat → Prop) (pan : List PanicEntry → St → Prop) (b : Nat) : (RCx P W wri w0 may pin ro S0 pan).M.wr b = (wri = true ∧ W b = true) := rfl
attribute [go_sem] RCx_wr
theorem rD {C : Cx} {Q : SQ} {ks : List Kont} {id : Nat} (W : Nat → Bool) (ws : List Nat) (h : RA C.P W ws C.pan l.toArray l.length (Array.replicate l.length false) st (Swn C Q ks)) (hm : C.P.follows .mixedOrders = true := by exact mixed) (hW : ∀ b, C.M.wr b := by exact fun _ => trivial) (hro : ∀ b i, ¬ C.M.ro b i := by exact fun _ _ h => h) :
    Swk C Q ks (.region id l.toArray true) st := Go.Vcg.W.draw W ws hm hW hro h
theorem rE (h : K st) (hr : Region.ready .any l.toArray listed = [] := by kernel_rfl) : RA P W ws pan l.toArray fuel listed st K := RA.done hr h fuel
theorem rP (i : Nat) (all : Bool) (h : side → RA P W ws pan l.toArray fuel (listed.setIfInBounds i true) (st.set d sv) K) (hall : all = true → quiet l.toArray listed ws i = true := by first | (intro e; cases e; done) | (intro _; kernel_rfl)) (hT : TOk P T := by exact tyOk) (ho : nthO l i = some o := by rfl)
    (hs : Region.noSelect l.toArray = true := by kernel_rfl) (hf : Region.free .any l.toArray listed i = true := by kernel_rfl) (hr : (Region.ready .any l.toArray listed).contains i = true := by kernel_rfl) (hd : o.dst = some d := by rfl) (hg : o.guard = none := by rfl)
    (he : pev T st st.ev o.op = some (side, sv) := by exact ev) (hl : ∀ t x, o.op = .load t x → all = false → (st.ev x).safe W = true := by exact ld) (hdn : d < st.n := by exact nn) (hsd : side := by exact sd) : RA P W ws pan l.toArray (fuel + 1) listed st K := RA.p all hall hT ho hs hf hr hd hg he hl hdn hsd h
theorem rG (i : Nat) (all : Bool) {j x : Nat} {want c g : Bool} {oj : Oper} (h : (gWant want c g = true → side) → RA P W ws pan l.toArray fuel (listed.setIfInBounds i true) (st.set d (.cn (gWant want c g) sv)) K) (hall : all = true → quiet l.toArray listed ws i = true := by first | (intro e; cases e; done) | (intro _; kernel_rfl))
    (hT : TOk P T := by exact tyOk) (ho : nthO l i = some o := by rfl) (hs : Region.noSelect l.toArray = true := by kernel_rfl) (hf : Region.free .any l.toArray listed i = true := by kernel_rfl) (hr : (Region.ready .any l.toArray listed).contains i = true := by kernel_rfl) (hd : o.dst = some d := by rfl) (hg : o.guard = some (j, want) := by rfl)
    (hj : nthO l j = some oj := by rfl) (hdj : oj.dst = some x := by rfl) (hv : gVal (st.get x) = some (c, g) := by exact ev) (he : pev T st (fun y => (st.ev y).assume (gWant want c g)) o.op = some (side, sv) := by exact ev) (hl : ∀ t y, o.op = .load t y → all = false → ((st.ev y).assume (gWant want c g)).safe W = true := by exact ld)
    (hxn : x < st.n := by exact nn) (hdn : d < st.n := by exact nn) (hsd : gWant want c g = true → side := by exact sg) : RA P W ws pan l.toArray (fuel + 1) listed st K := RA.g all hall hT ho hs hf hr hd hg hj hdj hv he hl hxn hdn hsd h
theorem rO (i : Nat) (h : ∀ w0 may pin ro S0, Sop (RCx P W (ws.contains i) w0 may pin ro S0 pan) o st fun st' => RA P W ws pan l.toArray fuel (listed.setIfInBounds i true) st' K) (ho : nthO l i = some o := by rfl) (hr : Region.ready .any l.toArray listed = [i] := by kernel_rfl) (hg : o.guard = none := by rfl) :
    RA P W ws pan l.toArray (fuel + 1) listed st K := RA.one ho hr fun w0 may pin ro S0 => So.op hg (h w0 may pin ro S0)
theorem rA (is : List Nat) (h : RAll P W ws pan l.toArray fuel listed st K is) (hr : Region.ready .any l.toArray listed = is := by kernel_rfl) (hne : is ≠ [] := by simp) : RA P W ws pan l.toArray (fuel + 1) listed st K := RA.all hr hne h
theorem xO {i : Nat} {is : List Nat} (h : ∀ w0 may pin ro S0, Sop (RCx P W (ws.contains i) w0 may pin ro S0 pan) o st fun st' => RA P W ws pan l.toArray fuel (listed.setIfInBounds i true) st' K) (hr : RAll P W ws pan l.toArray fuel listed st K is) (ho : nthO l i = some o := by rfl) (hg : o.guard = none := by rfl) :
    RAll P W ws pan l.toArray fuel listed st K (i :: is) := RX.of ho (fun w0 may pin ro S0 => So.op hg (h w0 may pin ro S0)) hr
end
end Go.Vcg
/- Rows that have arrays of numbers in them. -/
namespace Go.Vcg
section
variable (k : IntKind) (xs ys : List Int) (r : List SV)
theorem eA_take (n : Nat) (h : n = xs.length) : (encA k xs ++ r).take n = encA k xs := by
  subst h; rw [← encA_length k xs, List.take_left]
theorem eA_take_ge (n : Nat) (h : xs.length ≤ n) : (encA k xs ++ r).take n = encA k xs ++ r.take (n - xs.length) := by
  rw [List.take_append, List.take_of_length_le (by rw [encA_length]; exact h), encA_length]
theorem eA_drop_ge (n : Nat) (h : xs.length ≤ n) : (encA k xs ++ r).drop n = r.drop (n - xs.length) := by
  rw [List.drop_append, List.drop_of_length_le (by rw [encA_length]; exact h), encA_length, List.nil_append]
theorem eA_getD_lt (i : Nat) (h : i < xs.length) : (encA k xs ++ r).getD i .dead = .pl (.int k (xs.getD i 0)) := by
  rw [List.getD_eq_getElem?_getD, List.getElem?_append_left (by rw [encA_length]; exact h), ← List.getD_eq_getElem?_getD, encA_getD k xs i h]
theorem eA_getD_ge (i : Nat) (d : SV) (h : xs.length ≤ i) : (encA k xs ++ r).getD i d = r.getD (i - xs.length) d := by
  rw [List.getD_eq_getElem?_getD, List.getElem?_append_right (by rw [encA_length]; exact h), encA_length, ← List.getD_eq_getElem?_getD]
theorem eA_set_lt (i : Nat) (x : Int) (h : i < xs.length) : (encA k xs ++ r).set i (.pl (.int k x)) = encA k (xs.set i x) ++ r := by
  rw [List.set_append_left _ _ (by rw [encA_length]; exact h), encA_set]
theorem eA_set_ge (i : Nat) (c : SV) (h : xs.length ≤ i) : (encA k xs ++ r).set i c = encA k xs ++ r.set (i - xs.length) c := by
  rw [List.set_append_right _ _ (by rw [encA_length]; exact h), encA_length]
theorem eA_getD_add (n t : Nat) (d : SV) (h : n = xs.length) : (encA k xs ++ r).getD (n + t) d = r.getD t d := by
  rw [eA_getD_ge k xs r _ d (by omega), show n + t - xs.length = t by omega]
theorem eA_set_add (n t : Nat) (c : SV) (h : n = xs.length) : (encA k xs ++ r).set (n + t) c = encA k xs ++ r.set t c := by
  rw [eA_set_ge k xs r _ c (by omega), show n + t - xs.length = t by omega]
theorem eA_length : (encA k xs ++ r).length = xs.length + r.length := by rw [List.length_append, encA_length]
theorem eA_take_le (n : Nat) (h : xs.length ≤ n) : (encA k xs).take n = encA k xs := List.take_of_length_le (by rw [encA_length]; exact h)
theorem shutL_append (a b : List SV) : shutL (a ++ b) = (shutL a && shutL b) := by rw [shutL_eq, shutL_eq, shutL_eq, List.all_append]
theorem rowMap_append (f : SV → SV) (a b : List SV) : (a ++ b).map f = a.map f ++ b.map f := List.map_append
theorem rowAll_append (f : SV → Bool) (a b : List SV) : (a ++ b).all f = (a.all f && b.all f) := List.all_append
theorem putAt_eq (cs : List SV) : ∀ (row : List SV) (off : Nat), off + cs.length ≤ row.length → putAt row off cs = row.take off ++ cs ++ row.drop (off + cs.length) := by
  intro row off h
  refine List.ext_getElem? fun j => ?_
  rw [putAt_get cs row off j h]
  by_cases h1 : j < off
  · rw [if_neg (by omega), List.append_assoc, List.getElem?_append_left (by rw [List.length_take]; omega), List.getElem?_take, if_pos h1]
  · by_cases h2 : j < off + cs.length
    · rw [if_pos ⟨by omega, h2⟩, List.getElem?_append_left (by rw [List.length_append, List.length_take]; omega), List.getElem?_append_right (by rw [List.length_take]; omega), List.length_take]
      congr 1
      omega
    · rw [if_neg (by omega), List.getElem?_append_right (by rw [List.length_append, List.length_take]; omega), List.length_append, List.length_take, List.getElem?_drop]
      congr 1
      omega
/-- One list laid over another. -/
def ovL (xs : List Int) (i : Nat) (ys : List Int) : List Int := xs.take i ++ ys ++ xs.drop (i + ys.length)
theorem ovL_length (i : Nat) (h : i + ys.length ≤ xs.length) : (ovL xs i ys).length = xs.length := by
  unfold ovL; rw [List.length_append, List.length_append, List.length_take, List.length_drop]; omega
theorem eA_put (off : Nat) (h : off + ys.length ≤ xs.length) : putAt (encA k xs ++ r) off (encA k ys) = encA k (ovL xs off ys) ++ r := by
  rw [putAt_eq _ _ _ (by rw [eA_length, encA_length]; omega), List.take_append_of_le_length (by rw [encA_length]; omega), List.drop_append_of_le_length (by rw [encA_length, encA_length]; omega), encA_length, encA_take, encA_drop, ← List.append_assoc, encA_append, encA_append]
  rfl
theorem eA_put0 (h : ys.length = xs.length) : putAt (encA k xs ++ r) 0 (encA k ys) = encA k ys ++ r := by
  rw [eA_put k xs ys r 0 (by omega)]
  unfold ovL
  rw [List.take_zero, List.nil_append, Nat.zero_add, List.drop_of_length_le (by omega), List.append_nil]
theorem putAt_ge (a b cs : List SV) (off : Nat) (h : a.length ≤ off) (h2 : off + cs.length ≤ a.length + b.length) : putAt (a ++ b) off cs = a ++ putAt b (off - a.length) cs := by
  rw [putAt_eq _ _ _ (by rw [List.length_append]; exact h2), putAt_eq _ _ _ (by omega), List.take_append, List.drop_append, List.take_of_length_le h, List.drop_of_length_le (by omega), List.nil_append, List.append_assoc, List.append_assoc, List.append_assoc]
  congr 3
  congr 1
  omega
theorem eA_put_ge (cs : List SV) (off : Nat) (h : xs.length ≤ off) (h2 : off + cs.length ≤ xs.length + r.length) : putAt (encA k xs ++ r) off cs = encA k xs ++ putAt r (off - xs.length) cs := by
  rw [putAt_ge _ _ _ _ (by rw [encA_length]; exact h) (by rw [encA_length]; exact h2), encA_length]
theorem eA_one : (encA k xs ++ r).all SV.one = r.all SV.one := by rw [rowAll_append, encA_one, Bool.true_and]
theorem eA_isPl : (encA k xs ++ r).all SV.isPl = r.all SV.isPl := by rw [rowAll_append, encA_isPl, Bool.true_and]
theorem encA_shutC : (encA k xs).all SV.shutC = true := encA_all k xs fun _ => by simp [SV.shutC, SV.shut]
theorem conSV_app (a b : List Value) : (a ++ b).map conSV = a.map conSV ++ b.map conSV := List.map_append
end
attribute [go_sem] eA_take eA_take_ge eA_drop_ge eA_getD_lt eA_getD_ge eA_set_lt eA_set_ge eA_length eA_take_le visL_append frzL_append shutL_append cloRow_append rowMap_append rowAll_append visL_cons visL_nil eA_put0 eA_put eA_put_ge eA_one eA_isPl conSV_app conSV_replicate
  encA_length encA_getD encA_one encA_cloP encA_isPl encA_clo encA_dup encA_shut encA_frz encA_kill encA_vis encA_arg encA_lend eA_getD_add eA_set_add encA_shutC List.getElem?_cons_zero List.getElem?_cons_succ
end Go.Vcg
/- copy into a part of an array; a guard's bool is split. -/
namespace Go.Vcg
variable {w0 : World} {M : Perm} {S0 : Nat → Prop} {ρ : Nat → Option Loc} {φ : Nat → Nat → Prop} {S : Nat → Prop} {st : St} {a : Act} {w : World} {P : Program} {T : Nat → Option TI} {C : Cx} {K : St → Prop} {o : Oper}
theorem heads_encI (k : IntKind) (xs : List Int) : heads (encI k xs) = encA k xs := by
  unfold heads encI encA
  rw [List.map_map]
  rfl
def xCopyA (T : Nat → Option TI) (wr : Nat → Prop) (st : St) (t tx : Nat) (s x : SV) (d : Nat) : Option (Prop × St) := match T t, s with
  | some ti, .sa b i o k n => match ti.k with
    | .slice e => match T e, st.blk b with
      | some ei, some (.c kk rows) => match srcRows T st ei.size tx x with
        | some (side, ys) => some (d < st.n ∧ wr b ∧ k = 1 ∧ ei.size = 1 ∧ i < rows.length ∧ o + n ≤ (rows.getD i []).length ∧ dupRows ys = true ∧ (heads (ys.take (min ys.length n))).all SV.one = true ∧ side,
            (st.setBlk b (.c kk (rows.set i (putAt (rows.getD i []) o (heads (ys.take (min ys.length n))))))).set d (.pl (.int .i64 (min ys.length n : Nat))))
        | none => none
      | _, _ => none
    | _ => none
  | _, _ => none
theorem xCopyA_run (hT : TOk P T) (h : Sim w0 M S0 ρ φ S st a w) {t tx ty d : Nat} {vs0 vx : Value} {s x : SV} {side : Prop} {st' : St} (hrs : Rep ρ S w vs0 s) (hrx : Rep ρ S w vx x) (he : xCopyA T M.wr st t tx s x d = some (side, st')) (hs : side) :
    ∃ u w', (Builtin.copy_ #[t, tx] ty #[vs0, vx]).run P w = .ok u w' ∧ Holds w0 M S0 st' (a.put (some d) u) w' := by
  unfold xCopyA at he
  split at he <;> try (cases he; done)
  rename_i ti b i0 o k n ht
  split at he <;> try (cases he; done)
  rename_i e hk
  split at he <;> try (cases he; done)
  rename_i ei kk rows hei hb
  split at he <;> try (cases he; done)
  rename_i side' ys hsrc
  obtain ⟨rfl, rfl⟩ := Prod.mk.inj (Option.some.inj he)
  obtain ⟨g1, gwr, rfl, s2, g3, g4, g5, g6, g7⟩ := hs
  obtain ⟨dd, u1, u2⟩ := (hT t ti ht).und
  rw [hk] at u2
  obtain rfl := tk_slice u2
  obtain ⟨i, z, z1, z2, z3, z4, z5⟩ := (hT e ei hei).parts
  rw [s2] at hsrc
  obtain ⟨vs, hsr⟩ := src_ok (P := P) (F := fun _ => False) hT h hrx hsrc g7
  cases hrs with
  | per hr => cases hr
  | sa _ _ _ _ _ cap l hl hc hi ho =>
    obtain ⟨hesz, hok⟩ := h.cellsAt hb hl
    let c := min ys.length n
    have hcy : c ≤ ys.length := Nat.min_le_left _ _
    have hcn : c ≤ n := Nat.min_le_right _ _
    have hfl := hsr.flat.take c hcy
    have hlt : (ys.take c).length = c := by rw [List.length_take]; omega
    have hfirst := hsr.first c w hcy rfl
    have hrun := run_copy (P := P) (w := w) (tx := tx) (ty := ty) (n := n) (cap := cap) (base := some (l.addr i0 o)) u1 z1 (by rw [z4, s2]) (hsr.lenOf w) hfirst
    have hvl : (vs.take (c * 1)).length = c := by rw [hfl.len, hlt, Nat.mul_one]
    have hlr : rows[i0]? = some (rows.getD i0 []) := getD_some g3
    have hrel : RelL ρ S w (vs.take (c * 1)) (heads (ys.take c)) := by
      refine ⟨by rw [hvl]; unfold heads; rw [List.length_map, hlt], fun j v cc h1 h2 => ?_⟩
      unfold heads at h2
      rw [List.getElem?_map, Option.map_eq_some_iff] at h2
      obtain ⟨r, hr, rfl⟩ := h2
      have hrl := hfl.row j r hr
      obtain ⟨c0, rfl⟩ : ∃ c0, r = [c0] := by
        match r, hrl with
        | [c0], _ => exact ⟨c0, rfl⟩
      obtain ⟨G, _, _, q3⟩ := hfl.cell
      obtain ⟨u, e1, e2⟩ := q3 j [c0] 0 c0 hr rfl
      rw [Nat.add_zero, show j * 1 = j from Nat.mul_one j] at e1
      rw [h1] at e1
      obtain rfl := Option.some.inj e1
      refine e2.dup ?_
      have hrr : ys[j]? = some [c0] := by
        rw [List.getElem?_take] at hr
        split at hr
        · exact hr
        · cases hr
      exact dupRows_get g5 hrr (j := 0) rfl
    have hcl : (heads (ys.take c)).length = c := by unfold heads; rw [List.length_map, hlt]
    obtain ⟨w', r1, r2⟩ := store_cells (P := P) (vs.take (c * 1)) (heads (ys.take c)) w st rows (rows.getD i0 []) b i0 o 0 kk l gwr h hb hl hlr hrel g6 (by rw [hcl]; omega)
    rw [Nat.add_zero] at r2
    refine ⟨.int .i64 (c : Nat), w', ?_, _, _, S, r2.setSlot g1 (.per (.pl _))⟩
    rw [hrun]
    show ((storeCells (l.addr i0 o) (vs.take (c * 1))).run P w).andThen _ = _
    rw [r1]
    rfl
def yopA (T : Nat → Option TI) (wr : Nat → Prop) (st : St) (dst : Option Nat) : Op → Option (Prop × St)
  | .call c => match dst, c.callee, c.args.toList, c.argTypes.toList with
    | some d, .builtin .copy, [s, x], [t, tx] => xCopyA T wr st t tx (st.ev s) (st.ev x) d
    | _, _, _, _ => none
  | _ => none
theorem yopA_ok (hT : TOk C.P T) {side : Prop} {st' : St} (he : yopA T C.M.wr st o.dst o.op = some (side, st')) (hs : side) (hK : K st') : Sop C o st K := by
  unfold Sop
  intro Q a w _ ⟨ρ, φ, S, h⟩
  unfold yopA at he
  split at he <;> try (cases he; done)
  rename_i c hop
  split at he <;> try (cases he; done)
  rename_i d s x t tx hd hc ha ht
  obtain ⟨u, w', h1, h3⟩ := xCopyA_run (P := C.P) (ty := o.type) hT h (h.ev s) (h.ev x) he hs
  refine wp_value (v := u) (w' := w') ?_ ⟨st', hK, by rw [hd]; exact h3⟩
  have e1 : c.args = #[s, x] := Array.ext' (by simpa using ha)
  have e2 : c.argTypes = #[t, tx] := Array.ext' (by simpa using ht)
  unfold execOp
  simp [hop, resolve, hc, invoke, builtin, e1, e2, h1]
section
variable {d ty : Nat} {op : Op} {pos : String} {af : Array Edge} {g : Option (Nat × Bool)} {side : Prop} {st' : St} {dst : Option Nat}
theorem sYA {P : Program} (h : side → K st') (hC : C.P = P := by rfl) (hT : TOk P T := by exact tyOk) (he : yopA T C.M.wr st dst op = some (side, st') := by exact ev) (hs : side := by exact pm) : Sop C { dst := dst, op := op, type := ty, pos := pos, after := af, guard := g } st K := by
  subst hC
  exact yopA_ok hT he hs (h hs)
end
attribute [go_sem] yopA xCopyA heads_encI
end Go.Vcg
/- Calls of function values. -/
namespace Go.Vcg
section
variable {C : Cx} {st : St} {K : St → Prop} {ty : Nat} {pos : String} {af : Array Edge} {g : Option (Nat × Bool)} {dst : Option Nat}
attribute [go_sem] fnOf
theorem kV {c : Call} {f : Nat} {x : Operand} {xs ys : List SV} (sh : Bool) (pa : List (Nat × Nat × Option Nat)) {bs : Bs} {pins : Pins} {args : List SV} (hk : CallOk C.P f) (h : CK C f pins args sh st bs dst K) (hc : c.callee = .value x := by rfl) (hx : fnOf (st.ev x) = some (f, xs, ys) := by exact ev)
    (_hb0 : pa.map (pinAt (xs ++ c.args.toList.map st.ev ++ ys)) = bs := by exact ev) (hbs : bsOk bs = true := by decide) (hw : ∀ q ∈ bs, C.M.wr q.2 := by exact wq) (hp : pinsOf st.blk (toPin bs) bs = some pins := by exact ev)
    (ha : (xs ++ c.args.toList.map st.ev ++ ys).map (argSV (lentB st bs sh) (toPin bs)) = args := by exact ev) (hd : dOk st.n dst := by exact nn) :
    Sop C { dst := dst, op := .call c, type := ty, pos := pos, after := af, guard := g } st K := by
  obtain ⟨ps, r, h1, h2, h3⟩ := h
  refine Sop.callV bs h1 hk rfl hc hx hbs hw hp ha hd fun ps' o' ⟨e1, e2⟩ => ?_
  subst e1
  subst e2
  exact ⟨h2, h3⟩
attribute [go_sem] argN
theorem kN {c : Call} {f : Nat} (sh : Bool) (pa : List (Nat × Nat × Option Nat)) {bs : Bs} {pins : Pins} {args : List SV} (hk : CallOk C.P f) (h : CK C f pins args sh st bs dst K) (hc : c.callee = .value (.func f) := by rfl)
    (_hb0 : pa.map (pinAt (c.args.toList.map st.ev)) = bs := by exact ev) (hbs : bsOk bs = true := by decide) (hw : ∀ q ∈ bs, C.M.wr q.2 := by exact wq) (hp : pinsOf st.blk (toPin bs) bs = some pins := by exact ev)
    (ha : (c.args.toList.map st.ev).map (argN (argSV (lentB st bs sh) (toPin bs))) = args := by exact ev) (hd : dOk st.n dst := by exact nn) :
    Sop C { dst := dst, op := .call c, type := ty, pos := pos, after := af, guard := g } st K := by
  obtain ⟨ps, r, h1, h2, h3⟩ := h
  refine Sop.callN bs h1 hk rfl hc hbs hw hp ha hd fun ps' o' ⟨e1, e2⟩ => ?_
  subst e1
  subst e2
  exact ⟨h2, h3⟩
end
end Go.Vcg
/- append of n zeros to nil (slices.Grow). -/
namespace Go.Vcg
section
variable {w0 : World} {M : Perm} {S0 : Nat → Prop} {ρ : Nat → Option Loc} {φ : Nat → Nat → Prop} {S : Nat → Prop} {st : St} {a : Act} {w : World} {P : Program} {T : Nat → Option TI} {C : Cx} {K : St → Prop} {ty : Nat} {pos : String} {af : Array Edge} {g : Option (Nat × Bool)}
theorem zeroCells_at (z : Array Value) (n i : Nat) (hz : 0 < z.size) (hi : i < n * z.size) : (Builtin.zeroCells z n).toList[i]? = z.toList[i % z.size]? := by
  unfold Builtin.zeroCells
  simp only [Array.toList_map, Array.toList_range, List.getElem?_map, List.getElem?_range hi, Option.map_some]
  have : i % z.size < z.size := Nat.mod_lt _ hz
  rw [getElem!_pos z _ this]
  simp [this]
theorem run_append_z {t tx ty e k m : Nat} {kx kv : IntKind} {z : Value} {base : Option Addr} {i : TypeInfo} (ht : P.underlying t = some (.slice e)) (hx : P.underlying tx = some (.int kx)) (hi : P.info? e = some i) (hk : i.size = k) (hz : i.zero = some z)
    (hm : 0 < m) (hk0 : 0 < k) (h63 : m ≤ 140737488355328) (hfit : m * i.bytes ≤ 140737488355328) :
    (Builtin.append_ #[t, tx] ty #[.slice base 0 0, .int kv m]).run P w =
      .ok (.slice (some ⟨w.heap.size, 0, none⟩) m (grownCap w m 0 e)) (w.drew.alloc (.cells (Builtin.zeroCells z.cells m ++ Builtin.zeroCells z.cells (grownCap w m 0 e - m)) e)) := by
  have h0 : (IntKind.i64.wrap (m : Int)) = m := by
    simp only [IntKind.wrap, IntKind.signed, IntKind.bits]
    simp
    omega
  have h1 : ¬ ((m : Int) < 0) := by omega
  have h2 : ¬ (281474976710656 < (m : Int) * (i.bytes : Int)) := by
    have : ((m * i.bytes : Nat) : Int) ≤ 140737488355328 := by omega
    rw [Int.natCast_mul] at this
    omega
  have h4 : ¬ (9223372036854775807 < (m : Int)) := by omega
  have h5 : ¬ (281474976710656 < Builtin.nextslicecap m 0 * i.bytes) := by
    have := growslice_fits (need := m) (old := 0) (by omega) hfit
    omega
  have h6 : m * k ≠ 0 := Nat.mul_ne_zero (by omega) (by omega)
  cases base with
  | none => simp [Builtin.append_, run_underlying ht, run_underlying hx, sizeOf, typeInfo, zeroValue, hi, hk, hz, h0, h1, h2, h4, h5, h6, asInt, asIntOf, Question.forced, newRow, grownCap, Builtin.firstCells]; omega
  | some x => simp [Builtin.append_, run_underlying ht, run_underlying hx, sizeOf, typeInfo, zeroValue, hi, hk, hz, h0, h1, h2, h4, h5, h6, asInt, asIntOf, Question.forced, newRow, grownCap, Builtin.firstCells, loadCells, loadCellsFrom]; omega
def xAppZ (T : Nat → Option TI) (st : St) (t tx : Nat) (s x : SV) (d : Nat) : Option (Prop × St) := match T t, T tx, s, x with
  | some ti, some tj, .nl, .pl (.int _ n) => match ti.k, tj.k with
    | .slice e, .int _ => match T e with
      | some ei => some (d < st.n ∧ 0 ≤ n ∧ n ≤ 140737488355328 ∧ n * (ei.bytes : Int) ≤ 140737488355328 ∧ ei.zero.length = ei.size ∧ 0 < ei.size ∧ ei.zero.all Value.oneCell' = true,
          ((st.kill d).setBlk d (.c ei.size (List.replicate n.toNat (ei.zero.map conSV)))).set d (.sl d 0 n.toNat))
      | none => none
    | _, _ => none
  | _, _, _, _ => none
theorem O.appZ {c : Call} {s x : Operand} {t tx d : Nat} {side : Prop} {st' : St} (hT : TOk C.P T) (hc : c.callee = .builtin .append) (ha : c.args.toList = [s, x]) (ht : c.argTypes.toList = [t, tx])
    (he : xAppZ T st t tx (st.ev s) (st.ev x) d = some (side, st')) (hs : side) (hK : K st') : Sop C { dst := some d, op := .call c, type := ty, pos := pos, after := af, guard := g } st K := by
  unfold Sop
  intro Q a w _ ⟨ρ, φ, S, h⟩
  have e1 : c.args = #[s, x] := Array.ext' (by simpa using ha)
  have e2 : c.argTypes = #[t, tx] := Array.ext' (by simpa using ht)
  suffices hrun : ∃ u w', (Builtin.append_ #[t, tx] ty #[a.eval s, a.eval x]).run C.P w = .ok u w' ∧ Holds C.w0 C.M C.S0 st' (a.put (some d) u) w' by
    obtain ⟨u, w', h1, h3⟩ := hrun
    refine wp_value (v := u) (w' := w') ?_ ⟨st', hK, h3⟩
    unfold execOp
    simp [resolve, hc, invoke, builtin, e1, e2, h1]
  unfold xAppZ at he
  split at he <;> try (cases he; done)
  rename_i ti tj kv n hti htj hsv hxv
  split at he <;> try (cases he; done)
  rename_i e kx hk hkj
  split at he <;> try (cases he; done)
  rename_i ei hei
  obtain ⟨rfl, rfl⟩ := Prod.mk.inj (Option.some.inj he)
  obtain ⟨g1, g2, g3, g4, g5, g6, g7⟩ := hs
  obtain ⟨dd, u1, u2⟩ := (hT t ti hti).und
  rw [hk] at u2
  obtain rfl := tk_slice u2
  obtain ⟨dj, v1, v2⟩ := (hT tx tj htj).und
  rw [hkj] at v2
  obtain rfl := tk_int v2
  obtain ⟨i, z, z1, z2, z3, z4, z5⟩ := (hT e ei hei).parts
  have hzs : z.cells.size = ei.size := by rw [← g5, ← z3, Array.length_toList]
  have hrs := h.ev s
  rw [hsv] at hrs
  have hrx := h.ev x
  rw [hxv] at hrx
  rw [hrx.pl_eq]
  have hb : a.eval s = .slice none 0 0 := by
    generalize a.eval s = v at hrs
    cases hrs with
    | per hp => cases hp; rfl
  rw [hb]
  obtain ⟨m, rfl⟩ : ∃ m : Nat, n = m := ⟨n.toNat, by omega⟩
  rw [Int.toNat_natCast]
  by_cases hm : m = 0
  · subst hm
    obtain ⟨ρ', φ', h2, _⟩ := h.virtBlk d ei.size (not_pin_of_lt g1 h.small)
    refine ⟨.slice none 0 0, w, ?_, ρ', φ', S, h2.setSlot g1 (.sl0 none d 0)⟩
    simp [Builtin.append_, run_underlying u1, run_underlying v1, sizeOf, typeInfo, z1, asInt, asIntOf, IntKind.wrap, IntKind.signed, IntKind.bits]
  · have hfit : m * i.bytes ≤ 140737488355328 := by
      rw [z5]
      have : ((m * ei.bytes : Nat) : Int) ≤ 140737488355328 := by rw [Int.natCast_mul]; exact g4
      omega
    have hrun := run_append_z (P := C.P) (w := w) (ty := ty) (kv := kv) (base := none) u1 v1 z1 z4 z2 (by omega) g6 (by omega) hfit
    refine ⟨_, _, hrun, ?_⟩
    have hge := grownCap_ge w m 0 e
    have hsz : (Builtin.zeroCells z.cells m).toList.length = m * ei.size := by rw [Array.length_toList, size_zeroCells, hzs]
    have hat : ∀ i, i < m * ei.size → (Builtin.zeroCells z.cells m).toList[i]? = ei.zero[i % ei.size]? := fun i hi => by
      rw [zeroCells_at z.cells m i (by omega) (by rw [hzs]; exact hi), hzs, z3]
    have hflat : Flat ρ S w.drew ei.size (Builtin.zeroCells z.cells m).toList (List.replicate m (ei.zero.map conSV)) (fun _ => False) := by
      refine .plain (by rw [hsz]; simp) (fun i r hr => ?_) (fun v hv => ?_) (fun i' r j cc hr hj => ?_)
      · rw [List.getElem?_replicate] at hr
        split at hr <;> simp at hr
        subst hr
        simp [g5]
      · obtain ⟨idx, hidx, rfl⟩ := List.getElem_of_mem hv
        have := hat idx (by rw [← hsz]; exact hidx)
        rw [List.getElem?_eq_getElem hidx] at this
        exact List.all_eq_true.mp g7 _ (List.mem_of_getElem? this.symm)
      · rw [List.getElem?_replicate] at hr
        split at hr
        · rename_i hlt
          simp only [Option.some.injEq] at hr
          subst hr
          rw [List.getElem?_map, Option.map_eq_some_iff] at hj
          obtain ⟨v, hv, rfl⟩ := hj
          have hj2 : j < ei.size := by rw [← g5]; exact (List.getElem?_eq_some_iff.mp hv).1
          refine ⟨v, ?_, .per (conSV_rep S w.drew v)⟩
          have hbb : i' * ei.size + j < m * ei.size := by
            have : (i' + 1) * ei.size ≤ m * ei.size := Nat.mul_le_mul_right _ hlt
            rw [Nat.succ_mul] at this
            omega
          rw [hat _ hbb, Nat.mul_add_mod_of_lt hj2]
          exact hv
        · cases hr
    have := (Sim.drew h).bufNew (d := d) (cap := grownCap w m 0 e) (rest := (Builtin.zeroCells z.cells (grownCap w m 0 e - m)).toList) e g1 _ (fun x hx => hx.elim) hflat (by rw [List.length_replicate]; omega)
      (by rw [hsz, Array.length_toList, size_zeroCells, hzs, ← Nat.add_mul]; exact Nat.mul_le_mul_right _ (by omega)) (Builtin.zeroCells z.cells m ++ Builtin.zeroCells z.cells (grownCap w m 0 e - m)) (by simp)
    rw [killRows_con, List.length_replicate] at this
    exact this
def slK (T : Nat → Option TI) (t : Nat) : Option Nat := match T t with
  | some ti => match ti.k with
    | .slice e => some e
    | _ => none
  | none => none
theorem sC0 {c : Call} {x : Operand} {t e d : Nat} (hK : K (st.set d (.pl (.int .i64 0)))) (hT : TOk C.P T := by exact tyOk) (ht : c.argTypes.toList = [t] := by rfl) (hti : slK T t = some e := by exact ev) (hc : c.callee = .builtin .cap := by rfl) (ha : c.args.toList = [x] := by rfl) (he : st.ev x = .nl := by exact ev) (hd : d < st.n := by exact nn) :
    Sop C { dst := some d, op := .call c, type := ty, pos := pos, after := af, guard := g } st K := by
  unfold Sop
  intro Q a w _ ⟨ρ, φ, S, h⟩
  have e1 : c.args = #[x] := Array.ext' (by simpa using ha)
  have e2 : c.argTypes = #[t] := Array.ext' (by simpa using ht)
  unfold slK at hti
  split at hti <;> try (cases hti; done)
  rename_i ti hti'
  split at hti <;> try (cases hti; done)
  rename_i e' hk
  obtain ⟨dd, u1, u2⟩ := (hT t ti hti').und
  rw [hk] at u2
  obtain rfl := tk_slice u2
  have hrs := h.ev x
  rw [he] at hrs
  have hb : a.eval x = .slice none 0 0 := by
    generalize a.eval x = v at hrs
    cases hrs with
    | per hp => cases hp; rfl
  refine wp_value (v := .int .i64 0) (w' := w) ?_ ⟨_, hK, ρ, φ, S, h.setSlot hd (.per (.pl _))⟩
  unfold execOp
  simp [resolve, hc, invoke, builtin, e1, e2, hb, Builtin.cap_, run_underlying u1, goInt]
attribute [go_sem] xAppZ slK
theorem sZ {c : Call} {s x : Operand} {t tx d : Nat} {side : Prop} {st' : St} (hK : side → K st') (hT : TOk C.P T := by exact tyOk) (hc : c.callee = .builtin .append := by rfl) (ha : c.args.toList = [s, x] := by rfl) (ht : c.argTypes.toList = [t, tx] := by rfl)
    (he : xAppZ T st t tx (st.ev s) (st.ev x) d = some (side, st') := by exact ev) (hs : side := by exact pm) : Sop C { dst := some d, op := .call c, type := ty, pos := pos, after := af, guard := g } st K := O.appZ hT hc ha ht he hs (hK hs)
end
end Go.Vcg
/- A pick whose bool is known. -/
namespace Go.Vcg
section
variable {w0 : World} {M : Perm} {S0 : Nat → Prop} {ρ : Nat → Option Loc} {φ : Nat → Nat → Prop} {S : Nat → Prop} {st : St} {a : Act} {w : World} {C : Cx} {K : St → Prop} {ty d : Nat} {pos : String} {af : Array Edge} {g : Option (Nat × Bool)} {c x y : Operand}
theorem sPick {b : Bool} (hc : st.ev c = .pl (.bool b)) (hK : K (st.set d (if b then st.ev x else st.ev y))) (hd : d < st.n) : Sop C { dst := some d, op := .pick c x y, type := ty, pos := pos, after := af, guard := g } st K := by
  unfold Sop
  intro Q a w _ ⟨ρ, φ, S, h⟩
  have hrc := h.ev c
  rw [hc] at hrc
  refine wp_value (v := if b then a.eval x else a.eval y) (w' := w) ?_ ⟨_, hK, ρ, φ, S, h.setSlot hd ?_⟩
  · unfold execOp
    simp [hrc.pl_eq, asBool]
  · cases b
    · exact h.ev y
    · exact h.ev x
theorem sPt (hK : K (st.set d (st.ev x))) (hc : st.ev c = .pl (.bool true) := by exact ev) (hd : d < st.n := by exact nn) : Sop C { dst := some d, op := .pick c x y, type := ty, pos := pos, after := af, guard := g } st K := sPick hc hK hd
theorem sPf (hK : K (st.set d (st.ev y))) (hc : st.ev c = .pl (.bool false) := by exact ev) (hd : d < st.n := by exact nn) : Sop C { dst := some d, op := .pick c x y, type := ty, pos := pos, after := af, guard := g } st K := sPick hc hK hd
def nnl : SV → Option Prop
  | .pd rows => some (0 < rows.length)
  | .sl _ _ n => some (0 < n)
  | _ => none
theorem nnl_ok {ρ : Nat → Option Loc} {S : Nat → Prop} {w : World} {v : Value} {s : SV} {p : Prop} (h : Rep ρ S w v s) (he : nnl s = some p) (hp : p) : ∃ ad n c, v = .slice (some ad) n c := by
  unfold nnl at he
  split at he
  · obtain rfl := Option.some.inj he
    cases h with
    | per h => cases h <;> first | exact ⟨_, _, _, rfl⟩ | (simp at hp; done)
  · obtain rfl := Option.some.inj he
    cases h with
    | per h => cases h
    | sl => exact ⟨_, _, _, rfl⟩
    | sl0 => exact absurd hp (by omega)
  · cases he
theorem eqs_none (P : Program) (d t e : Nat) (ad : Addr) (n c n' c' : Nat) (w' : World) (h : P.underlying t = some (.slice e)) : (Op.equalIn (d + 1) t (.slice (some ad) n c) (.slice none n' c')).run P w' = .ok false w' := by
  simp [Op.equalIn, run_underlying h]
theorem sEN {T : Nat → Option TI} {t e : Nat} {side : Prop} {yt : Nat} (hK : K (st.set d (.pl (.bool false)))) (hT : TOk C.P T := by exact tyOk) (ht : slK T t = some e := by exact ev) (hx : nnl (st.ev x) = some side := by exact ev) (hy : st.ev y = .nl := by exact ev) (hs : side := by exact pm) (hd : d < st.n := by exact nn) :
    Sop C { dst := some d, op := .binOp .eql t x y yt, type := ty, pos := pos, after := af, guard := g } st K := by
  unfold Sop
  intro Q a w _ ⟨ρ, φ, S, h⟩
  unfold slK at ht
  split at ht <;> try (cases ht; done)
  rename_i ti hti'
  split at ht <;> try (cases ht; done)
  rename_i e' hk
  obtain ⟨dd, u1, u2⟩ := (hT t ti hti').und
  rw [hk] at u2
  obtain rfl := tk_slice u2
  obtain ⟨ad, n, c', hv⟩ := nnl_ok (h.ev x) hx hs
  have hrs := h.ev y
  rw [hy] at hrs
  have hb : a.eval y = .slice none 0 0 := by
    generalize a.eval y = v at hrs
    cases hrs with
    | per hp => cases hp; rfl
  refine wp_value (v := .bool false) (w' := w) ?_ ⟨_, hK, ρ, φ, S, h.setSlot hd (.per (.pl _))⟩
  have key := (eql_of (P := C.P) x y (fun op => by rw [eqGuard_at_slice]; rfl) rfl rfl (eqs_none C.P _ t _ ad n c' 0 0 w u1)).1
  show Sem.run C.P (do
    let r ← (do
      eqGuard .eql t x y (a.eval x) (a.eval y)
      binOp .eql t (a.eval x) (a.eval y))
    pure (Next.value r)) w = _
  rw [hv, hb, Sem.run_bind, key]
  rfl
attribute [go_sem] nnl
end
end Go.Vcg
/- A slice turned into a pointer to an array. -/
namespace Go.Vcg
theorem pAP_def (T : Nat → Option TI) (t : Nat) (x : SV) : pAP T t x = match T t, x with
  | some ti, .pd rows => match ti.k with
    | .arr n _ => some (0 < n ∧ n ≤ rows.length ∧ RowsLen rows 1, .bp ((heads rows).take n) 0)
    | _ => none
  | _, _ => none := rfl
attribute [go_sem] pAP heads_encI
end Go.Vcg
/- Deferred calls; locks. -/
namespace Go.Vcg
set_option linter.unusedVariables false
variable {w0 : World} {M : Perm} {S0 : Nat → Prop} {ρ : Nat → Option Loc} {φ : Nat → Nat → Prop} {S : Nat → Prop} {st : St} {a : Act} {w : World} {P : Program} {T : Nat → Option TI} {C : Cx} {K : St → Prop} {o : Oper} {ops : Array Oper}

/-! ## A call is put off -/

theorem Sim.defer (h : Sim w0 M S0 ρ φ S st a w) {f : Nat} {cap args : Array Value} {vs : List SV} (hl : args.size + cap.size = vs.length)
    (hr : ∀ (i : Nat) (v : Value) (s : SV), (args.toList ++ cap.toList)[i]? = some v → vs[i]? = some s → Rep ρ S w v s) :
    Sim w0 M S0 ρ φ S (st.setDf (⟨f, vs⟩ :: st.df)) { a with defers := ⟨.fn (.func f) cap, args⟩ :: a.defers } w := by
  refine ⟨h.size, ?_, h.slot, fun i j => ?_, h.heap, h.sb, h.base, h.from_, h.grow, h.keep, h.own, h.pin, h.small, h.wide⟩
  · simp only [List.map_cons, dsh, Dfd.sh, hl, h.defers, St.setDf]
  · cases i with
    | zero =>
      show Rep ρ S w (((args.toList ++ cap.toList)[j]?).getD undef) ((vs[j]?).getD .dead)
      cases e : vs[j]? with
      | none => exact .dead _
      | some s =>
        have hj : j < (args.toList ++ cap.toList).length := by
          have := (List.getElem?_eq_some_iff.mp e).1
          rw [List.length_append, Array.length_toList, Array.length_toList]
          omega
        rw [List.getElem?_eq_getElem hj]
        exact hr j _ s (List.getElem?_eq_getElem hj) e
    | succ i => exact h.dslot i j

theorem Sim.undefer (h : Sim w0 M S0 ρ φ S st a w) {f : Nat} {vs : List SV} {df : List Dfd} (hd : st.df = ⟨f, vs⟩ :: df) :
    ∃ (cap args : Array Value) (ds : List Deferred), a.defers = ⟨.fn (.func f) cap, args⟩ :: ds ∧ (args.toList ++ cap.toList).length = vs.length ∧
      (∀ (i : Nat) (v : Value) (s : SV), (args.toList ++ cap.toList)[i]? = some v → vs[i]? = some s → Rep ρ S w v s) ∧ Sim w0 M S0 ρ φ S (st.setDf df) { a with defers := ds } w := by
  have h1 := h.defers
  rw [hd] at h1
  cases e : a.defers with
  | nil => rw [e] at h1; simp at h1
  | cons d ds =>
    rw [e] at h1
    simp only [List.map_cons, List.cons.injEq] at h1
    obtain ⟨h1, h2⟩ := h1
    obtain ⟨t, args⟩ := d
    unfold dsh Dfd.sh at h1
    dsimp only at h1
    split at h1 <;> try (cases h1; done)
    rename_i f' cap
    simp only [Option.some.injEq, Prod.mk.injEq] at h1
    obtain ⟨rfl, h3⟩ := h1
    refine ⟨cap, args, ds, rfl, by rw [List.length_append, Array.length_toList, Array.length_toList]; exact h3, fun i v s g1 g2 => ?_, ⟨h.size, h2, h.slot, fun i j => ?_, h.heap, h.sb, h.base, h.from_, h.grow, h.keep, h.own, h.pin, h.small, h.wide⟩⟩
    · have := h.dslot 0 i
      unfold dval St.dget at this
      rw [e, hd] at this
      simp only [List.getElem?_cons_zero, Option.bind_some, dvals, g1, g2, Option.getD_some] at this
      exact this
    · have := h.dslot (i + 1) j
      unfold dval St.dget at this
      rw [e, hd] at this
      simp only [List.getElem?_cons_succ] at this
      exact this

theorem Sop.defer {c : Call} {f : Nat} {x : Operand} {ys : List SV} (ho : o.op = .defer c) (hc : c.callee = .value x) (hx : fnOf (st.ev x) = some (f, [], ys)) (hd : dOk st.n o.dst)
    (hK : K ((st.setDf (⟨f, c.args.toList.map st.ev ++ ys⟩ :: st.df)).put o.dst .dead)) : Sop C o st K := by
  unfold Sop
  intro Q a w _ ⟨ρ, φ, S, h⟩
  obtain ⟨va, vb, hv, hla, hlb, h1, h2⟩ := fnOf_ok (h.ev x) hx
  have hva : va = [] := List.eq_nil_of_length_eq_zero hla
  subst hva
  have hrun : (execOp a.eval o).run C.P w = .ok (.defer ⟨.fn (.func f) vb.toArray, c.args.map a.eval⟩) w := by
    unfold execOp
    rw [ho]
    simp [resolve, hc, hv, Deferred.ofValue]
  unfold Oper.wp
  rw [hrun, Oper.upon_defer]
  have hs := h.defer (f := f) (cap := vb.toArray) (args := c.args.map a.eval) (vs := c.args.toList.map st.ev ++ ys) (by simp [hlb]) (fun i v s e1 e2 => by
    have hl : (c.args.map a.eval).toList.length = (c.args.toList.map st.ev).length := by simp
    by_cases hi : i < (c.args.map a.eval).toList.length
    · rw [List.getElem?_append_left hi] at e1
      rw [List.getElem?_append_left (by omega)] at e2
      rw [Array.toList_map, List.getElem?_map, Option.map_eq_some_iff] at e1
      rw [List.getElem?_map, Option.map_eq_some_iff] at e2
      obtain ⟨p, e1, rfl⟩ := e1
      obtain ⟨q, e2, rfl⟩ := e2
      rw [e1] at e2
      obtain rfl := Option.some.inj e2
      exact h.ev p
    · rw [List.getElem?_append_right (by omega)] at e1
      rw [List.getElem?_append_right (by omega), ← hl] at e2
      exact h2 _ v s (by simpa using e1) e2)
  exact ⟨_, hK, ρ, φ, S, hs.put hd (.dead _)⟩

/-! ## The way out -/

/-- A deferred call leads from one state to another. -/
def DStep (C : Cx) (st st' : St) : Prop := ∀ a w, Hd C st a w → ∃ fv cap args ds f vals, a.defers = ⟨.fn fv cap, args⟩ :: ds ∧ (invoke (.fn fv cap) args).run C.P w = .ok (.enter f vals) w ∧
  ∀ u, CallsD C.P f vals u w fun e u' w' => u' = u ∧ ∃ v, e = .returned v ∧ Hd C st' { a with defers := ds } w'

inductive Quit (C : Cx) (T : Nat → Option TI) (rs : List ResultVar) (pins : Pins) (sh : Bool) (post : Pins → Out → Prop) : St → Prop
  | nil {st : St} (h : EW C T rs pins sh post .ret st) : Quit C T rs pins sh post st
  | step {st st' : St} (h : DStep C st st') (q : Quit C T rs pins sh post st') : Quit C T rs pins sh post st
  | weak {st st' : St} (h : Weak C st st') (q : Quit C T rs pins sh post st') : Quit C T rs pins sh post st

theorem Quit.ok (hT : TOk P T) {fn : Func} {w0 : World} {ρ0 : Nat → Option Loc} {φ0 : Nat → Nat → Prop} {pins : Pins} {sh : Bool} {post : Pins → Out → Prop} {pan : List PanicEntry → St → Prop} (hpin : ∀ b, pk pins b ≠ none → isPin b)
    (h : Quit ⟨P, w0, pinM ρ0 φ0 pins, S0, pan⟩ T fn.results.toList pins sh post st) : ∀ a w, Hd ⟨P, w0, pinM ρ0 φ0 pins, S0, pan⟩ st a w →
      Leaves P fn a.tmps (fun e w' => ∃ o pins' ρ' φ' S', post pins' o ∧ MPost S0 w0 ρ0 φ0 pins sh e w' o pins' ρ' φ' S') a.defers .returning w := by
  induction h with
  | nil h =>
    intro a w hd
    obtain ⟨st', hw, h0, hl⟩ := h
    unfold Weak at hw
    obtain ⟨ρ', φ', S', h'⟩ := hw a w hd
    obtain ⟨v, g1, o, ps, g2, g3⟩ := leave_ok (P := P) hT h' hpin hl
    rw [noDefers h'.defers h0]
    exact ⟨v, g1, o, ps, ρ', φ', _, g2, g3⟩
  | step h _ ih =>
    intro a w hd
    obtain ⟨fv, cap, args, ds, f, vals, e1, e2, e3⟩ := h a w hd
    rw [e1]
    refine leaves_cons (by simp) e2 ((e3 _).mono fun e u' w' hq => ?_)
    obtain ⟨rfl, v, rfl, hq⟩ := hq
    exact ih _ _ hq
  | weak h _ ih =>
    unfold Weak at h
    exact fun a w hd => ih a w (h a w hd)

/-- What is asked where the code ends. -/
def QD (C : Cx) (T : Nat → Option TI) (rs : List ResultVar) (pins : Pins) (sh : Bool) (post : Pins → Out → Prop) : SQ
  | .normal, st => Quit C T rs pins sh post st
  | .ret, st => Quit C T rs pins sh post st
  | _, _ => False

theorem MSpec.of_defers (hT : TOk P T) {f : Nat} {fn : Func} {c : Code} {pins : Pins} {args : List SV} {sh : Bool} {post : Pins → Out → Prop} {n : Nat} (hf : P.funcs[f]? = some fn) (hb : fn.body = some c) (hnt : fn.ntmps = n) {rs : List ResultVar} (hrs : fn.results.toList = rs) (hn : args.length ≤ n) (hn' : n ≤ 1000000)
    (h : ∀ (w0 : World) (S0 : Nat → Prop) (ρ0 : Nat → Option Loc) (φ0 : Nat → Nat → Prop), Swp ⟨P, w0, pinM ρ0 φ0 pins, S0, fun _ _ => False⟩ c (St.start n args pins) (QD ⟨P, w0, pinM ρ0 φ0 pins, S0, fun _ _ => False⟩ T rs pins sh post)) : MSpec P f pins args sh post := by
  intro w S ρ φ vals hS hh hpin hl hr
  subst hnt hrs
  refine calls_of_wp_defers hf hb ?_
  rw [List.size_toArray]
  have hsim := Sim.start hS hh hl hr hn hn'
  have hw := h w S ρ φ
  unfold Swp at hw
  refine wpm (hw _ w ⟨_, _, _, hsim⟩) fun e a' w' hq => ?_
  cases e with
  | normal => obtain ⟨st', h1, h2⟩ := hq; exact Quit.ok hT hpin h1 a' w' h2
  | ret => obtain ⟨st', h1, h2⟩ := hq; exact Quit.ok hT hpin h1 a' w' h2
  | exit i => obtain ⟨st', h1, h2⟩ := hq; exact h1.elim
  | goto i => obtain ⟨st', h1, h2⟩ := hq; exact h1.elim
  | panic ch => obtain ⟨st', h1, _⟩ := hq; exact h1.elim
  | outgrown => exact hq.elim

/-! ## Locks -/

/-- The function takes a mutex that is free. -/
def LockOk (P : Program) (f : Nat) : Prop := ∀ (a : Addr) (w : World), w.cell? a = some (.int .i32 0) → w.frozen? a = false → Calls P f #[.pointer (some a)] w fun e w' => e = .returned (.tuple #[]) ∧ w' = w.setCell a (.int .i32 1)
/-- The function gives a mutex back that is taken. -/
def UnlockOk (P : Program) (f : Nat) : Prop := ∀ (a : Addr) (w : World), w.cell? a = some (.int .i32 1) → w.frozen? a = false → ∀ u, CallsD P f #[.pointer (some a)] u w fun e u' w' => u' = u ∧ e = .returned (.tuple #[]) ∧ w' = w.setCell a (.int .i32 0)

/-- A mutex's cell turns from x to y. -/
def xLk (wr : Nat → Prop) (x y : Int) (st : St) : SV → Option (Prop × St)
  | .pt b i off => match st.blk b with
    | some (.c k rows) => some (wr b ∧ i < rows.length ∧ off < (rows.getD i []).length ∧ (rows.getD i []).getD off .dead = .pl (.int .i32 x), st.setBlk b (.c k (rows.set i ((rows.getD i []).set off (.pl (.int .i32 y))))))
    | _ => none
  | _ => none
theorem xLk_ok {x y : Int} {s : SV} {st' : St} {side : Prop} (h : Sim w0 M S0 ρ φ S st a w) {v : Value} (hr : Rep ρ S w v s) (he : xLk M.wr x y st s = some (side, st')) (hs : side) :
    ∃ ad : Addr, v = .pointer (some ad) ∧ w.cell? ad = some (.int .i32 x) ∧ w.frozen? ad = false ∧ Sim w0 M S0 ρ φ S st' a (w.setCell ad (.int .i32 y)) := by
  unfold xLk at he
  split at he <;> try (cases he; done)
  rename_i b i off
  split at he <;> try (cases he; done)
  rename_i k rows hb
  obtain ⟨rfl, rfl⟩ := Prod.mk.inj (Option.some.inj he)
  obtain ⟨h1, h2, h3, h4⟩ := hs
  cases hr with
  | per hr => cases hr
  | pt _ _ _ l hl =>
    obtain ⟨_, hcs⟩ := h.cellsAt hb hl
    have hi : rows[i]? = some (rows.getD i []) := by rw [List.getD_eq_getElem?_getD, List.getElem?_eq_getElem h2]; rfl
    have hj : (rows.getD i [])[off]? = some (.pl (.int .i32 x)) := by
      rw [← h4, List.getElem?_eq_getElem h3]
      exact congrArg some (by rw [List.getD_eq_getElem?_getD (l := List.getD rows i []), List.getElem?_eq_getElem h3]; rfl)
    obtain ⟨G, _, _, e3⟩ := hcs.cell
    obtain ⟨u, f1, _, f3⟩ := e3 i _ off _ hi hj
    have hu : u = .int .i32 x := by
      rcases f3 with f3 | f3
      · exact f3.pl_eq
      · cases f3 with | per g => cases g; rfl
    subst hu
    exact ⟨l.addr i off, rfl, f1, hcs.free _, h.storeCell h1 hb hl hi h3 rfl (.per (.pl _))⟩

theorem Sop.lock {c : Call} {f d ty : Nat} {pos : String} {af : Array Edge} {g : Option (Nat × Bool)} {x : Operand} {side : Prop} {st' : St} (hf : LockOk C.P f) (hk : CallOk C.P f) (hc : c.callee = .value (.func f)) (hargs : c.args.toList = [x]) (he : xLk C.M.wr 0 1 st (st.ev x) = some (side, st')) (hs : side) (hd : d < st.n)
    (hK : K (st'.set d (.pl (.tuple #[])))) : Sop C { dst := some d, op := .call c, type := ty, pos := pos, after := af, guard := g } st K := by
  unfold Sop
  intro Q a w _ ⟨ρ, φ, S, h⟩
  obtain ⟨ad, h1, h2, h3, h4⟩ := xLk_ok h (h.ev x) he hs
  have ha : c.args.map a.eval = #[.pointer (some ad)] := Array.ext' (by rw [Array.toList_map, hargs]; simp [h1])
  have hrun : (execOp a.eval { dst := some d, op := .call c, type := ty, pos := pos, after := af, guard := g }).run C.P w = .ok (.enter f #[.pointer (some ad)]) w := by
    unfold execOp
    simp [resolve, hc, Act.eval, Deferred.ofValue, invoke, ha, run_callFunc hk]
  unfold Oper.wp
  rw [hrun, Oper.upon_enter]
  refine (hf ad w h2 h3).mono fun e w' hq => ?_
  obtain ⟨rfl, rfl⟩ := hq
  have hn : st'.n = st.n := by
    unfold xLk at he
    split at he <;> try (cases he; done)
    split at he <;> try (cases he; done)
    obtain ⟨_, rfl⟩ := Prod.mk.inj (Option.some.inj he)
    rfl
  exact ⟨_, hK, ρ, φ, S, h4.setSlot (by rw [hn]; exact hd) (.per (.pl _))⟩

theorem DStep.unlock {f : Nat} {s : SV} {df : List Dfd} {side : Prop} {st' : St} (hf : UnlockOk C.P f) (hk : CallOk C.P f) (hdf : st.df = ⟨f, [s]⟩ :: df) (he : xLk C.M.wr 1 0 st s = some (side, st')) (hs : side) : DStep C st (st'.setDf df) := by
  intro a w ⟨ρ, φ, S, h⟩
  obtain ⟨cap, args, ds, e1, e2, e3, h'⟩ := h.undefer hdf
  have hlen : (args.toList ++ cap.toList).length = 1 := e2
  obtain ⟨v, hv⟩ := List.length_eq_one_iff.mp hlen
  have hr := e3 0 v s (by rw [hv]; rfl) rfl
  have hee : xLk C.M.wr 1 0 (st.setDf df) s = some (side, st'.setDf df) := by
    unfold xLk at he ⊢
    split at he <;> try (cases he; done)
    split at he <;> try (cases he; done)
    rename_i hb
    obtain ⟨rfl, rfl⟩ := Prod.mk.inj (Option.some.inj he)
    simp only [blk_setDf, hb]
    rfl
  obtain ⟨ad, h1, h2, h3, h4⟩ := xLk_ok h' hr hee hs
  subst h1
  have hvals : args ++ cap = #[.pointer (some ad)] := Array.ext' (by rw [Array.toList_append, hv])
  refine ⟨_, cap, args, ds, f, #[.pointer (some ad)], e1, ?_, fun u => (hf ad w h2 h3 u).mono fun e u' w' hq => ?_⟩
  · simp [invoke, hvals, run_callFunc hk]
  · obtain ⟨rfl, rfl, rfl⟩ := hq
    exact ⟨rfl, _, rfl, ρ, φ, S, h4⟩

/-! ## The rules, with their premises filled in -/
section
variable {T : Nat → Option TI} {rs : List ResultVar} {pins : Pins} {sh : Bool} {post : Pins → Out → Prop} {d ty : Nat} {pos : String} {af : Array Edge} {g : Option (Nat × Bool)} {side : Prop} {st' : St} {dst : Option Nat}
theorem sTD {P : Program} {f : Nat} {fn : Func} {c : Code} {args : List SV} (n : Nat) (rs : List ResultVar) (hf : P.funcs[f]? = some fn)
    (h : ∀ (w0 : World) (S0 : Nat → Prop) (ρ0 : Nat → Option Loc) (φ0 : Nat → Nat → Prop), Swk ⟨P, w0, pinM ρ0 φ0 pins, S0, fun _ _ => False⟩ (QD ⟨P, w0, pinM ρ0 φ0 pins, S0, fun _ _ => False⟩ T rs pins sh post) [] c (St.start n args pins))
    (hT : TOk P T := by exact tyOk) (hb : fn.body = some c := by rfl) (hnt : fn.ntmps = n := by rfl) (hrs : fn.results.toList = rs := by rfl) (hn : args.length ≤ n := by exact Nat.le_of_ble_eq_true rfl) (hn' : n ≤ 1000000 := by exact Nat.le_of_ble_eq_true rfl) : MSpec P f pins args sh post :=
  MSpec.of_defers hT hf hb hnt hrs hn hn' fun w0 S0 ρ0 φ0 => W.start (h w0 S0 ρ0 φ0)
theorem rQ (h : EW C T rs pins sh post .ret st) : QD C T rs pins sh post .ret st := Quit.nil h
theorem rQN (h : QD C T rs pins sh post .ret st) : Swn C (QD C T rs pins sh post) [] st := N.nil h
theorem rU {f : Nat} {s : SV} {df : List Dfd} (h : QD C T rs pins sh post .ret (st'.setDf df)) (hf : UnlockOk C.P f := by exact unlockOk) (hk : CallOk C.P f := by exact unlockCall) (hdf : st.df = ⟨f, [s]⟩ :: df := by exact ev) (he : xLk C.M.wr 1 0 st s = some (side, st') := by exact ev) (hs : side := by exact pm) : QD C T rs pins sh post .ret st :=
  Quit.step (DStep.unlock hf hk hdf he hs) h
theorem sL {c : Call} {f : Nat} {x : Operand} (h : K (st'.set d (.pl (.tuple #[])))) (hf : LockOk C.P f := by exact lockOk) (hk : CallOk C.P f := by exact lockCall) (hc : c.callee = .value (.func f) := by rfl) (hargs : c.args.toList = [x] := by rfl) (he : xLk C.M.wr 0 1 st (st.ev x) = some (side, st') := by exact ev) (hs : side := by exact pm) (hd : d < st.n := by exact nn) :
    Sop C { dst := some d, op := .call c, type := ty, pos := pos, after := af, guard := g } st K := Sop.lock hf hk hc hargs he hs hd h
theorem sDf {c : Call} {f : Nat} {x : Operand} {ys vs : List SV} (h : K ((st.setDf (⟨f, vs⟩ :: st.df)).put dst .dead)) (hc : c.callee = .value x := by rfl) (hx : fnOf (st.ev x) = some (f, [], ys) := by exact ev) (hv : c.args.toList.map st.ev ++ ys = vs := by exact ev) (hd : dOk st.n dst := by exact nn) :
    Sop C { dst := dst, op := .defer c, type := ty, pos := pos, after := af, guard := g } st K := by
  subst hv
  exact Sop.defer rfl hc hx hd h
end
attribute [go_sem] xLk

end Go.Vcg
/- Maps. -/
namespace Go.Vcg
set_option linter.unusedVariables false
variable {w0 : World} {M : Perm} {S0 : Nat → Prop} {ρ : Nat → Option Loc} {φ : Nat → Nat → Prop} {S : Nat → Prop} {st : St} {a : Act} {w : World} {P : Program} {T : Nat → Option TI} {C : Cx} {K : St → Prop} {o : Oper} {ops : Array Oper}

/-- Keys that are one number, one text, one bool. -/
def veq : Value → Value → Bool
  | .int j a, .int k b => decide (j = k) && decide (a = b)
  | .string a, .string b => a == b
  | .bool a, .bool b => a == b
  | _, _ => false
theorem veq_iff {d : TypeDesc} {x y : Value} (hx : MapKept.IsKey d x) (hy : MapKept.IsKey d y) : veq x y = true ↔ x = y := by
  cases d <;> cases x <;> cases y <;> simp_all [MapKept.IsKey, veq, MapKept.bytes_beq]
theorem veq_now {d : TypeDesc} {x y : Value} (hx : MapKept.IsKey d x) (hy : MapKept.IsKey d y) : Instr.sameNow d x y = some (veq x y) := by
  obtain ⟨r, h1, h2⟩ := MapKept.sameNow_of_keys hx hy
  rw [h1]
  have := veq_iff hx hy
  cases r <;> cases e : veq x y <;> simp_all

/-- The place of a key. -/
def lidx (l : List (Value × SV)) (k : Value) : Option Nat := l.findIdx? fun e => veq k e.1
def lget (l : List (Value × SV)) (k : Value) : Option SV := (lidx l k).bind fun i => (l[i]?).map (·.2)
def lput (l : List (Value × SV)) (k : Value) (s : SV) : List (Value × SV) := match lidx l k with
  | some i => l.set i (k, s)
  | none => l ++ [(k, s)]

def TK.isKey : TK → Value → Bool
  | .int k, .int k' _ => decide (k' = k)
  | .str, .string _ => true
  | .bool, .bool _ => true
  | _, _ => false
def keysE (k : TK) (es : List (Value × SV)) : Bool := es.all fun e => k.isKey e.1
theorem TK.isKey_ok {d : TypeDesc} {v : Value} (h : (tkOf d).isKey v = true) : MapKept.IsKey d v := by
  cases d <;> cases v <;> simp_all [tkOf, TK.isKey, MapKept.IsKey]

theorem findNow_idx {d : TypeDesc} {k : Value} (hk : MapKept.IsKey d k) : ∀ (ents : List MapEntry) (i : Nat), (∀ x ∈ ents, MapKept.IsKey d x.key) →
    Instr.findNow d k ents i = some ((ents.findIdx? fun e => veq k e.key).bind fun j => (ents[j]?).map fun e => (i + j, e.val))
  | [], _, _ => rfl
  | e :: es, i, h => by
    rw [Instr.findNow, veq_now hk (h e (.head _)), List.findIdx?_cons]
    cases veq k e.key with
    | true => simp
    | false =>
      rw [findNow_idx hk es (i + 1) fun x hx => h x (.tail _ hx)]
      simp only [Bool.false_eq_true, if_false, Option.bind_map]
      congr 2
      funext j
      simp only [Function.comp_apply, List.getElem?_cons_succ, Nat.add_assoc, Nat.add_comm 1 j]
theorem sameBits_self {d : TypeDesc} {k : Value} (hk : MapKept.IsKey d k) (n : Nat) : Instr.sameBits n k k = true := by
  cases d <;> cases k <;> simp_all [MapKept.IsKey, Instr.sameBits, MapKept.bytes_beq]

/-- What is known of a named map: its entries in memory. -/
structure MIn (P : Program) (ρ : Nat → Option Loc) (S : Nat → Prop) (w : World) (F : Nat → Prop) (es : List (Value × SV)) (r : Nat) (ents : Array MapEntry) (clk : Nat) (G : Nat → Nat → Prop) : Prop where
  obj : w.heap[r]? = some (.map ents clk)
  keys : ents.toList.map (·.key) = es.map (·.1)
  sub : ∀ i x, G i x → F x
  dis : ∀ i j x, G i x → G j x → i = j
  rep : ∀ (i : Nat) (m : MapEntry) (e : Value × SV), ents.toList[i]? = some m → es[i]? = some e → CRep ρ S w m.val e.2 (G i)
theorem Sim.mapAt (h : Sim w0 M S0 ρ φ S st a w) {b : Nat} {es : List (Value × SV)} {v : Value} (hb : st.blk b = some (.m es)) (hr : Rep ρ S w v (.mr b)) : ∃ l ents clk G, ρ b = some l ∧ v = .map (some l.blk) ∧ MIn P ρ S w (φ b) es l.blk ents clk G := by
  cases hr with
  | per hr => cases hr
  | mr _ l hl =>
    obtain ⟨l', h1, h2⟩ := h.heap.blk b _ hb
    rw [hl] at h1
    obtain rfl := Option.some.inj h1
    obtain ⟨ents, clk, vs, G, e0, e1, e2, e3, e4, e5⟩ := h2.ex
    have hl2 : vs.length = (es.map (·.1)).length := by rw [e2, List.length_map]
    have hz : ents.toList.map (fun e => (e.key, e.val)) = (es.map (·.1)).zip vs := e1
    have hk : ents.toList.map (·.key) = es.map (·.1) := by
      have := congrArg (List.map Prod.fst) hz
      rw [List.map_map, List.map_fst_zip (by omega)] at this
      exact this
    have hv : ents.toList.map (·.val) = vs := by
      have := congrArg (List.map Prod.snd) hz
      rw [List.map_map, List.map_snd_zip (by omega)] at this
      exact this
    refine ⟨l, ents, clk, G, hl, rfl, e0, hk, e3, e4, fun i m e g1 g2 => e5 i m.val e ?_ g2⟩
    rw [← hv, List.getElem?_map, g1]
    rfl
theorem MIn.idx {F : Nat → Prop} {es : List (Value × SV)} {r : Nat} {ents : Array MapEntry} {clk : Nat} {G : Nat → Nat → Prop} (h : MIn P ρ S w F es r ents clk G) (k : Value) : (ents.toList.findIdx? fun e => veq k e.key) = lidx es k := by
  have := h.keys
  unfold lidx
  have e1 : (ents.toList.findIdx? fun e => veq k e.key) = (ents.toList.map (·.key)).findIdx? (veq k) := by rw [List.findIdx?_map]; rfl
  have e2 : (es.findIdx? fun e => veq k e.1) = (es.map (·.1)).findIdx? (veq k) := by rw [List.findIdx?_map]; rfl
  rw [e1, e2, this]
theorem MIn.len {F : Nat → Prop} {es : List (Value × SV)} {r : Nat} {ents : Array MapEntry} {clk : Nat} {G : Nat → Nat → Prop} (h : MIn P ρ S w F es r ents clk G) : ents.size = es.length := by
  have := congrArg List.length h.keys
  simpa using this
theorem MIn.isKey {F : Nat → Prop} {es : List (Value × SV)} {r : Nat} {ents : Array MapEntry} {clk : Nat} {G : Nat → Nat → Prop} (h : MIn P ρ S w F es r ents clk G) {d : TypeDesc} (hk : keysE (tkOf d) es = true) : ∀ x ∈ ents.toList, MapKept.IsKey d x.key := by
  intro x hx
  have : x.key ∈ es.map (·.1) := by rw [← h.keys]; exact List.mem_map_of_mem (f := (·.key)) hx
  obtain ⟨e, he, h1⟩ := List.mem_map.mp this
  rw [← h1]
  exact TK.isKey_ok (List.all_eq_true.mp hk e he)
theorem MIn.find {F : Nat → Prop} {es : List (Value × SV)} {r : Nat} {ents : Array MapEntry} {clk : Nat} {G : Nat → Nat → Prop} (h : MIn P ρ S w F es r ents clk G) {kt : TypeId} {d : TypeDesc} (hd : P.underlying kt = some d) (hk : keysE (tkOf d) es = true) {k : Value} (hkk : (tkOf d).isKey k = true) :
    (Instr.findKey kt k ents.toList).run P w = .ok ((lidx es k).bind fun j => (ents.toList[j]?).map fun e => (j, e.val)) w := by
  have := findNow_idx (TK.isKey_ok hkk) ents.toList 0 (h.isKey hk)
  rw [h.idx] at this
  refine MapKept.run_findKey hd (this.trans ?_)
  simp only [Nat.zero_add]
theorem lidx_lt {l : List (Value × SV)} {k : Value} {i : Nat} (h : lidx l k = some i) : i < l.length := by
  unfold lidx at h
  exact (List.findIdx?_eq_some_iff_getElem.mp h).1
theorem lidx_key {l : List (Value × SV)} {k : Value} {i : Nat} (h : lidx l k = some i) {e : Value × SV} (he : l[i]? = some e) : veq k e.1 = true := by
  unfold lidx at h
  obtain ⟨h1, h2, _⟩ := List.findIdx?_eq_some_iff_getElem.mp h
  rw [List.getElem?_eq_getElem h1] at he
  obtain rfl := Option.some.inj he
  exact h2

/-- The map's block turns. -/
theorem Sim.turnMap (h : Sim w0 M S0 ρ φ S st a w) {b : Nat} (hw : M.wr b) {l : Loc} {es es' : List (Value × SV)} (hb : st.blk b = some (.m es)) (hl : ρ b = some l) {ents ents' : Array MapEntry} {clk clk' : Nat} {G : Nat → Nat → Prop}
    (hi : w.heap[l.blk]? = some (.map ents clk)) (hk : ents'.toList.map (·.key) = es'.map (·.1)) (hG1 : ∀ i x, G i x → φ b x) (hG2 : ∀ i j x, G i x → G j x → i = j)
    (hr : ∀ (i : Nat) (m : MapEntry) (e : Value × SV), ents'.toList[i]? = some m → es'[i]? = some e → CRep ρ S w m.val e.2 (G i)) :
    Sim w0 M S0 ρ φ S (st.setBlk b (.m es')) a { w with heap := w.heap.setIfInBounds l.blk (.map ents' clk') } := by
  have hne : st.blk b ≠ none := by rw [hb]; simp
  have hlt := h.heap.lt b _ hne (.inl ⟨l, hl, rfl⟩)
  have hnS := h.heap.notS b _ hne (.inl ⟨l, hl, rfl⟩)
  have hself := h.heap.self b l hne hl
  have hoff : ∀ x, x ≠ l.blk → (w.heap.setIfInBounds l.blk (.map ents' clk'))[x]? = w.heap[x]? := fun x hx => by rw [Array.getElem?_setIfInBounds, if_neg (fun e => hx e.symm)]
  have hat : (w.heap.setIfInBounds l.blk (.map ents' clk'))[l.blk]? = some (.map ents' clk') := by rw [Array.getElem?_setIfInBounds, if_pos rfl, if_pos hlt]
  have hsz : (w.heap.setIfInBounds l.blk (.map ents' clk')).size = w.heap.size := Array.size_setIfInBounds
  have hz : ∀ x, rowSize w x ≤ rowSize { w with heap := w.heap.setIfInBounds l.blk (.map ents' clk') } x := fun x => by
    by_cases e : x = l.blk
    · subst e
      unfold rowSize
      rw [hi]
      exact Nat.zero_le _
    · exact Nat.le_of_eq (rowSize_congr (hoff x e)).symm
  refine h.turn hw hb hl hsz hoff (hz _) ⟨l, hl, ents', clk', ents'.toList.map (·.val), G, hat, ?_, ?_, hG1, hG2, fun i v e g1 g2 => ?_⟩
  · show ents'.toList.map (fun e => (e.key, e.val)) = (es'.map (·.1)).zip (ents'.toList.map (·.val))
    rw [← hk, List.zip_map']
  · have := congrArg List.length hk
    simpa using this
  · rw [List.getElem?_map, Option.map_eq_some_iff] at g1
    obtain ⟨m, g1, rfl⟩ := g1
    refine (hr i m e g1 g2).mono (fun _ h => h) (by rw [hsz]; exact Nat.le_refl _) (fun x hx _ => hoff x fun q => ?_) h.sb (fun _ _ => rfl) hz fun _ h => h
    rcases hx with hx | hx
    · exact hnS (q ▸ hx)
    · exact hself (q ▸ hG1 i x hx)

/-! ## The operations -/

theorem Sop.makeMap {t d ty : Nat} {pos : String} {af : Array Edge} {g : Option (Nat × Bool)} (hd : d < st.n) (hK : K (((st.kill d).setBlk d (.m [])).set d (.mr d))) : Sop C { dst := some d, op := .makeMap t none, type := ty, pos := pos, after := af, guard := g } st K := by
  unfold Sop
  intro Q a w _ ⟨ρ, φ, S, h⟩
  obtain ⟨ρ', φ', h1, h2, h3⟩ := (h.kill d).newBlk (d := d) (st.kill_free d) (not_pin_of_lt hd h.small) ⟨w.heap.size, 0, 1, 1⟩ rfl (fun _ => False) (.m []) (.map #[] 0) (fun _ g => g.elim) fun ρ' _ hρ =>
    ⟨_, hρ, #[], 0, [], fun _ _ => False, heap_alloc_at w _, rfl, rfl, fun _ _ g => g.elim, fun _ _ _ g => g.elim, fun i v e g _ => by simp at g⟩
  refine wp_value (v := .map (some w.heap.size)) (w' := w.alloc (.map #[] 0)) ?_ ⟨_, hK, ρ', φ', S, h1.setSlot hd (.mr d _ h2)⟩
  unfold execOp
  simp [Instr.makeMap]

/-- That z is the zero of type t. -/
def ZeroIs (P : Program) (t : Nat) (z : Value) : Prop := (P.info? t).map (·.zero) = some (some z)
theorem ZeroIs.run {t : Nat} {z : Value} (h : ZeroIs P t z) (w : World) : (zeroValue t).run P w = .ok z w := by
  unfold ZeroIs at h
  obtain ⟨i, h1, h2⟩ := Option.map_eq_some_iff.mp h
  simp [zeroValue, typeInfo, h1, h2]

/-- What may be read out of a map: nothing that the map owns. -/
def SV.seen (s : SV) : Bool := match s with
  | .ow _ _ | .bo _ | .mo _ | .ag _ | .tu _ | .ifc _ _ | .fn _ _ _ | .cn _ _ => false
  | _ => true
theorem CRep.seen {v : Value} {c : SV} {F : Nat → Prop} (h : CRep ρ S w v c F) (hs : c.seen = true) : Rep ρ S w v c := by
  have := h.vis
  cases c <;> first | exact this | cases hs

def seenE (es : List (Value × SV)) : Bool := es.all fun e => e.2.seen
def pLook (T : Nat → Option TI) (st : St) (t : Nat) (m k : SV) (z : SV) (ok : Bool) : Option (Prop × SV) := match T t, m, k with
  | some ti, .mr b, .pl kv => match ti.k, st.blk b with
    | .map kt _, some (.m es) => match T kt with
      | some kti => some (kti.k.isKey kv = true ∧ keysE kti.k es = true ∧ seenE es = true, if ok then .tu [(lget es kv).getD z, .pl (.bool (lget es kv).isSome)] else (lget es kv).getD z)
      | none => none
    | _, _ => none
  | _, _, _ => none
theorem Sop.lookup (hT : TOk C.P T) {t d ty : Nat} {pos : String} {af : Array Edge} {g : Option (Nat × Bool)} {m k : Operand} {ok : Bool} {side : Prop} {sv : SV} (et : Nat) (kt : Nat) (zv : Value) (hm : T t = some ⟨.map kt et, 1, 8, [.map none]⟩) (hz : ZeroIs C.P et zv) (he : pLook T st t (st.ev m) (st.ev k) (conSV zv) ok = some (side, sv)) (hs : side) (hd : d < st.n) (hK : K (st.set d sv)) :
    Sop C { dst := some d, op := .lookup t m k ok, type := ty, pos := pos, after := af, guard := g } st K := by
  unfold Sop
  intro Q a w _ ⟨ρ, φ, S, h⟩
  unfold pLook at he
  rw [hm] at he
  split at he <;> try (cases he; done)
  rename_i ti b kv h1 hem hek
  cases h1
  dsimp only at he
  split at he <;> try (cases he; done)
  rename_i kt' et' es h1 hb
  cases h1
  split at he <;> try (cases he; done)
  rename_i kti hkt
  obtain ⟨rfl, rfl⟩ := Prod.mk.inj (Option.some.inj he)
  obtain ⟨g1, g2, g3⟩ := hs
  have hrm := h.ev m
  rw [hem] at hrm
  obtain ⟨l, ents, clk, G, hl, hv, hmi⟩ := h.mapAt (P := C.P) hb hrm
  have hkv : a.eval k = kv := by
    have := h.ev k
    rw [hek] at this
    exact this.pl_eq
  obtain ⟨d1, u1, u2⟩ := (hT t _ hm).und
  have hd1 : d1 = .map kt et := by cases d1 <;> simp [tkOf] at u2; simp [u2]
  subst hd1
  obtain ⟨d2, u3, u4⟩ := (hT kt _ hkt).und
  rw [← u4] at g1 g2
  have hf := hmi.find u3 g2 g1
  have hc := MapKept.run_checkKey (P := C.P) (w := w) u3 (TK.isKey_ok g1) ents.isEmpty 9999
  have key : ∃ u, Rep ρ S w u ((lget es kv).getD (conSV zv)) ∧ (execOp a.eval { dst := some d, op := .lookup t m k ok, type := ty, pos := pos, after := af, guard := g }).run C.P w = .ok (.value (if ok then .tuple #[u, .bool (lget es kv).isSome] else u)) w := by
    unfold lget
    cases hi : lidx es kv with
    | none =>
      rw [hi] at hf
      refine ⟨zv, .per (conSV_rep S w zv), ?_⟩
      unfold execOp
      simp [Instr.lookup, run_underlying u1, hv, MapKept.run_getObj_map hmi.obj, hkv, hc, hf, hz.run]
    | some i =>
      rw [hi] at hf
      have hlt := lidx_lt hi
      have hlt2 : i < ents.toList.length := by rw [Array.length_toList, hmi.len]; exact hlt
      have he2 : es[i]? = some es[i] := List.getElem?_eq_getElem hlt
      have hm2 : ents.toList[i]? = some ents.toList[i] := List.getElem?_eq_getElem hlt2
      simp only [Option.bind_some, he2, Option.map_some, Option.getD_some, Option.isSome_some, hm2] at hf ⊢
      refine ⟨ents.toList[i].val, (hmi.rep i _ _ hm2 he2).seen (List.all_eq_true.mp g3 _ (List.getElem_mem hlt)), ?_⟩
      unfold execOp
      simp only [Instr.lookup, Sem.run_bind, run_underlying u1, Result.andThen_ok, hv, MapKept.run_getObj_map hmi.obj, Sem.run_pure, hkv, hc, hf]
  obtain ⟨u, k1, k2⟩ := key
  refine wp_value k2 ⟨_, hK, ρ, φ, S, h.setSlot hd ?_⟩
  cases ok with
  | false => exact k1
  | true => 
    refine .tu [u, .bool (lget es kv).isSome] _ rfl fun i v c e1 e2 => ?_
    match i with
    | 0 =>
      simp only [List.getElem?_cons_zero, Option.some.injEq] at e1 e2
      subst e1; subst e2; exact k1
    | 1 =>
      simp only [List.getElem?_cons_succ, List.getElem?_cons_zero, Option.some.injEq] at e1 e2
      subst e1; subst e2; exact .per (.pl _)
    | i + 2 => simp at e1

def xPut (T : Nat → Option TI) (wr : Nat → Prop) (st : St) (t : Nat) (m k v : SV) : Option (Prop × St) := match T t, m, k with
  | some ti, .mr b, .pl kv => match ti.k, st.blk b with
    | .map kt _, some (.m es) => match T kt with
      | some kti => some (wr b ∧ kti.k.isKey kv = true ∧ keysE kti.k es = true, st.setBlk b (.m (lput es kv v)))
      | none => none
    | _, _ => none
  | _, _, _ => none
theorem Sop.mapUpdate (hT : TOk C.P T) {t ty : Nat} {dst : Option Nat} {pos : String} {af : Array Edge} {g : Option (Nat × Bool)} {m k v : Operand} {side : Prop} {st' : St} (he : xPut T C.M.wr st t (st.ev m) (st.ev k) (st.ev v) = some (side, st')) (hs : side) (hd : dOk st.n dst) (hK : K (st'.put dst .dead)) :
    Sop C { dst := dst, op := .mapUpdate t m k v, type := ty, pos := pos, after := af, guard := g } st K := by
  unfold Sop
  intro Q a w _ ⟨ρ, φ, S, h⟩
  unfold xPut at he
  split at he <;> try (cases he; done)
  rename_i ti b kv hti hem hek
  split at he <;> try (cases he; done)
  rename_i kt et es h1 hb
  split at he <;> try (cases he; done)
  rename_i kti hkt
  obtain ⟨rfl, rfl⟩ := Prod.mk.inj (Option.some.inj he)
  obtain ⟨g0, g1, g2⟩ := hs
  have hrm := h.ev m
  rw [hem] at hrm
  obtain ⟨l, ents, clk, G, hl, hv, hmi⟩ := h.mapAt (P := C.P) hb hrm
  have hkv : a.eval k = kv := by
    have := h.ev k
    rw [hek] at this
    exact this.pl_eq
  obtain ⟨d1, u1, u2⟩ := (hT t _ hti).und
  have hd1 : d1 = .map kt et := by rw [h1] at u2; cases d1 <;> simp [tkOf] at u2; simp [u2]
  subst hd1
  obtain ⟨d2, u3, u4⟩ := (hT kt _ hkt).und
  rw [← u4] at g1 g2
  have hf := hmi.find u3 g2 g1
  have hc := MapKept.run_checkKey (P := C.P) (w := w) u3 (TK.isKey_ok g1) false 9999
  have hrv := h.ev v
  cases hi : lidx es kv with
  | none =>
    rw [hi] at hf
    have hsim := h.turnMap (es' := lput es kv (st.ev v)) (ents' := ents.push { key := kv, val := a.eval v, born := clk }) (clk' := clk + 1) (G := fun i x => i < es.length ∧ G i x) g0 hb hl hmi.obj (by unfold lput; rw [hi]; simp [hmi.keys]) (fun i x g => hmi.sub i x g.2) (fun i j x g g' => hmi.dis i j x g.2 g'.2) (fun i m e e1 e2 => by
      unfold lput at e2
      rw [hi] at e2
      dsimp only at e2
      rw [Array.toList_push] at e1
      have hlen : ents.toList.length = es.length := by rw [Array.length_toList]; exact hmi.len
      by_cases hlt : i < es.length
      · rw [List.getElem?_append_left (by omega)] at e1
        rw [List.getElem?_append_left hlt] at e2
        have := hmi.rep i m e e1 e2
        exact this.imp id fun g => g.sub fun x hx => ⟨hlt, hx⟩
      · rw [List.getElem?_append_right (by omega)] at e1
        rw [List.getElem?_append_right (by omega)] at e2
        have e3 : i - es.length = 0 := by
          have := (List.getElem?_eq_some_iff.mp e2).1
          simp at this
          omega
        rw [hlen, e3] at e1
        rw [e3] at e2
        simp only [List.getElem?_cons_zero, Option.some.injEq] at e1 e2
        subst e1; subst e2
        exact .inl hrv)
    refine wp_skip' ?_ ⟨_, hK, ρ, φ, S, hsim.put hd (.dead _)⟩
    unfold execOp
    simp [Instr.mapUpdate, run_underlying u1, hv, MapKept.run_getObj_map hmi.obj, hkv, hc, hf, MapKept.run_setObj_map _ hmi.obj]
  | some i =>
    rw [hi] at hf
    have hlt := lidx_lt hi
    have hlt2 : i < ents.toList.length := by rw [Array.length_toList, hmi.len]; exact hlt
    have he2 : es[i]? = some es[i] := List.getElem?_eq_getElem hlt
    have hm2 : ents.toList[i]? = some ents.toList[i] := List.getElem?_eq_getElem hlt2
    have hm3 : ents[i]? = some ents.toList[i] := by rw [← Array.getElem?_toList]; exact hm2
    simp only [Option.bind_some, hm2, Option.map_some] at hf
    have hkk : es[i].1 = kv := ((veq_iff (TK.isKey_ok g1) (TK.isKey_ok (List.all_eq_true.mp g2 _ (List.getElem_mem hlt)))).mp (lidx_key hi he2)).symm
    have hkm : ents.toList[i].key = kv := by
      have := congrArg (fun x => x[i]?) hmi.keys
      simp only [List.getElem?_map, hm2, he2, Option.map_some, Option.some.injEq] at this
      rw [this, hkk]
    have hml : (ents.modify i fun e => { e with key := kv, val := a.eval v }).toList = ents.toList.set i { ents.toList[i] with key := kv, val := a.eval v } := by
      apply List.ext_getElem?
      intro j
      rw [Array.getElem?_toList, Array.getElem?_modify, List.getElem?_set]
      by_cases e : i = j
      · subst e
        rw [if_pos rfl, if_pos rfl, if_pos hlt2, hm3]
        rfl
      · rw [if_neg e, if_neg e, ← Array.getElem?_toList]
    have hsim := h.turnMap (es' := lput es kv (st.ev v)) (ents' := ents.modify i fun e => { e with key := kv, val := a.eval v }) (clk' := clk) (G := fun j x => j ≠ i ∧ G j x) g0 hb hl hmi.obj (by
      unfold lput
      rw [hi, hml]
      simp only [List.map_set, hmi.keys]) (fun i x g => hmi.sub i x g.2) (fun i j x g g' => hmi.dis i j x g.2 g'.2) (fun j m e e1 e2 => by
      unfold lput at e2
      rw [hi] at e2
      dsimp only at e2
      rw [hml, List.getElem?_set] at e1
      rw [List.getElem?_set] at e2
      by_cases e : i = j
      · rw [if_pos e, if_pos (by omega)] at e1
        rw [if_pos e, if_pos (by omega)] at e2
        obtain rfl := Option.some.inj e1
        obtain rfl := Option.some.inj e2
        exact .inl hrv
      · rw [if_neg e] at e1 e2
        exact (hmi.rep j m _ e1 e2).imp id fun g => g.sub fun x hx => ⟨fun q => e q.symm, hx⟩)
    refine wp_skip' ?_ ⟨_, hK, ρ, φ, S, hsim.put hd (.dead _)⟩
    have hst : Instr.sameBits 10000 kv kv = true := sameBits_self (TK.isKey_ok g1) 10000
    unfold execOp
    simp only [Instr.mapUpdate, Instr.keyThatStays, Sem.run_bind, run_underlying u1, Result.andThen_ok, hv, MapKept.run_getObj_map hmi.obj, Sem.run_pure, hkv, hc, hf, hm3, Option.map_some, Option.getD_some, hkm, hst, if_true, MapKept.run_setObj_map _ hmi.obj]

def xClear (wr : Nat → Prop) (st : St) : SV → Option (Prop × St)
  | .mr b => match st.blk b with
    | some (.m _) => some (wr b, st.setBlk b (.m []))
    | _ => none
  | _ => none
theorem Sop.clear {t ty : Nat} {dst : Option Nat} {pos : String} {af : Array Edge} {g : Option (Nat × Bool)} {c : Call} {m : Operand} {side : Prop} {st' : St} {ti : TI} {kt et : Nat} (hT : TOk C.P T) (hti : T t = some ti) (hk : ti.k = .map kt et) (hc : c.callee = .builtin .clear) (hargs : c.args.toList = [m]) (hat : c.argTypes.toList = [t]) (he : xClear C.M.wr st (st.ev m) = some (side, st')) (hs : side) (hd : dOk st.n dst) (hK : K (st'.put dst .dead)) :
    Sop C { dst := dst, op := .call c, type := ty, pos := pos, after := af, guard := g } st K := by
  unfold Sop
  intro Q a w _ ⟨ρ, φ, S, h⟩
  unfold xClear at he
  split at he <;> try (cases he; done)
  rename_i b hem
  split at he <;> try (cases he; done)
  rename_i es hb
  obtain ⟨rfl, rfl⟩ := Prod.mk.inj (Option.some.inj he)
  have hrm := h.ev m
  rw [hem] at hrm
  obtain ⟨l, ents, clk, G, hl, hv, hmi⟩ := h.mapAt (P := C.P) hb hrm
  obtain ⟨d1, u1, u2⟩ := (hT t _ hti).und
  have hd1 : d1 = .map kt et := by rw [hk] at u2; cases d1 <;> simp [tkOf] at u2; simp [u2]
  subst hd1
  have hsim := h.turnMap (es' := []) (ents' := #[]) (clk' := clk) (G := fun _ _ => False) hs hb hl hmi.obj rfl (fun _ _ g => g.elim) (fun _ _ _ g => g.elim) (fun i m e e1 e2 => by simp at e2)
  have ha : c.args.map a.eval = #[.map (some l.blk)] := Array.ext' (by rw [Array.toList_map, hargs]; simp [hv])
  have hat' : c.argTypes = #[t] := Array.ext' (by rw [hat])
  refine wp_value (v := .tuple #[]) ?_ ⟨_, hK, ρ, φ, S, hsim.put hd (.dead _)⟩
  unfold execOp
  simp [resolve, hc, invoke, builtin, Builtin.clear_, ha, hat', run_underlying u1, MapKept.run_getObj_map hmi.obj, MapKept.run_setObj_map _ hmi.obj]

/-! ## The rules, with their premises filled in -/
section
variable {d t ty : Nat} {pos : String} {af : Array Edge} {g : Option (Nat × Bool)} {side : Prop} {st' : St} {dst : Option Nat} {m k v : Operand} {sv : SV}
theorem sMm (h : K (((st.kill d).setBlk d (.m [])).set d (.mr d))) (hd : d < st.n := by exact nn) : Sop C { dst := some d, op := .makeMap t none, type := ty, pos := pos, after := af, guard := g } st K := Sop.makeMap hd h
theorem sMl {ok : Bool} {et kt : Nat} {zv : Value} (h : side → K (st.set d sv)) (hT : TOk C.P T := by exact tyOk) (hm : T t = some ⟨.map kt et, 1, 8, [.map none]⟩ := by exact ev) (hz : ZeroIs C.P et zv := by exact zeroIs) (he : pLook T st t (st.ev m) (st.ev k) (conSV zv) ok = some (side, sv) := by exact ev) (hs : side := by exact pm) (hd : d < st.n := by exact nn) :
    Sop C { dst := some d, op := .lookup t m k ok, type := ty, pos := pos, after := af, guard := g } st K := Sop.lookup hT et kt zv hm hz he hs hd (h hs)
theorem sMu (h : side → K (st'.put dst .dead)) (hT : TOk C.P T := by exact tyOk) (he : xPut T C.M.wr st t (st.ev m) (st.ev k) (st.ev v) = some (side, st') := by exact ev) (hs : side := by exact pm) (hd : dOk st.n dst := by exact nn) :
    Sop C { dst := dst, op := .mapUpdate t m k v, type := ty, pos := pos, after := af, guard := g } st K := Sop.mapUpdate hT he hs hd (h hs)
theorem sMc {c : Call} {ti : TI} {kt et : Nat} (h : K (st'.put dst .dead)) (hT : TOk C.P T := by exact tyOk) (hc : c.callee = .builtin .clear := by rfl) (hargs : c.args.toList = [m] := by rfl) (hat : c.argTypes.toList = [t] := by rfl) (hti : T t = some ti := by exact ev) (hk : ti.k = .map kt et := by rfl) (he : xClear C.M.wr st (st.ev m) = some (side, st') := by exact ev) (hs : side := by exact pm) (hd : dOk st.n dst := by exact nn) :
    Sop C { dst := dst, op := .call c, type := ty, pos := pos, after := af, guard := g } st K := Sop.clear hT hti hk hc hargs hat he hs hd h
end

/-! ## Maps of numbers -/
abbrev kI (n : Int) : Value := .int .i64 n
/-- numbers by numbers -/
def mII (l : List (Int × Int)) : List (Value × SV) := l.map fun p => (kI p.1, .pl (.int .i64 p.2))
def agetI (l : List (Int × Int)) (k : Int) : Option Int := (l.find? fun p => decide (k = p.1)).map (·.2)
def aputI : List (Int × Int) → Int → Int → List (Int × Int)
  | [], k, v => [(k, v)]
  | p :: l, k, v => if k = p.1 then (k, v) :: l else p :: aputI l k v
theorem lget_nil (k : Value) : lget [] k = none := rfl
theorem lget_cons (e : Value × SV) (l : List (Value × SV)) (k : Value) : lget (e :: l) k = if veq k e.1 then some e.2 else lget l k := by
  unfold lget lidx
  rw [List.findIdx?_cons]
  cases veq k e.1 with
  | true => rfl
  | false =>
    simp only [Bool.false_eq_true, if_false, Option.bind_map]
    congr 1
theorem lput_nil (k : Value) (s : SV) : lput [] k s = [(k, s)] := rfl
theorem lput_cons (e : Value × SV) (l : List (Value × SV)) (k : Value) (s : SV) : lput (e :: l) k s = if veq k e.1 then (k, s) :: l else e :: lput l k s := by
  unfold lput lidx
  rw [List.findIdx?_cons]
  cases veq k e.1 with
  | true => rfl
  | false =>
    simp only [Bool.false_eq_true, if_false]
    cases l.findIdx? (fun e => veq k e.1) <;> rfl
theorem veq_int (x y : Int) : veq (.int .i64 x) (.int .i64 y) = decide (x = y) := by simp [veq]
theorem lget_mII (l : List (Int × Int)) (k : Int) : lget (mII l) (.int .i64 k) = (agetI l k).map fun x => .pl (.int .i64 x) := by
  induction l with
  | nil => rfl
  | cons p l ih =>
    unfold mII at ih ⊢
    rw [List.map_cons, lget_cons, ih, veq_int]
    unfold agetI
    rw [List.find?_cons]
    by_cases e : k = p.1
    · simp [e]
    · simp [e]
theorem lput_mII (l : List (Int × Int)) (k v : Int) : lput (mII l) (.int .i64 k) (.pl (.int .i64 v)) = mII (aputI l k v) := by
  induction l with
  | nil => rfl
  | cons p l ih =>
    unfold mII at ih ⊢
    rw [List.map_cons, lput_cons, ih, veq_int, aputI]
    by_cases e : k = p.1
    · simp [e]
    · simp [e]
theorem mII_keys (l : List (Int × Int)) : keysE (.int .i64) (mII l) = true := by
  unfold keysE mII
  rw [List.all_map]
  exact List.all_eq_true.mpr fun p _ => rfl
theorem mII_seen (l : List (Int × Int)) : seenE (mII l) = true := by
  unfold seenE mII
  rw [List.all_map]
  exact List.all_eq_true.mpr fun p _ => rfl
theorem mII_nil : mII [] = [] := rfl
theorem killE_mII (d : Nat) (l : List (Int × Int)) : killE d (mII l) = mII l := by
  unfold killE mII
  rw [List.map_map]
  rfl
theorem rnE_mII (r : Nat → Option Nat) (l : List (Int × Int)) : rnE r (mII l) = mII l := by
  unfold rnE mII
  rw [List.map_map]
  rfl
theorem sbE_mII (d : Nat) (g : SV → SV) (l : List (Int × Int)) : sbE d g (mII l) = mII l := by
  unfold sbE mII
  rw [List.map_map]
  rfl
theorem frzE_mII (l : List (Int × Int)) : frzE (mII l) = mII l := by
  rw [frzE_eq]
  unfold mII
  rw [List.map_map]
  rfl
theorem shutE_mII (l : List (Int × Int)) : shutE (mII l) = true := by
  rw [shutE_eq]
  unfold mII
  rw [List.all_map]
  exact List.all_eq_true.mpr fun p _ => rfl
theorem cloE_mII (l : List (Int × Int)) : cloE (mII l) = true := by
  unfold cloE mII
  rw [List.all_map]
  exact List.all_eq_true.mpr fun p _ => rfl
theorem killE_nil (d : Nat) : killE d [] = [] := rfl
theorem rnE_nil (r : Nat → Option Nat) : rnE r [] = [] := rfl
theorem sbE_nil (d : Nat) (g : SV → SV) : sbE d g [] = [] := rfl
theorem frzE_nil : frzE [] = [] := rfl
theorem shutE_nil : shutE [] = true := rfl
theorem cloE_nil : cloE [] = true := rfl
theorem keysE_nil (k : TK) : keysE k [] = true := rfl
theorem seenE_nil : seenE [] = true := rfl
theorem getD_map_int (x : Option Int) : (x.map fun y => SV.pl (.int .i64 y)).getD (.pl (.int .i64 0)) = .pl (.int .i64 (x.getD 0)) := by cases x <;> rfl
theorem isSome_map_int (x : Option Int) : (x.map fun y => SV.pl (.int .i64 y)).isSome = x.isSome := by cases x <;> rfl
attribute [go_sem] pLook xPut xClear lget_mII lput_mII mII_keys mII_seen killE_mII rnE_mII sbE_mII frzE_mII shutE_mII cloE_mII killE_nil rnE_nil sbE_nil frzE_nil shutE_nil cloE_nil keysE_nil seenE_nil TK.isKey getD_map_int isSome_map_int

end Go.Vcg
/- Slices that may be nil, compared with nil. -/
namespace Go.Vcg
section
variable {w0 : World} {M : Perm} {S0 : Nat → Prop} {ρ : Nat → Option Loc} {φ : Nat → Nat → Prop} {S : Nat → Prop} {st : St} {a : Act} {w : World} {C : Cx} {K : St → Prop} {ty d : Nat} {pos : String} {af : Array Edge} {g : Option (Nat × Bool)} {c x y : Operand}
def nln : SV → Option Nat
  | .pd rows => some rows.length
  | .sl _ _ n => some n
  | _ => none
theorem nln_ok {ρ : Nat → Option Loc} {S : Nat → Prop} {w : World} {v : Value} {s : SV} {n : Nat} (h : Rep ρ S w v s) (he : nln s = some n) : ∃ ad c, v = .slice ad n c := by
  unfold nln at he
  split at he
  · obtain rfl := Option.some.inj he
    cases h with
    | per h => cases h <;> exact ⟨_, _, rfl⟩
  · obtain rfl := Option.some.inj he
    cases h with
    | per h => cases h
    | sl => exact ⟨_, _, rfl⟩
    | sl0 => exact ⟨_, _, rfl⟩
  · cases he
theorem nln_some {ρ : Nat → Option Loc} {S : Nat → Prop} {w : World} {s : SV} {n m c : Nat} (h : Rep ρ S w (.slice none m c) s) (he : nln s = some n) : n = 0 := by
  unfold nln at he
  split at he
  · obtain rfl := Option.some.inj he
    cases h with
    | per h => cases h; rfl
  · obtain rfl := Option.some.inj he
    cases h with
    | per h => cases h
    | sl0 => rfl
  · cases he
theorem eqs_nil (P : Program) (d t e : Nat) (n c n' c' : Nat) (w' : World) (h : P.underlying t = some (.slice e)) : (Op.equalIn (d + 1) t (.slice none n c) (.slice none n' c')).run P w' = .ok true w' := by
  simp [Op.equalIn, run_underlying h]
theorem sEQ0 {T : Nat → Option TI} {t e n : Nat} {yt : Nat} {neg : Bool} (hK : ∀ b : Bool, (b = true → n = 0) → K (st.set d (.pl (.bool (b ^^ neg))))) (hT : TOk C.P T) (ht : slK T t = some e) (hx : nln (st.ev x) = some n) (hy : st.ev y = .nl) (hd : d < st.n) :
    Sop C { dst := some d, op := .binOp (if neg then .neq else .eql) t x y yt, type := ty, pos := pos, after := af, guard := g } st K := by
  unfold Sop
  intro Q a w _ ⟨ρ, φ, S, h⟩
  unfold slK at ht
  split at ht <;> try (cases ht; done)
  rename_i ti hti'
  split at ht <;> try (cases ht; done)
  rename_i e' hk
  obtain ⟨dd, u1, u2⟩ := (hT t ti hti').und
  rw [hk] at u2
  obtain rfl := tk_slice u2
  obtain ⟨ad, c', hv⟩ := nln_ok (h.ev x) hx
  have hrs := h.ev y
  rw [hy] at hrs
  have hb : a.eval y = .slice none 0 0 := by
    generalize a.eval y = v at hrs
    cases hrs with
    | per hp => cases hp; rfl
  have hbool : ∃ b : Bool, (b = true → n = 0) ∧ (Op.equalIn Op.maxDepth t (.slice ad n c') (.slice none 0 0)).run C.P w = .ok b w := by
    cases ad with
    | none => exact ⟨true, fun _ => nln_some (hv ▸ h.ev x) hx, eqs_nil C.P _ t _ n c' 0 0 w u1⟩
    | some ad => exact ⟨false, (fun q => by cases q), eqs_none C.P _ t _ ad n c' 0 0 w u1⟩
  obtain ⟨b, h1, h2⟩ := hbool
  refine wp_value (v := .bool (b ^^ neg)) (w' := w) ?_ ⟨_, hK b h1, ρ, φ, S, h.setSlot hd (.per (.pl _))⟩
  have key := eql_of (P := C.P) x y (fun op => by rw [eqGuard_at_slice]; rfl) rfl rfl h2
  cases neg with
  | false =>
    show Sem.run C.P (do
      let r ← (do
        eqGuard .eql t x y (a.eval x) (a.eval y)
        binOp .eql t (a.eval x) (a.eval y))
      pure (Next.value r)) w = _
    rw [hv, hb, Sem.run_bind, key.1, Bool.xor_false]
    rfl
  | true =>
    show Sem.run C.P (do
      let r ← (do
        eqGuard .neq t x y (a.eval x) (a.eval y)
        binOp .neq t (a.eval x) (a.eval y))
      pure (Next.value r)) w = _
    rw [hv, hb, Sem.run_bind, key.2, Bool.xor_true]
    rfl
theorem sEQ {T : Nat → Option TI} {t e n : Nat} {yt : Nat} (hK : ∀ b : Bool, (b = true → n = 0) → K (st.set d (.pl (.bool b)))) (hT : TOk C.P T := by exact tyOk) (ht : slK T t = some e := by exact ev) (hx : nln (st.ev x) = some n := by exact ev) (hy : st.ev y = .nl := by exact ev) (hd : d < st.n := by exact nn) :
    Sop C { dst := some d, op := .binOp .eql t x y yt, type := ty, pos := pos, after := af, guard := g } st K := sEQ0 (neg := false) (fun b hb => by rw [Bool.xor_false]; exact hK b hb) hT ht hx hy hd
theorem sNQ {T : Nat → Option TI} {t e n : Nat} {yt : Nat} (hK : ∀ b : Bool, (b = true → n = 0) → K (st.set d (.pl (.bool (!b))))) (hT : TOk C.P T := by exact tyOk) (ht : slK T t = some e := by exact ev) (hx : nln (st.ev x) = some n := by exact ev) (hy : st.ev y = .nl := by exact ev) (hd : d < st.n := by exact nn) :
    Sop C { dst := some d, op := .binOp .neq t x y yt, type := ty, pos := pos, after := af, guard := g } st K := sEQ0 (neg := true) (fun b hb => by rw [Bool.xor_true]; exact hK b hb) hT ht hx hy hd
attribute [go_sem] nln
end
end Go.Vcg
/- Ghost steps ahead of an operation. -/
namespace Go.Vcg
section
variable {C : Cx} {st st' : St} {K : St → Prop} {o : Oper} {p : Prop}
theorem Sop.weak (hw : Weak C st st') (h : Sop C o st' K) : Sop C o st K := by
  unfold Weak at hw
  unfold Sop at h ⊢
  exact fun Q a w hp hh => h Q a w hp (hw a w hh)
theorem lV (t d k : Nat) (h : Sop C o (st.virt t d k) K) : Sop C o st K := Sop.weak (Weak.virt C st t d k) h
theorem lA (b i j d k : Nat) (h : Sop C o (st.virtAt b i j d k) K) : Sop C o st K := Sop.weak (Weak.virtAt C st b i j d k) h
theorem lZ (b : Nat) (h : Sop C o (st.frz b) K) : Sop C o st K := Sop.weak (Weak.frz C st b) h
theorem lR (d d' : Nat) (h : Sop C o (st.ren d d') K) (hw : ∀ b, C.M.wr b := by exact fun _ => trivial) : Sop C o st K := Sop.weak (Weak.ren C hw st d d') h
theorem lF (b i j : Nat) (h : Sop C o st' K) (hw : ∀ b, C.M.wr b := by exact fun _ => trivial) (he : st.foldAt b i j = some (p, st') := by exact ev) (hp : p := by exact pm) : Sop C o st K := Sop.weak (Weak.foldAt C hw he hp) h
theorem lU (b i j n : Nat) (h : Sop C o st' K) (hw : ∀ b, C.M.wr b := by exact fun _ => trivial) (he : st.unfoldAt b i j n = some (p, st') := by exact ev) (hp : p := by exact pm) : Sop C o st K := Sop.weak (Weak.unfoldAt C hw he hp) h
end
end Go.Vcg
/- Bytes made text; contracts of functions that leave the world alone. -/
namespace Go.Vcg
/-- Text with these bytes. -/
def strI (xs : List Int) : ByteArray := ⟨(xs.map fun n => UInt8.ofNat n.toNat).toArray⟩
theorem fold_strI (xs : List Int) : ∀ r : ByteArray, xs.foldl (fun r n => r.push (UInt8.ofNat n.toNat)) r = ⟨r.data ++ (xs.map fun n => UInt8.ofNat n.toNat).toArray⟩ := by
  induction xs with
  | nil => intro r; simp
  | cons x xs ih =>
    intro r
    rw [List.foldl_cons, ih]
    simp [ByteArray.push]
theorem ba_toList (r : ByteArray) : r.toList = r.data.toList := ByteArray.toList_eq r
theorem strI_toList (xs : List Int) : (strI xs).toList = xs.map fun n => UInt8.ofNat n.toNat := by rw [ba_toList]; rfl
theorem strI_inj {xs ys : List Int} (h1 : ∀ x ∈ xs, 0 ≤ x ∧ x < 256) (h2 : ∀ x ∈ ys, 0 ≤ x ∧ x < 256) : ((strI xs).toList == (strI ys).toList) = decide (xs = ys) := by
  rw [strI_toList, strI_toList]
  have key : ∀ (xs ys : List Int), (∀ x ∈ xs, 0 ≤ x ∧ x < 256) → (∀ x ∈ ys, 0 ≤ x ∧ x < 256) → (xs.map fun n => UInt8.ofNat n.toNat) = (ys.map fun n => UInt8.ofNat n.toNat) → xs = ys := by
    intro xs
    induction xs with
    | nil => intro ys _ _ e; cases ys with
      | nil => rfl
      | cons y ys => cases e
    | cons x xs ih => intro ys g1 g2 e; cases ys with
      | nil => cases e
      | cons y ys =>
        rw [List.map_cons, List.map_cons] at e
        obtain ⟨e1, e2⟩ := List.cons.inj e
        have a1 := g1 x (List.mem_cons_self ..)
        have a2 := g2 y (List.mem_cons_self ..)
        have e3 := congrArg UInt8.toNat e1
        rw [UInt8.toNat_ofNat', UInt8.toNat_ofNat'] at e3
        rw [show x = y by omega, ih ys (fun z hz => g1 z (List.mem_cons_of_mem _ hz)) (fun z hz => g2 z (List.mem_cons_of_mem _ hz)) e2]
  by_cases e : xs = ys
  · rw [e]; simp
  · rw [decide_eq_false e]
    exact beq_eq_false_iff_ne.mpr fun g => e (key xs ys h1 h2 g)
section
variable {w0 : World} {M : Perm} {S0 : Nat → Prop} {ρ : Nat → Option Loc} {φ : Nat → Nat → Prop} {S : Nat → Prop} {st : St} {a : Act} {w : World} {C : Cx} {K : St → Prop} {ty d : Nat} {pos : String} {af : Array Edge} {g : Option (Nat × Bool)} {c x y : Operand}
/-- Are these types a slice of bytes and text? -/
def byStr (T : Nat → Option TI) (src dst : Nat) : Bool := match T src, T dst with
  | some a, some b => match a.k, b.k with
    | .slice e, .str => match T e with
      | some ei => match ei.k with
        | .int .u8 => ei.size == 1
        | _ => false
      | none => false
    | _, _ => false
  | _, _ => false
theorem byStr_ok {T : Nat → Option TI} {P : Program} (hT : TOk P T) {src dst : Nat} (h : byStr T src dst = true) : ∃ e, P.underlying src = some (.slice e) ∧ P.underlying e = some (.int .u8) ∧ P.underlying dst = some .string := by
  unfold byStr at h
  split at h <;> try (cases h; done)
  rename_i ta tb ha hb
  split at h <;> try (cases h; done)
  rename_i e hk1 hk2
  split at h <;> try (cases h; done)
  rename_i ei he
  split at h <;> try (cases h; done)
  rename_i hk3
  obtain ⟨d1, u1, v1⟩ := (hT _ _ ha).und
  obtain ⟨d2, u2, v2⟩ := (hT _ _ hb).und
  obtain ⟨d3, u3, v3⟩ := (hT _ _ he).und
  rw [hk1] at v1; obtain rfl := tk_slice v1
  rw [hk2] at v2; obtain rfl := tk_str v2
  rw [hk3] at v3; obtain rfl := tk_int v3
  exact ⟨e, u1, u3, u2⟩
theorem sCB {T : Nat → Option TI} {src dst : Nat} {side : Prop} {xs : List Int} (hK : K (st.set d (.pl (.string (strI xs))))) (hT : TOk C.P T := by exact tyOk) (hu : byStr T src dst = true := by exact ev)
    (hx : srcRows T st 1 src (st.ev x) = some (side, encI .u8 xs) := by exact ev) (hs : side := by exact nn) (hd : d < st.n := by exact nn) :
    Sop C { dst := some d, op := .convert src dst x, type := ty, pos := pos, after := af, guard := g } st K := by
  unfold Sop
  intro Q a w _ ⟨ρ, φ, S, h⟩
  obtain ⟨e, u1, u2, u3⟩ := byStr_ok hT hu
  obtain ⟨vs, hsr⟩ := src_ok (P := C.P) (F := fun _ => False) hT h (h.ev x) hx hs
  have hlen : vs.length = xs.length := by rw [hsr.flat.len, encI_length, Nat.mul_one]
  have hvs : vs = xs.map (Value.int .u8) := by
    obtain ⟨G, _, _, g3⟩ := hsr.flat.cell
    apply List.ext_getElem?
    intro i
    rw [List.getElem?_map]
    cases hi : xs[i]? with
    | none =>
      rw [List.getElem?_eq_none_iff] at hi
      exact List.getElem?_eq_none_iff.mpr (by omega)
    | some z =>
      obtain ⟨v, e1, e2⟩ := g3 i [.pl (.int .u8 z)] 0 (.pl (.int .u8 z)) (by rw [encI, List.getElem?_map, hi]; rfl) rfl
      rw [Nat.mul_one, Nat.add_zero] at e1
      rw [e1]
      rcases e2 with e2 | e2
      · rw [e2.pl_eq]; rfl
      · cases e2 with
        | per e2 => cases e2; rfl
  have hfc := hsr.first xs.length w (by rw [encI_length]; exact Nat.le_refl _) rfl
  have hln := hsr.lenOf w
  have hrun : (convert src dst (a.eval x)).run C.P w = .ok (.string (strI xs)) w := by
    have hr := h.ev x
    generalize a.eval x = v at hr hfc hln
    have hsl : ∃ ad n cp, v = .slice ad n cp := by
      unfold srcRows at hx
      split at hx <;> try (cases hx; done)
      rename_i ti ht
      obtain ⟨dd, q1, q2⟩ := (hT _ _ ht).und
      rw [u1] at q1
      obtain rfl := Option.some.inj q1
      split at hx <;> try (cases hx; done)
      · rename_i hv; rw [hv] at hr; cases hr with
        | per hr => cases hr <;> exact ⟨_, _, _, rfl⟩
      · rename_i hv; rw [hv] at hr; cases hr with
        | per hr => cases hr; exact ⟨_, _, _, rfl⟩
      · rename_i hv; rw [hv] at hr; cases hr with
        | per hr => cases hr
        | sl => exact ⟨_, _, _, rfl⟩
        | sl0 => exact ⟨_, _, _, rfl⟩
      · rename_i hv; rw [hv] at hr; cases hr with
        | per hr => cases hr
        | sa => exact ⟨_, _, _, rfl⟩
      · rename_i hk _; rw [hk] at q2; cases q2
    obtain ⟨ad, n, cp, rfl⟩ := hsl
    have hn : n = xs.length := by
      simp [Builtin.lenOf, encI_length] at hln
      exact hln
    rw [run_convert_bytes_string w src dst e ad n cp u1 u2 u3]
    cases ad with
    | none =>
      have h0 : xs = [] := by
        have := hfc
        simp [Builtin.firstCells] at this
        rw [hvs] at this
        exact this.elim id fun q => List.map_eq_nil_iff.mp q
      subst h0
      simp [Conv.bytesToString]
      rfl
    | some ad =>
      subst hn
      simp only [Builtin.firstCells, Nat.mul_one] at hfc
      rw [hvs, List.take_of_length_le (by simp)] at hfc
      rw [run_bytesToString w ad _ cp xs (by simpa using hfc), fold_strI]
      have he0 : ByteArray.empty.data = #[] := rfl
      rw [he0]
      simp [strI]
  refine wp_value (v := .string (strI xs)) (w' := w) ?_ ⟨_, hK, ρ, φ, S, h.setSlot hd (.per (.pl _))⟩
  show Sem.run C.P (do let r ← convert src dst (a.eval x); pure (Next.value r)) w = _
  rw [Sem.run_bind, hrun]
  rfl
/-- The function leaves the world alone and returns a plain value. -/
theorem TSpec.quiet {P : Program} {f : Nat} {args : List SV} {r : Value} (h : ∀ (w : World) (S : Nat → Prop) (ρ : Nat → Option Loc) (vals : List Value), vals.length = args.length → (∀ (i : Nat) (v : Value) (s : SV), vals[i]? = some v → args[i]? = some s → Rep ρ S w v s) → Calls P f vals.toArray w fun e w' => e = .returned r ∧ w' = w) : TSpec P f [] args false [] (.pl r) := by
  intro w S ρ φ vals hS hB hp hl hv
  refine (h w S ρ vals hl hv).mono ?_
  rintro e w' ⟨rfl, rfl⟩
  have hn : ∀ b, pk [] b ≠ none → False := fun b hb => hb rfl
  refine ⟨.ret (.pl r), [], ρ, φ, fun _ => False, ⟨rfl, rfl⟩, Nat.le_refl _, fun _ _ _ => rfl, ⟨fun b k hb => (by cases hb), fun b _ _ hb => (hn b hb).elim, fun b _ hb => (hn b hb).elim, fun b _ hb => (hn b hb).elim, fun b _ hb => (hn b hb).elim⟩, fun b hb => (hn b hb).elim, fun x ⟨b, hb, _⟩ => (hn b hb).elim, fun i hi => hi.elim, fun i hi => hi.elim, ⟨IOk.refl _, fun _ => Nat.le_refl _⟩, r, rfl, ⟨fun _ => False, .per (.pl _), fun _ hx => hx.elim⟩⟩
end
end Go.Vcg
/- The orders of a drawn region meet in one state. -/
namespace Go.Vcg
section
variable {st : St} {C : Cx} {K K' : St → Prop} {Q : SQ} {ks : List Kont} {c : Code} {l : List Oper} {id : Nat}
theorem RA.mono {P : Program} {W : Nat → Bool} {ws : List Nat} {pan : List PanicEntry → St → Prop} {ops : Array Oper} {fuel : Nat} {listed : Array Bool} (h : RA P W ws pan ops fuel listed st K) (hK : ∀ s, K s → K' s) : RA P W ws pan ops fuel listed st K' := by
  unfold RA at h ⊢
  exact fun w0 M S0 ρ φ S a w Q hs h1 h2 hQ hp hc => h w0 M S0 ρ φ S a w Q hs h1 h2 (fun a' w' ⟨st', k, r⟩ => hQ a' w' ⟨st', hK st' k, r⟩) hp hc
theorem rDJ (V : Nat → Bool) (ws : List Nat) (meet : St) (hj : RA C.P V ws C.pan l.toArray l.length (Array.replicate l.length false) st fun s => Weak C s meet) (hk : Swk C Q ks c meet) (hm : C.P.follows .mixedOrders = true := by exact mixed) (hW : ∀ b, C.M.wr b := by exact fun _ => trivial) (hro : ∀ b i, ¬ C.M.ro b i := by exact fun _ _ h => h) :
    Swk C Q (.code c :: ks) (.region id l.toArray true) st := Go.Vcg.W.draw V ws hm hW hro (hj.mono fun _ hs => N.code (Go.Vcg.W.weak hs hk))
theorem rDJ1 {i : Nat} (V : Nat → Bool) (ws : List Nat) (meet : St) (hj : RA C.P V ws C.pan l.toArray l.length (Array.replicate l.length false) st fun s => Weak C s meet) (hk : Swk C Q ks c meet) (hm : C.P.follows .mixedOrders = true := by exact mixed) (hW : ∀ b, C.M.wr b := by exact fun _ => trivial) (hro : ∀ b i, ¬ C.M.ro b i := by exact fun _ _ h => h) :
    Swk C Q (.blk i :: .code c :: ks) (.region id l.toArray true) st := Go.Vcg.W.draw V ws hm hW hro (hj.mono fun _ hs => N.blk (N.code (Go.Vcg.W.weak hs hk)))
theorem virtAt_n (st : St) (b i j d k : Nat) : (st.virtAt b i j d k).n = st.n := by
  unfold St.virtAt
  split
  · split
    · split <;> rfl
    · rfl
  · rfl
theorem virt_n (st : St) (t d k : Nat) : (st.virt t d k).n = st.n := by
  unfold St.virt
  split
  · split <;> rfl
  · rfl
end
end Go.Vcg
/- nil interfaces compared with nil. -/
namespace Go.Vcg
section
variable {st : St} {C : Cx} {K : St → Prop} {ty d : Nat} {pos : String} {af : Array Edge} {g : Option (Nat × Bool)} {x : Operand}
def ifK (T : Nat → Option TI) (t : Nat) : Bool := match T t with
  | some ti => match ti.k with
    | .iface => true
    | _ => false
  | none => false
theorem eqi_nn (P : Program) (d t : Nat) (ms : Array (String × TypeId)) (w' : World) (h : P.underlying t = some (.interface ms)) : (Op.equalIn (d + 1) t .nilIface .nilIface).run P w' = .ok true w' := by
  simp [Op.equalIn, run_underlying h]
theorem eqg_nn (op : BinOp) (t : Nat) (x : Operand) : eqGuard op t x (.const .nilIface) .nilIface .nilIface = pure () := by
  unfold eqGuard
  cases op <;> simp
theorem sIN0 {T : Nat → Option TI} {t yt : Nat} {neg : Bool} (hK : K (st.set d (.pl (.bool (!neg))))) (hT : TOk C.P T) (ht : ifK T t = true) (hx : st.ev x = .pl .nilIface) (hd : d < st.n) :
    Sop C { dst := some d, op := .binOp (if neg then .neq else .eql) t x (.const .nilIface) yt, type := ty, pos := pos, after := af, guard := g } st K := by
  unfold Sop
  intro Q a w _ ⟨ρ, φ, S, h⟩
  unfold ifK at ht
  split at ht <;> try (cases ht; done)
  rename_i ti hti
  split at ht <;> try (cases ht; done)
  rename_i hk
  obtain ⟨dd, u1, u2⟩ := (hT t ti hti).und
  rw [hk] at u2
  obtain ⟨ms, rfl⟩ := tk_iface' u2
  have e1 := h.ev x
  rw [hx] at e1
  have e1 := e1.pl_eq
  have h2 : (Op.equalIn (9999 + 1) t .nilIface .nilIface).run C.P w = .ok true w := eqi_nn _ 9999 t ms w u1
  refine wp_value (v := .bool (!neg)) (w' := w) ?_ ⟨_, hK, ρ, φ, S, h.setSlot hd (.per (.pl _))⟩
  have key := eql_of (P := C.P) x (.const .nilIface) (fun op => by rw [eqg_nn]; rfl) rfl rfl h2
  cases neg with
  | false =>
    show Sem.run C.P (do
      let r ← (do
        eqGuard .eql t x (.const .nilIface) (a.eval x) .nilIface
        binOp .eql t (a.eval x) .nilIface)
      pure (Next.value r)) w = _
    rw [e1, Sem.run_bind, key.1]
    rfl
  | true =>
    show Sem.run C.P (do
      let r ← (do
        eqGuard .neq t x (.const .nilIface) (a.eval x) .nilIface
        binOp .neq t (a.eval x) .nilIface)
      pure (Next.value r)) w = _
    rw [e1, Sem.run_bind, key.2]
    rfl
theorem sIE {T : Nat → Option TI} {t yt : Nat} (hK : K (st.set d (.pl (.bool true)))) (hT : TOk C.P T := by exact tyOk) (ht : ifK T t = true := by exact ev) (hx : st.ev x = .pl .nilIface := by exact ev) (hd : d < st.n := by exact nn) :
    Sop C { dst := some d, op := .binOp .eql t x (.const .nilIface) yt, type := ty, pos := pos, after := af, guard := g } st K := sIN0 (neg := false) hK hT ht hx hd
theorem sIQ {T : Nat → Option TI} {t yt : Nat} (hK : K (st.set d (.pl (.bool false)))) (hT : TOk C.P T := by exact tyOk) (ht : ifK T t = true := by exact ev) (hx : st.ev x = .pl .nilIface := by exact ev) (hd : d < st.n := by exact nn) :
    Sop C { dst := some d, op := .binOp .neq t x (.const .nilIface) yt, type := ty, pos := pos, after := af, guard := g } st K := sIN0 (neg := true) hK hT ht hx hd
attribute [go_sem] ifK
end
end Go.Vcg
