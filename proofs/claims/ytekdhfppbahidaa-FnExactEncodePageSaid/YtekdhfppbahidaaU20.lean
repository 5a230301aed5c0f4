/- Loops that count; calls whose pins are named by their arguments; lookups behind a renaming. -/
import Derived.Test.YtekdhfppbahidaaU19
namespace Go.Vcg

variable {C : Cx} {st : St} {Q : SQ} {K : St → Prop} {ops : Array Oper} {l : List Oper} {ks : List Kont}

theorem Swk.fin_mono {R R' : St → Prop} {c : Code} (h : Swk C Q (.fin R :: ks) c st) (hr : ∀ s, R s → R' s) : Swk C Q (.fin R' :: ks) c st := by
  unfold Swk at h ⊢
  refine Swp.mono h fun e s hs => ?_
  cases e with
  | normal => exact hr s hs
  | _ => exact hs

/-- A loop whose k-th round begins in the state I k; H: what else holds then. -/
theorem W.iter {c : Code} (I : Nat → St) (H : Nat → Prop) (N : Nat) (hw : Weak C st (I 0)) (h0 : H 0) (h : ∀ k, k ≤ N → H k → Swk C Q (.fin (fun s => k < N ∧ H (k + 1) ∧ Weak C s (I (k + 1))) :: ks) c (I k)) : Swk C Q ks (.loop c) st := by
  refine W.loop (fun m s => ∃ k, k ≤ N ∧ m = N - k ∧ H k ∧ s = I k) N (I 0) hw ⟨0, Nat.zero_le _, rfl, h0, rfl⟩ ?_
  rintro m s ⟨k, hk, rfl, hH, rfl⟩
  refine Swk.fin_mono (h k hk hH) ?_
  rintro s ⟨h1, h2, h3⟩
  exact ⟨N - (k + 1), by omega, _, h3, k + 1, by omega, rfl, h2, rfl⟩

/-! ## Pins that arguments name -/

def nmOf0 : SV → Nat
  | .sl b _ _ => b
  | .sa b _ _ _ _ => b
  | .pt b _ _ => b
  | .mr b => b
  | _ => 0
def nmOf : SV → Nat
  | .ifc _ s => nmOf0 s
  | s => nmOf0 s
/-- The name in argument i (its cell j). -/
def pinAt (args : List SV) (p : Nat × Nat × Option Nat) : Nat × Nat := (p.1, match p.2.2 with
  | none => nmOf (nth args p.2.1)
  | some j => match nth args p.2.1 with
    | .ag cs => nmOf (nth cs j)
    | _ => 0)

section
variable {ty : Nat} {pos : String} {af : Array Edge} {st' : St} {g : Option (Nat × Bool)}
theorem O.cp {c : Call} {f : Nat} {d : Option Nat} (pa : List (Nat × Nat × Option Nat)) {bs : Bs} {pins ps : Pins} {args : List SV} {sh : Bool} {r : SV} (hsp : TSpec C.P f pins args sh ps r) (hk : CallOk C.P f) (hc : c.callee = .value (.func f)) (_hb0 : pa.map (pinAt (c.args.toList.map st.ev)) = bs)
    (hbs : bsOk bs = true) (hw : ∀ q ∈ bs, C.M.wr q.2)
    (hp : pinsOf st.blk (toPin bs) bs = some pins) (ha : (c.args.toList.map st.ev).map (argSV (lentB st bs sh) (toPin bs)) = args) (hd : dOk st.n d) (hi : impOk r) (hb : bindR (backs st bs ps) d r = st') (h : Sl C ops l st' K) :
    Sl C ops ({ dst := d, op := .call c, type := ty, pos := pos, after := af, guard := none } :: l) st K := O.c bs hsp hk hc hbs hw hp ha hd hi hb h
theorem X.cp {c : Call} {f : Nat} {d : Option Nat} (pa : List (Nat × Nat × Option Nat)) {bs : Bs} {pins ps : Pins} {args : List SV} {sh : Bool} {r : SV} (hsp : TSpec C.P f pins args sh ps r) (hk : CallOk C.P f) (hc : c.callee = .value (.func f)) (_hb0 : pa.map (pinAt (c.args.toList.map st.ev)) = bs)
    (hbs : bsOk bs = true) (hw : ∀ q ∈ bs, C.M.wr q.2)
    (hp : pinsOf st.blk (toPin bs) bs = some pins) (ha : (c.args.toList.map st.ev).map (argSV (lentB st bs sh) (toPin bs)) = args) (hd : dOk st.n d) (hi : impOk r) (hb : bindR (backs st bs ps) d r = st') (h : K st') :
    Sop C { dst := d, op := .call c, type := ty, pos := pos, after := af, guard := g } st K := X.c bs hsp hk hc hbs hw hp ha hd hi hb h
end
section
variable {P : Program} {W : Nat → Bool} {ws : List Nat} {pan : List PanicEntry → Prop} {fuel i : Nat} {listed : Array Bool} {st' : St}
theorem RA.cp {ty : Nat} {d : Option Nat} {pos : String} {af : Array Edge} {c : Call} {f : Nat} (pa : List (Nat × Nat × Option Nat)) {bs : Bs} {pins ps : Pins} {args : List SV} {sh : Bool} {r : SV} (hsp : TSpec P f pins args sh ps r) (hk : CallOk P f)
    (ho : nthO l i = some { dst := d, op := .call c, type := ty, pos := pos, after := af, guard := none }) (hr : Region.ready .any l.toArray listed = [i]) (hc : c.callee = .value (.func f)) (_hb0 : pa.map (pinAt (c.args.toList.map st.ev)) = bs) (hbs : bsOk bs = true) (hw : ∀ q ∈ bs, ws.contains i = true ∧ W q.2 = true)
    (hp : pinsOf st.blk (toPin bs) bs = some pins) (ha : (c.args.toList.map st.ev).map (argSV (lentB st bs sh) (toPin bs)) = args) (hd : dOk st.n d) (hi : impOk r) (hb : bindR (backs st bs ps) d r = st')
    (h : RA P W ws pan l.toArray fuel (listed.setIfInBounds i true) st' K) : RA P W ws pan l.toArray (fuel + 1) listed st K := RA.c1 bs hsp hk ho hr hc hbs hw hp ha hd hi hb h
theorem RX.cp {is : List Nat} {ty : Nat} {d : Option Nat} {pos : String} {af : Array Edge} {c : Call} {f : Nat} (pa : List (Nat × Nat × Option Nat)) {bs : Bs} {pins ps : Pins} {args : List SV} {sh : Bool} {r : SV} (hsp : TSpec P f pins args sh ps r) (hk : CallOk P f)
    (ho : nthO l i = some { dst := d, op := .call c, type := ty, pos := pos, after := af, guard := none }) (hc : c.callee = .value (.func f)) (_hb0 : pa.map (pinAt (c.args.toList.map st.ev)) = bs) (hbs : bsOk bs = true) (hw : ∀ q ∈ bs, ws.contains i = true ∧ W q.2 = true)
    (hp : pinsOf st.blk (toPin bs) bs = some pins) (ha : (c.args.toList.map st.ev).map (argSV (lentB st bs sh) (toPin bs)) = args) (hd : dOk st.n d) (hi : impOk r) (hb : bindR (backs st bs ps) d r = st')
    (h : RA P W ws pan l.toArray fuel (listed.setIfInBounds i true) st' K) (hr : RAll P W ws pan l.toArray fuel listed st K is) : RAll P W ws pan l.toArray fuel listed st K (i :: is) := RX.c bs hsp hk ho hc hbs hw hp ha hd hi hb h hr
end
/-- All names. -/
def anyW (_ : Nat) : Bool := true
theorem wr_nil {X : Nat × Nat → Prop} : ∀ q ∈ ([] : Bs), X q := fun _ h => by simp at h

/-! ## Lookups -/

theorem blk_ren_new (st : St) (d d' : Nat) (k : Bk) : (st.renWith d d' k).blk d' = some (k.sb d (renRef d')) := by rw [St.blk_renWith, if_pos rfl]
theorem blk_ren_old (st : St) (d d' : Nat) (k : Bk) (h : (d == d') = false) : (st.renWith d d' k).blk d = none := by rw [St.blk_renWith, if_neg (by simpa using h), if_pos rfl]
theorem blk_ren_ne (st : St) (d d' x : Nat) (k : Bk) (h : (x == d') = false) (h2 : (x == d) = false) : (st.renWith d d' k).blk x = (st.blk x).map (Bk.sb d (renRef d')) := by rw [St.blk_renWith, if_neg (by simpa using h), if_neg (by simpa using h2)]
theorem n_ren (st : St) (d d' : Nat) (k : Bk) : (st.renWith d d' k).n = st.n := rfl
theorem blk_frz_same (st : St) (b : Nat) (k : Bk) : (st.frzWith b k).blk b = none := by rw [St.blk_frzWith, if_pos rfl]
theorem blk_frz_ne (st : St) (b x : Nat) (k : Bk) (h : (x == b) = false) : (st.frzWith b k).blk x = (st.blk x).map (Bk.sb b (frzRef k)) := by rw [St.blk_frzWith, if_neg (by simpa using h)]
theorem n_frz (st : St) (b : Nat) (k : Bk) : (st.frzWith b k).n = st.n := rfl
theorem Bk.sb_c (d : Nat) (g : SV → SV) (k : Nat) (rows : Rows) : (Bk.c k rows).sb d g = .c k (sbRows d g rows) := rfl
theorem bsOk_nil : bsOk [] = true := rfl
theorem putAt_get (cs : List SV) : ∀ (row : List SV) (off j : Nat), off + cs.length ≤ row.length → (putAt row off cs)[j]? = if off ≤ j ∧ j < off + cs.length then cs[j - off]? else row[j]? := by
  induction cs with
  | nil =>
    intro row off j _
    rw [if_neg (by simp only [List.length_nil]; omega)]
    rfl
  | cons c cs ih =>
    intro row off j h
    simp only [List.length_cons] at h ⊢
    rw [putAt, ih _ _ _ (by simp; omega), List.getElem?_set]
    by_cases e : j = off
    · subst e
      rw [if_neg (by omega), if_pos rfl, if_pos (by omega), if_pos (by omega), Nat.sub_self]
      rfl
    · by_cases h2 : off + 1 ≤ j ∧ j < off + 1 + cs.length
      · rw [if_pos h2, if_pos (by omega), show j - off = (j - (off + 1)) + 1 from by omega, List.getElem?_cons_succ]
      · rw [if_neg h2, if_neg (by omega), if_neg (by omega)]
theorem putAt_all (row cs : List SV) (h : cs.length = row.length) : putAt row 0 cs = cs := by
  apply List.ext_getElem?
  intro j
  rw [putAt_get cs row 0 j (by omega)]
  by_cases hj : j < cs.length
  · rw [if_pos (by omega), Nat.sub_zero]
  · rw [if_neg (by omega), List.getElem?_eq_none (by omega), List.getElem?_eq_none (by omega)]

attribute [go_sem] nmOf nmOf0 pinAt anyW St.get_renWith blk_ren_new blk_ren_old blk_ren_ne n_ren St.get_frzWith blk_frz_same blk_frz_ne n_frz bsOk_nil

end Go.Vcg
