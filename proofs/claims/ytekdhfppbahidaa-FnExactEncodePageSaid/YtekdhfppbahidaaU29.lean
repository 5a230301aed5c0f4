/- The walk's rules once more; what they want is filled in by itself. hD, in a proof that uses them: what else is to be simplified. -/
import Derived.Test.YtekdhfppbahidaaU28
namespace Go.Vcg
set_option linter.unusedVariables false
open Go.IntWalk
theorem lDrop {α : Type} {i : Nat} {l : List α} : (l.drop i).length = l.length - i := List.length_drop
theorem lTake {α : Type} {i : Nat} {l : List α} : (l.take i).length = min i l.length := List.length_take
theorem lApp {α : Type} {l r : List α} : (l ++ r).length = l.length + r.length := List.length_append
theorem lRep {α : Type} {n : Nat} {a : α} : (List.replicate n a).length = n := List.length_replicate
theorem lTakeNil {α : Type} {i : Nat} : ([] : List α).take i = [] := List.take_nil
theorem lAssoc {α : Type} {a b c : List α} : a ++ b ++ c = a ++ (b ++ c) := List.append_assoc a b c
def dNo : Nat → Nat := fun _ => 0
theorem dN0 : dNo 0 = 0 := rfl
theorem ds {p : Prop} (h : p := by first | omega | assumption | (simp only [go_sem, hD]; done) | (simp; done) | (simp; omega)) : p := h
theorem ev {α : Sort _} {a b : α} (h : a = b := by (focus simp +decide only [go_sem] <;> (try simp (disch := first | exact ds | fail) only [go_sem, Nat.reduceAdd, Nat.reduceMul, Nat.reduceSub, Int.reduceToNat, Int.reduceNeg, hD]) <;> rfl)) : a = b := h
theorem ev0 {α : Sort _} {a b : α} (h : a = b := by (focus simp +decide only [go_sem] <;> rfl)) : a = b := h
theorem nn {p : Prop} (h : p := by (simp +decide only [go_sem]; done)) : p := h
theorem sd {p : Prop} (h : p := by ((repeat' apply And.intro) <;> first | exact True.intro | omega | assumption | trivial | (simp; done) | (simp; omega))) : p := h
theorem sg {p : Prop} (h : p := by (intro hg; (repeat' apply And.intro) <;> first | exact True.intro | omega | assumption | trivial | (simp; done) | (simp at hg ⊢; omega))) : p := h
theorem pm1 {p : Prop} (h : p := by
  first
  | exact True.intro
  | omega
  | assumption
  | (apply hall; omega)
  | (simp +decide only [go_sem]; done)
  | (simp +decide (disch := first | exact ds | fail) only [go_sem, Nat.reduceAdd, Nat.reduceMul, Nat.reduceSub, Int.reduceToNat, Int.reduceNeg, hD]; done)
  | (simp; done)
  | (simp; omega)
  | (simp +decide (disch := first | exact ds | fail) only [go_sem, List.length_append, List.length_replicate, Nat.reduceAdd, Nat.reduceMul, Nat.reduceSub, Int.reduceToNat, Int.reduceNeg, hD] <;> omega)
  | (simp +decide [impOk, impOk1, go_sem]; done)) : p := h
theorem pm {p : Prop} (h : p := by first | omega | assumption | ((repeat' apply And.intro) <;> exact pm1)) : p := h
theorem wq {p : Prop} (h : p := by first | exact fun _ _ => trivial | exact fun _ _ => ⟨rfl, rfl⟩ | exact wr_nil | (simp +decide [go_sem]; done)) : p := h
theorem to1 {p : Prop} (h : p := by
  first
  | (simp +decide only [go_sem]; done)
  | (simp +decide only [go_sem]; (try simp (disch := first | exact ds | fail) only [go_sem, Nat.reduceAdd, Nat.reduceMul, Nat.reduceSub, Int.reduceToNat, Int.reduceNeg, hD]); (try simp only [SV.pl.injEq, Value.int.injEq, Bk.c.injEq, encI_inj, true_and]); (try omega); done)
  | (simp (disch := first | exact ds | fail) only [go_sem, Nat.reduceAdd, Nat.reduceMul, Nat.reduceSub, Int.reduceToNat, Int.reduceNeg, hD]; done)
  | omega
  | assumption) : p := h
section
variable {C : Cx} {st : St} {Q : SQ} {K : St → Prop} {ops : Array Oper} {l : List Oper} {ks : List Kont} {T : Nat → Option TI} {d ty : Nat} {op : Op} {pos : String} {af : Array Edge} {g : Option (Nat × Bool)} {side p : Prop} {sv : SV} {st' : St} {dst : Option Nat}
/-! ## Operations -/
theorem sP (h : K (st.set d sv)) (hT : TOk C.P T := by exact tyOk) (he : pev T st st.ev op = some (True, sv) := by exact ev) (hd : d < st.n := by exact nn) : Sop C { dst := some d, op := op, type := ty, pos := pos, after := af, guard := g } st K := Sop.pure hT he trivial hd h
theorem sQ (h : side → K (st.set d sv)) (hT : TOk C.P T := by exact tyOk) (he : pev T st st.ev op = some (side, sv) := by exact ev) (hd : d < st.n := by exact nn) (hs : side := by exact sd) : Sop C { dst := some d, op := op, type := ty, pos := pos, after := af, guard := g } st K := Sop.pure hT he hs hd (h hs)
theorem sX (h : side → K st') (hT : TOk C.P T := by exact tyOk) (he : xop T C.M.wr st dst op = some (side, st') := by exact ev) (hs : side := by exact sd) : Sop C { dst := dst, op := op, type := ty, pos := pos, after := af, guard := g } st K := xop_ok hT he hs (h hs)
theorem sY {P : Program} (h : side → K st') (hC : C.P = P := by rfl) (hT : TOk P T := by exact tyOk) (he : yop T C.M.wr st dst op = some (side, st') := by exact ev) (hs : side := by exact pm) : Sop C { dst := dst, op := op, type := ty, pos := pos, after := af, guard := g } st K := by
  subst hC
  exact yop_ok hT he hs (h hs)
theorem z3 {t : Nat} {x y m : Operand} (hK : side → K (st.set d sv)) (hT : TOk C.P T := by exact tyOk) (he : pSlice3 T t (st.ev x) (st.ev y) (st.ev m) = some (side, sv) := by exact ev) (hd : d < st.n := by exact nn) (hs : side := by exact pm) :
    Sop C { dst := some d, op := .slice t x none (some y) (some m), type := ty, pos := pos, after := af, guard := g } st K := O.s3 hT he hd hs hK
theorem zz {f t : Nat} {c : Call} {n : Nat} {x : Operand} (hK : K (((st.kill d).setBlk d (.c 1 (List.replicate n [.dead]))).set d (.sl d 0 n))) (hf : MnzOk C.P f t := by exact mnzOk) (hc : c.callee = .value (.func f) := by rfl) (hargs : c.args.toList = [x] := by rfl) (he : st.ev x = .pl (.int .i64 n) := by exact ev) (hd : d < st.n := by exact nn) (hn : n ≤ 281474976710656 := by exact pm) :
    Sop C { dst := some d, op := .call c, type := ty, pos := pos, after := af, guard := g } st K := O.mnz hf hc hargs he hd hn hK
theorem zg {j e : Nat} {want c b : Bool} {oj : Oper} (h : (gWant want c b = true → side) → Sl C ops l (st.set d (.cn (gWant want c b) sv)) K) (hT : TOk C.P T := by exact tyOk) (hj : ops[j]? = some oj := by rfl) (hdj : oj.dst = some e := by rfl) (hv : gVal (st.get e) = some (c, b) := by exact ev)
    (he : pev T st (fun x => (st.ev x).assume (gWant want c b)) op = some (side, sv) := by exact ev) (hn : e < st.n := by exact nn) (hd : d < st.n := by exact nn) (hs : gWant want c b = true → side := by exact sg) : Sl C ops ({ dst := some d, op := op, type := ty, pos := pos, after := af, guard := some (j, want) } :: l) st K :=
  O.g hT hj hdj hv he hn hd hs h
theorem zs {j e : Nat} {want c b : Bool} {oj : Oper} (h1 : b = true → Sl C ops ({ dst := dst, op := op, type := ty, pos := pos, after := af, guard := some (j, want) } :: l) st K) (h2 : b = false → Sl C ops ({ dst := dst, op := op, type := ty, pos := pos, after := af, guard := some (j, want) } :: l) st K)
    (hj : ops[j]? = some oj := by rfl) (hdj : oj.dst = some e := by rfl) (hv : gVal (st.get e) = some (c, b) := by exact ev) : Sl C ops ({ dst := dst, op := op, type := ty, pos := pos, after := af, guard := some (j, want) } :: l) st K := O.split hj hdj hv h1 h2
theorem zj {j e : Nat} {want c b : Bool} {oj : Oper} (h1 : gWant want c b = true → Sop C { dst := some d, op := op, type := ty, pos := pos, after := af, guard := some (j, want) } st fun s => Sl C ops l s K) (h2 : gWant want c b = false → Sl C ops l (st.set d (.cn false .dead)) K)
    (hj : ops[j]? = some oj := by rfl) (hdj : oj.dst = some e := by rfl) (hv : gVal (st.get e) = some (c, b) := by exact ev) (hn : e < st.n := by exact nn) (hd : d < st.n := by exact nn) : Sl C ops ({ dst := some d, op := op, type := ty, pos := pos, after := af, guard := some (j, want) } :: l) st K := O.gi hj hdj hv hn hd h1 h2
theorem sA {o : Oper} (t : Nat) {c : Bool} {s : SV} (hK : Sop C o (st.set t s) K) (h : st.get t = .cn c s := by exact ev) (hc : c = true := by first | exact hb | (simpa only [go_sem] using hb) | rfl) : Sop C o st K := X.asm t h hc hK
theorem zI {c : Operand} {x y : Code} {b : Bool} (h1 : b = true → Swk C Q ks x st) (h2 : b = false → Swk C Q ks y st) (he : st.ev c = .pl (.bool b) := by exact ev0) : Swk C Q ks (.cond c x y) st := W.cond he h1 h2
theorem zM {id id' : Nat} (h : Swe C Q ks id st) (hn : id ≠ id' := by decide) : Swe C Q (.blk id' :: ks) id st := E.miss hn h
/-! ## Calls -/
/-- A call of f with these arguments; what is to hold behind it. -/
def CK (C : Cx) (f : Nat) (pins : Pins) (args : List SV) (sh : Bool) (st : St) (bs : Bs) (d : Option Nat) (K : St → Prop) : Prop := ∃ ps r, TSpec C.P f pins args sh ps r ∧ impOk r ∧ K (bindR (backs st bs ps) d r)
theorem k1 {c : Call} {f : Nat} (sh : Bool) (pa : List (Nat × Nat × Option Nat)) {bs : Bs} {pins : Pins} {args : List SV} (hk : CallOk C.P f) (h : CK C f pins args sh st bs dst K) (hc : c.callee = .value (.func f) := by rfl) (hb0 : pa.map (pinAt (c.args.toList.map st.ev)) = bs := by exact ev)
    (hbs : bsOk bs = true := by decide) (hw : ∀ q ∈ bs, C.M.wr q.2 := by exact wq) (hp : pinsOf st.blk (toPin bs) bs = some pins := by exact ev) (ha : (c.args.toList.map st.ev).map (argSV (lentB st bs sh) (toPin bs)) = args := by exact ev) (hd : dOk st.n dst := by exact nn) :
    Sop C { dst := dst, op := .call c, type := ty, pos := pos, after := af, guard := g } st K := by
  obtain ⟨ps, r, h1, h2, h3⟩ := h
  exact X.cp pa h1 hk hc hb0 hbs hw hp ha hd h2 rfl h3
theorem k2 {f : Nat} {bs : Bs} {pins ps : Pins} {args : List SV} {sh : Bool} {r : SV} (hsp : TSpec C.P f pins args sh ps r) (h : K st') (hi : impOk r := by exact pm) (hb : bindR (backs st bs ps) dst r = st' := by exact ev) : CK C f pins args sh st bs dst K :=
  ⟨ps, r, hsp, hi, by rw [hb]; exact h⟩
/-! ## Ghost steps -/
section
variable {c : Code} {st2 : St}
theorem gV (t d k : Nat) (h : Swk C Q ks c (st.virt t d k)) : Swk C Q ks c st := W.virt t d k h
theorem gA (b i j d k : Nat) (h : Swk C Q ks c (st.virtAt b i j d k)) : Swk C Q ks c st := W.virtAt b i j d k h
theorem gZ (b : Nat) (h : Swk C Q ks c (st.frz b)) : Swk C Q ks c st := W.frz b h
theorem gR (d d' : Nat) (h : Swk C Q ks c (st.ren d d')) (hw : ∀ b, C.M.wr b := by exact fun _ => trivial) : Swk C Q ks c st := W.ren hw d d' h
theorem gF (b i j : Nat) (h : Swk C Q ks c st') (hw : ∀ b, C.M.wr b := by exact fun _ => trivial) (he : st.foldAt b i j = some (p, st') := by exact ev) (hp : p := by exact pm) : Swk C Q ks c st := W.fold hw b i j he hp h
theorem gU (b i j n : Nat) (h : Swk C Q ks c st') (hw : ∀ b, C.M.wr b := by exact fun _ => trivial) (he : st.unfoldAt b i j n = some (p, st') := by exact ev) (hp : p := by exact pm) : Swk C Q ks c st := W.unfold hw b i j n he hp h
theorem eV (t d k : Nat) (h : Weak C (st.virt t d k) st2) : Weak C st st2 := K.virt t d k h
theorem eA (b i j d k : Nat) (h : Weak C (st.virtAt b i j d k) st2) : Weak C st st2 := K.virtAt b i j d k h
theorem eZ (b : Nat) (h : Weak C (st.frz b) st2) : Weak C st st2 := K.frz b h
theorem eR (d d' : Nat) (h : Weak C (st.ren d d') st2) (hw : ∀ b, C.M.wr b := by exact fun _ => trivial) : Weak C st st2 := K.ren hw d d' h
theorem eF (b i j : Nat) (h : Weak C st' st2) (hw : ∀ b, C.M.wr b := by exact fun _ => trivial) (he : st.foldAt b i j = some (p, st') := by exact ev) (hp : p := by exact pm) : Weak C st st2 := K.fold hw b i j he hp h
theorem eU (b i j n : Nat) (h : Weak C st' st2) (hw : ∀ b, C.M.wr b := by exact fun _ => trivial) (he : st.unfoldAt b i j n = some (p, st') := by exact ev) (hp : p := by exact pm) : Weak C st st2 := K.unfold hw b i j n he hp h
end
/-! ## States compared; loops; the beginning; the return -/
theorem wt {n : Nat} {sl : List (Nat × SV)} {bl : List (Nat × Bk)} (hn : st.n = n := by rfl) (h1 : slOk st sl := by exact to1) (h3 : blOk st bl := by exact to1) : Weak C st ⟨n, sl, bl⟩ := Weak.to hn h1 h3
theorem wI {c : Code} (I : Nat → St) (H : Nat → Prop) (N : Nat) (h : ∀ k, k ≤ N → H k → Swk C Q (.fin (fun s => k < N ∧ H (k + 1) ∧ Weak C s (I (k + 1))) :: ks) c (I k)) (hw : Weak C st (I 0) := by exact wt) (h0 : H 0 := by exact to1) : Swk C Q ks (.loop c) st := W.iter I H N hw h0 h
theorem nF {k N : Nat} {H2 : Prop} {s2 : St} (hw : Weak C st s2) (hk : k < N := by omega) (hH : H2 := by exact to1) : Swn C Q (.fin (fun s => k < N ∧ H2 ∧ Weak C s s2) :: ks) st := Go.Vcg.N.fin ⟨hk, hH, hw⟩
theorem nH {k N : Nat} {H2 : Prop} {s2 : St} (hH : H2) (hw : Weak C st s2) (hk : k < N := by omega) : Swn C Q (.fin (fun s => k < N ∧ H2 ∧ Weak C s s2) :: ks) st := Go.Vcg.N.fin ⟨hk, hH, hw⟩
theorem sT {P : Program} {f : Nat} {fn : Func} {c : Code} {pins : Pins} {args : List SV} {sh : Bool} {post : Pins → Out → Prop} (n : Nat) (rs : List ResultVar) (hf : P.funcs[f]? = some fn)
    (h : ∀ (w0 : World) (S0 : Nat → Prop) (ρ0 : Nat → Option Loc) (φ0 : Nat → Nat → Prop), Swk ⟨P, w0, pinM ρ0 φ0 pins, S0, fun ch => post [] (.pan ch)⟩ (Ends T rs pins sh post) [] c (St.start n args pins))
    (hT : TOk P T := by exact tyOk) (hb : fn.body = some c := by rfl) (hnt : fn.ntmps = n := by rfl) (hrs : fn.results.toList = rs := by rfl) (hn : args.length ≤ n := by exact Nat.le_of_ble_eq_true rfl) (hn' : n ≤ 1000000 := by exact Nat.le_of_ble_eq_true rfl) : MSpec P f pins args sh post :=
  MSpec.of_code hT hf hb hnt hrs hn hn' fun w0 S0 ρ0 φ0 => W.start (h w0 S0 ρ0 φ0)
section
variable {rs : List ResultVar} {pins ps : Pins} {ss : List SV} {ns : List Nat} {t : SV}
theorem rT (h1 : resSV T st rs = some (side, ss) := by exact ev) (h2 : side := by exact sd) (h3 : exRes st.blk ss t = some (p, ns) := by exact ev) (h4 : p := by exact pm) (h5 : decide ns.Nodup = true := by decide) (h6 : pinsTold st pins ns ps := by exact pm) (h7 : t.shut = true := by exact pm) (h9 : (ps.all fun q => q.2.shut) = true := by exact pm) :
    Ends T rs pins false (fun ps' o => ps' = ps ∧ o = .ret t) .ret st := R.told h1 h2 h3 h4 h5 h6 h7 h9
theorem rS (h1 : resSV T st rs = some (side, ss) := by exact ev) (h2 : side := by exact sd) (h3 : exRes st.blk ss t = some (p, ns) := by exact ev) (h4 : p := by exact pm) (h5 : decide ns.Nodup = true := by decide) (h6 : pinsTold st pins ns ps := by exact pm) :
    Ends T rs pins true (fun ps' o => ps' = ps ∧ o = .ret t) .ret st := R.share h1 h2 h3 h4 h5 h6
end
end
/-! ## Drawn regions -/
section
variable {P : Program} {T : Nat → Option TI} {W : Nat → Bool} {ws : List Nat} {pan : List PanicEntry → Prop} {l : List Oper} {fuel : Nat} {listed : Array Bool} {st : St} {K : St → Prop} {side : Prop} {sv : SV} {d : Nat} {o : Oper}
theorem ld {W : Nat → Bool} {o : Oper} {all : Bool} {f : Operand → SV} (h : ∀ t x, o.op = .load t x → all = false → (f x).safe W = true := by
  first | (intro t x hx he; cases he; done) | (intro t x hx _; cases hx; done) | (intro t x hx _; cases hx; simp +decide only [go_sem]; done)) : ∀ t x, o.op = .load t x → all = false → (f x).safe W = true := h
theorem RCx_wr (P : Program) (W : Nat → Bool) (wri : Bool) (w0 : World) (may : Nat → Prop) (pin : Nat → Option Loc) (ro : Nat → Nat → Prop) (S0 : Nat → Prop) (pan : List PanicEntry → Prop) (b : Nat) : (RCx P W wri w0 may pin ro S0 pan).M.wr b = (wri = true ∧ W b = true) := rfl
attribute [go_sem] RCx_wr
theorem rD {C : Cx} {Q : SQ} {ks : List Kont} {id : Nat} (W : Nat → Bool) (ws : List Nat) (h : RA C.P W ws C.pan l.toArray l.length (Array.replicate l.length false) st (Swn C Q ks)) (hm : C.P.follows .mixedOrders = true := by exact mixed) (hW : ∀ b, C.M.wr b := by exact fun _ => trivial) (hro : ∀ b i, ¬ C.M.ro b i := by exact fun _ _ h => h) :
    Swk C Q ks (.region id l.toArray true) st := Go.Vcg.W.draw W ws hm hW hro h
theorem rE (h : K st) (hr : Region.ready .any l.toArray listed = [] := by kernel_rfl) : RA P W ws pan l.toArray fuel listed st K := RA.done hr h fuel
theorem rP (i : Nat) (all : Bool) (h : side → RA P W ws pan l.toArray fuel (listed.setIfInBounds i true) (st.set d sv) K) (hall : all = true → quiet l.toArray listed ws i = true := by first | (intro e; cases e; done) | (intro _; kernel_rfl)) (hT : TOk P T := by exact tyOk) (ho : nthO l i = some o := by rfl)
    (hs : Region.noSelect l.toArray = true := by kernel_rfl) (hf : Region.free .any l.toArray listed i = true := by kernel_rfl) (hr : (Region.ready .any l.toArray listed).contains i = true := by kernel_rfl) (hd : o.dst = some d := by rfl) (hg : o.guard = none := by rfl)
    (he : pev T st st.ev o.op = some (side, sv) := by exact ev) (hl : ∀ t x, o.op = .load t x → all = false → (st.ev x).safe W = true := by exact ld) (hdn : d < st.n := by exact nn) (hsd : side := by exact sd) : RA P W ws pan l.toArray (fuel + 1) listed st K := RA.p all hall hT ho hs hf hr hd hg he hl hdn hsd h
theorem rG (i : Nat) (all : Bool) {j x : Nat} {want c g : Bool} {oj : Oper} (h : (gWant want c g = true → side) → RA P W ws pan l.toArray fuel (listed.setIfInBounds i true) (st.set d (.cn (gWant want c g) sv)) K) (hall : all = true → quiet l.toArray listed ws i = true := by first | (intro e; cases e; done) | (intro _; kernel_rfl))
    (hT : TOk P T := by exact tyOk) (ho : nthO l i = some o := by rfl) (hs : Region.noSelect l.toArray = true := by kernel_rfl) (hf : Region.free .any l.toArray listed i = true := by kernel_rfl) (hr : (Region.ready .any l.toArray listed).contains i = true := by kernel_rfl) (hd : o.dst = some d := by rfl) (hg : o.guard = some (j, want) := by rfl)
    (hj : nthO l j = some oj := by rfl) (hdj : oj.dst = some x := by rfl) (hv : gVal (st.get x) = some (c, g) := by exact ev) (he : pev T st (fun y => (st.ev y).assume (gWant want c g)) o.op = some (side, sv) := by exact ev) (hl : ∀ t y, o.op = .load t y → all = false → ((st.ev y).assume (gWant want c g)).safe W = true := by exact ld)
    (hxn : x < st.n := by exact nn) (hdn : d < st.n := by exact nn) (hsd : gWant want c g = true → side := by exact sg) : RA P W ws pan l.toArray (fuel + 1) listed st K := RA.g all hall hT ho hs hf hr hd hg hj hdj hv he hl hxn hdn hsd h
theorem rO (i : Nat) (h : ∀ w0 may pin ro S0, Sop (RCx P W (ws.contains i) w0 may pin ro S0 pan) o st fun st' => RA P W ws pan l.toArray fuel (listed.setIfInBounds i true) st' K) (ho : nthO l i = some o := by rfl) (hr : Region.ready .any l.toArray listed = [i] := by kernel_rfl) (hg : o.guard = none := by rfl) :
    RA P W ws pan l.toArray (fuel + 1) listed st K := RA.one ho hr fun w0 may pin ro S0 => So.op hg (h w0 may pin ro S0)
theorem rA (is : List Nat) (h : RAll P W ws pan l.toArray fuel listed st K is) (hr : Region.ready .any l.toArray listed = is := by kernel_rfl) (hne : is ≠ [] := by simp) : RA P W ws pan l.toArray (fuel + 1) listed st K := RA.all hr hne h
theorem xO {i : Nat} {is : List Nat} (h : ∀ w0 may pin ro S0, Sop (RCx P W (ws.contains i) w0 may pin ro S0 pan) o st fun st' => RA P W ws pan l.toArray fuel (listed.setIfInBounds i true) st' K) (hr : RAll P W ws pan l.toArray fuel listed st K is) (ho : nthO l i = some o := by rfl) (hg : o.guard = none := by rfl) :
    RAll P W ws pan l.toArray fuel listed st K (i :: is) := RX.of ho (fun w0 may pin ro S0 => So.op hg (h w0 may pin ro S0)) hr
end
end Go.Vcg
