/- The walk: rules that came later. -/
import Derived.Test.YtfmbifnbmlhhjaaUc
/- Guarded operations that are not pure, in drawn regions. -/
namespace Go.Vcg
section
variable {P : Program} {W : Nat → Bool} {ws : List Nat} {pan : List PanicEntry → St → Prop} {l : List Oper} {fuel : Nat} {listed : Array Bool} {st : St} {K : St → Prop} {o oj : Oper} {j e : Nat} {want c g : Bool}
theorem gw {p : Prop} (h : p := by first | rfl | (simp only [go_sem, hD]; done) | (simp (disch := first | exact ds | fail) only [go_sem, hD]; done) | fail) : p := h
theorem rOT (i : Nat) (h : ∀ w0 may pin ro S0, Sop (RCx P W (ws.contains i) w0 may pin ro S0 pan) o st fun st' => RA P W ws pan l.toArray fuel (listed.setIfInBounds i true) st' K) (ho : nthO l i = some o := by rfl) (hr : Region.ready .any l.toArray listed = [i] := by kernel_rfl) (hg : o.guard = some (j, want) := by rfl) (hj : nthO l j = some oj := by rfl) (hdj : oj.dst = some e := by rfl)
    (hv : gVal (st.get e) = some (c, g) := by exact ev) (hn : e < st.n := by exact nn) (hd : dOk st.n o.dst := by exact nn) (hw : gWant want c g = true := by exact gw) : RA P W ws pan l.toArray (fuel + 1) listed st K :=
  RA.one ho hr fun w0 may pin ro S0 => So.guard (C := RCx P W (ws.contains i) w0 may pin ro S0 pan) hg (nthO_ok hj) hdj hn hv hd (fun _ => h w0 may pin ro S0) fun hf => absurd (hw.symm.trans hf) (by decide)
theorem rOF (i : Nat) (h : RA P W ws pan l.toArray fuel (listed.setIfInBounds i true) (st.put o.dst (.cn false .dead)) K) (ho : nthO l i = some o := by rfl) (hr : Region.ready .any l.toArray listed = [i] := by kernel_rfl) (hg : o.guard = some (j, want) := by rfl) (hj : nthO l j = some oj := by rfl) (hdj : oj.dst = some e := by rfl)
    (hv : gVal (st.get e) = some (c, g) := by exact ev) (hn : e < st.n := by exact nn) (hd : dOk st.n o.dst := by exact nn) (hw : gWant want c g = false := by exact gw) : RA P W ws pan l.toArray (fuel + 1) listed st K :=
  RA.one ho hr fun w0 may pin ro S0 => So.guard (C := RCx P W (ws.contains i) w0 may pin ro S0 pan) hg (nthO_ok hj) hdj hn hv hd (fun ht => absurd (hw.symm.trans ht) (by decide)) fun _ => h
variable {T : Nat → Option TI} {d i : Nat} {c0 x y : Operand} {ty : Nat} {pos : String} {af : Array Edge}
/-- A guarded operation that is known not to be carried out, taken first. -/
theorem rGF (i : Nat) (all : Bool) (h : RA P W ws pan l.toArray fuel (listed.setIfInBounds i true) (st.set d (.cn false .dead)) K) (hall : all = true → quiet l.toArray listed ws i = true := by first | (intro e; cases e; done) | (intro _; kernel_rfl)) (ho : nthO l i = some o := by rfl)
    (hs : Region.noSelect l.toArray = true := by kernel_rfl) (hf : Region.free .any l.toArray listed i = true := by kernel_rfl) (hr : (Region.ready .any l.toArray listed).contains i = true := by kernel_rfl) (hd : o.dst = some d := by rfl) (hg : o.guard = some (j, want) := by rfl) (hj : nthO l j = some oj := by rfl) (hdj : oj.dst = some e := by rfl)
    (hv : gVal (st.get e) = some (c, g) := by exact ev) (hn : e < st.n := by exact nn) (hdn : d < st.n := by exact nn) (hw : gWant want c g = false := by exact gw) : RA P W ws pan l.toArray (fuel + 1) listed st K := by
  refine RA.first all hall (nthO_ok ho) hs hf hr hd hdn (fun w0 M S0 ρ φ S a w hsim => ?_) h
  have h1 := wanted_of (C := ⟨P, w0, M, S0, pan⟩) (ops := l.toArray) (w := w) hsim hg (nthO_ok hj) hdj hn hv
  exact ⟨undef, .inr ⟨h1.trans hw, rfl⟩, .cn _ _ _ (fun e' => by cases e') (fun _ => rfl)⟩
/-- A pick whose bool is known, taken first. -/
theorem rPk {b : Bool} (i : Nat) (all : Bool) (h : RA P W ws pan l.toArray fuel (listed.setIfInBounds i true) (st.set d (if b then st.ev x else st.ev y)) K) (hall : all = true → quiet l.toArray listed ws i = true) (ho : nthO l i = some { dst := some d, op := .pick c0 x y, type := ty, pos := pos, after := af, guard := none })
    (hs : Region.noSelect l.toArray = true) (hf : Region.free .any l.toArray listed i = true) (hr : (Region.ready .any l.toArray listed).contains i = true) (hc : st.ev c0 = .pl (.bool b)) (hdn : d < st.n) : RA P W ws pan l.toArray (fuel + 1) listed st K := by
  refine RA.first all hall (nthO_ok ho) hs hf hr rfl hdn (fun w0 M S0 ρ φ S a w hsim => ?_) h
  have hrc := hsim.ev c0
  rw [hc] at hrc
  refine ⟨if b then a.eval x else a.eval y, .inl ⟨rfl, fun w' _ => ?_⟩, ?_⟩
  · unfold execOp
    simp [hrc.pl_eq, asBool]
  · cases b
    · exact hsim.ev y
    · exact hsim.ev x
theorem rPt (i : Nat) (all : Bool) (h : RA P W ws pan l.toArray fuel (listed.setIfInBounds i true) (st.set d (st.ev x)) K) (hall : all = true → quiet l.toArray listed ws i = true := by first | (intro e; cases e; done) | (intro _; kernel_rfl)) (ho : nthO l i = some { dst := some d, op := .pick c0 x y, type := ty, pos := pos, after := af, guard := none } := by rfl)
    (hs : Region.noSelect l.toArray = true := by kernel_rfl) (hf : Region.free .any l.toArray listed i = true := by kernel_rfl) (hr : (Region.ready .any l.toArray listed).contains i = true := by kernel_rfl) (hc : st.ev c0 = .pl (.bool true) := by exact ev) (hdn : d < st.n := by exact nn) : RA P W ws pan l.toArray (fuel + 1) listed st K := rPk (b := true) i all h hall ho hs hf hr hc hdn
theorem rPf (i : Nat) (all : Bool) (h : RA P W ws pan l.toArray fuel (listed.setIfInBounds i true) (st.set d (st.ev y)) K) (hall : all = true → quiet l.toArray listed ws i = true := by first | (intro e; cases e; done) | (intro _; kernel_rfl)) (ho : nthO l i = some { dst := some d, op := .pick c0 x y, type := ty, pos := pos, after := af, guard := none } := by rfl)
    (hs : Region.noSelect l.toArray = true := by kernel_rfl) (hf : Region.free .any l.toArray listed i = true := by kernel_rfl) (hr : (Region.ready .any l.toArray listed).contains i = true := by kernel_rfl) (hc : st.ev c0 = .pl (.bool false) := by exact ev) (hdn : d < st.n := by exact nn) : RA P W ws pan l.toArray (fuel + 1) listed st K := rPk (b := false) i all h hall ho hs hf hr hc hdn
/-- The same, in a row of operations. -/
theorem zF {C : Cx} {ops : Array Oper} {op : Op} (h : Sl C ops l (st.set d (.cn false .dead)) K) (hj : ops[j]? = some oj := by rfl) (hdj : oj.dst = some e := by rfl) (hv : gVal (st.get e) = some (c, g) := by exact ev) (hn : e < st.n := by exact nn) (hd : d < st.n := by exact nn) (hw : gWant want c g = false := by exact gw) :
    Sl C ops ({ dst := some d, op := op, type := ty, pos := pos, after := af, guard := some (j, want) } :: l) st K := O.gi hj hdj hv hn hd (fun ht => absurd (hw.symm.trans ht) (by decide)) fun _ => h
/-- A guarded operation that is known to be carried out. -/
theorem zT {C : Cx} {ops : Array Oper} {op : Op} (h : Sop C { dst := some d, op := op, type := ty, pos := pos, after := af, guard := some (j, want) } st fun s => Sl C ops l s K) (hj : ops[j]? = some oj := by rfl) (hdj : oj.dst = some e := by rfl) (hv : gVal (st.get e) = some (c, g) := by exact ev) (hn : e < st.n := by exact nn) (hd : d < st.n := by exact nn) (hw : gWant want c g = true := by exact gw) :
    Sl C ops ({ dst := some d, op := op, type := ty, pos := pos, after := af, guard := some (j, want) } :: l) st K := O.gi hj hdj hv hn hd (fun _ => h) fun hf => absurd (hw.symm.trans hf) (by decide)
/-- A guard that was not asked itself. -/
theorem wanted_dead {C : Cx} {a : Act} {w : World} {ρ : Nat → Option Loc} {φ : Nat → Nat → Prop} {S : Nat → Prop} {ops : Array Oper} {s : SV} (h : Sim C.w0 C.M C.S0 ρ φ S st a w) (hg : o.guard = some (j, want)) (hj : ops[j]? = some oj) (hd : oj.dst = some d) (hdn : d < st.n) (hv : st.get d = .cn false s) : Region.wanted o (yielded ops a.tmps) = false := by
  have hr := h.slot d
  have hsz : d < a.tmps.size := by rw [h.size]; exact hdn
  rw [hv] at hr
  have hu : a.tmps.getD d undef = undef := by
    generalize a.tmps.getD d undef = v at hr
    cases hr with
    | per h => cases h
    | cn _ _ _ h h0 => exact h0 rfl
  have hy : yielded ops a.tmps j = none := by
    unfold yielded
    rw [hj]
    simp only [Option.bind_some, hd]
    rw [Array.getD_eq_getD_getElem?, Array.getElem?_eq_getElem hsz] at hu
    simp only [Option.getD_some] at hu
    rw [Array.getElem?_eq_getElem hsz, hu]
    rfl
  unfold Region.wanted
  rw [hg]
  simp only [hy]
  cases want <;> rfl
theorem zD {C : Cx} {ops : Array Oper} {op : Op} {s : SV} (h : Sl C ops l (st.set d (.cn false .dead)) K) (hj : ops[j]? = some oj := by rfl) (hdj : oj.dst = some e := by rfl) (hv : st.get e = .cn false s := by exact ev) (hn : e < st.n := by exact nn) (hd : d < st.n := by exact nn) :
    Sl C ops ({ dst := some d, op := op, type := ty, pos := pos, after := af, guard := some (j, want) } :: l) st K := by
  refine Sl.cons ?_
  unfold So
  intro Q a w N hN _ ⟨ρ, φ, S, hs⟩
  rw [wanted_dead hs rfl hj hdj hn hv]
  exact hN _ _ ⟨_, h, ρ, φ, S, hs.put (show dOk st.n (some d) from hd) (.cn _ _ _ (fun e => by cases e) (fun _ => rfl))⟩
end
end Go.Vcg
