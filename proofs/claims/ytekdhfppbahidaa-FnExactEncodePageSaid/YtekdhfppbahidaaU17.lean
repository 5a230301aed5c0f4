/- Code, with what is to follow written out as a list; the operations; the return; what the walk looks up. -/
import Derived.Test.YtekdhfppbahidaaU16
import Derived.IntWalk
namespace Go.Vcg

variable {C : Cx} {st : St} {Q : SQ} {K : St → Prop} {ops : Array Oper} {o : Oper} {l : List Oper}

/-- What is to follow: code; the end of a block; the end of a loop's round. -/
inductive Kont where
  | code (c : Code)
  | blk (id : Nat)
  | fin (R : St → Prop)

def kq (C : Cx) (Q : SQ) : List Kont → SQ
  | [] => Q
  | .code c :: ks => SQ.then (fun s => Swp C c s (kq C Q ks)) (kq C Q ks)
  | .blk id :: ks => SQ.inBlock id (kq C Q ks)
  | .fin R :: ks => SQ.then R (kq C Q ks)

def Swk (C : Cx) (Q : SQ) (ks : List Kont) (c : Code) (st : St) : Prop := Swp C c st (kq C Q ks)
def Swn (C : Cx) (Q : SQ) (ks : List Kont) (st : St) : Prop := kq C Q ks .normal st
def Swe (C : Cx) (Q : SQ) (ks : List Kont) (id : Nat) (st : St) : Prop := kq C Q ks (.exit id) st

variable {ks : List Kont}

theorem N.nil (h : Q .normal st) : Swn C Q [] st := h
theorem N.code {c : Code} (h : Swk C Q ks c st) : Swn C Q (.code c :: ks) st := h
theorem N.blk {id : Nat} (h : Swn C Q ks st) : Swn C Q (.blk id :: ks) st := h
theorem N.fin {R : St → Prop} (h : R st) : Swn C Q (.fin R :: ks) st := h
theorem E.hit {id : Nat} (h : Swn C Q ks st) : Swe C Q (.blk id :: ks) id st := by
  show SQ.inBlock id (kq C Q ks) (.exit id) st
  simp only [SQ.inBlock, if_true]
  exact h
theorem E.miss {id id' : Nat} (hn : id ≠ id') (h : Swe C Q ks id st) : Swe C Q (.blk id' :: ks) id st := by
  show SQ.inBlock id' (kq C Q ks) (.exit id) st
  simp only [SQ.inBlock, if_neg hn]
  exact h
theorem E.code {c : Code} {id : Nat} (h : Swe C Q ks id st) : Swe C Q (.code c :: ks) id st := h
theorem E.fin {R : St → Prop} {id : Nat} (h : Swe C Q ks id st) : Swe C Q (.fin R :: ks) id st := h

theorem kq_ret (h : Q .ret st) : ∀ ks : List Kont, kq C Q ks .ret st := by
  intro ks
  induction ks with
  | nil => exact h
  | cons k ks ih => cases k <;> exact ih

theorem W.start {c : Code} (h : Swk C Q [] c st) : Swp C c st Q := h
theorem W.skip (h : Swn C Q ks st) : Swk C Q ks .skip st := Swp.skip h
theorem W.label {i : Nat} (h : Swn C Q ks st) : Swk C Q ks (.label i) st := Swp.label h
theorem W.seq {x y : Code} (h : Swk C Q (.code y :: ks) x st) : Swk C Q ks (.seq x y) st := Swp.seq h
theorem W.block {id : Nat} {c : Code} (h : Swk C Q (.blk id :: ks) c st) : Swk C Q ks (.block id c) st := Swp.block h
theorem W.exit {id : Nat} (h : Swe C Q ks id st) : Swk C Q ks (.exit id) st := Swp.exit h
theorem W.ret (h : Q .ret st) : Swk C Q ks .ret st := Swp.ret (kq_ret h ks)
theorem W.cond {c : Operand} {x y : Code} {b : Bool} (he : st.ev c = .pl (.bool b)) (h1 : b = true → Swk C Q ks x st) (h2 : b = false → Swk C Q ks y st) : Swk C Q ks (.cond c x y) st := Swp.cond he h1 h2
theorem W.weak {c : Code} {st' : St} (hw : Weak C st st') (h : Swk C Q ks c st') : Swk C Q ks c st := Swp.weak hw h
theorem W.region {id : Nat} {l : List Oper} (h : Sl C l.toArray l st (Swn C Q ks)) : Swk C Q ks (.region id l.toArray false) st := Swp.region h
theorem W.loop {c : Code} (I : Nat → St → Prop) (n : Nat) (st' : St) (hw : Weak C st st') (h0 : I n st') (h : ∀ n st, I n st → Swk C Q (.fin (fun s => ∃ m, m < n ∧ ∃ s', Weak C s s' ∧ I m s') :: ks) c st) : Swk C Q ks (.loop c) st :=
  Swp.weak hw (Swp.loop I n h0 h)

/-! ## Operations, one behind the other -/

section
variable {T : Nat → Option TI} {d ty : Nat} {op : Op} {pos : String} {af : Array Edge} {side : Prop} {sv : SV}

/-- pure operations -/
theorem O.p (hT : TOk C.P T) (he : pev T st st.ev op = some (side, sv)) (hd : d < st.n) (hs : side) (h : side → Sl C ops l (st.set d sv) K) : Sl C ops ({ dst := some d, op := op, type := ty, pos := pos, after := af, guard := none } :: l) st K :=
  Sl.cons (So.op rfl (Sop.pure hT he hs hd (h hs)))
/-- pure operations that want nothing -/
theorem O.p0 (hT : TOk C.P T) (he : pev T st st.ev op = some (True, sv)) (hd : d < st.n) (h : Sl C ops l (st.set d sv) K) : Sl C ops ({ dst := some d, op := op, type := ty, pos := pos, after := af, guard := none } :: l) st K := O.p hT he hd trivial fun _ => h
/-- pure operations under a guard -/
theorem O.g (hT : TOk C.P T) {j e : Nat} {want c g : Bool} {oj : Oper} (hj : ops[j]? = some oj) (hdj : oj.dst = some e) (hv : gVal (st.get e) = some (c, g)) (he : pev T st (fun x => (st.ev x).assume (gWant want c g)) op = some (side, sv)) (hn : e < st.n) (hd : d < st.n) (hs : gWant want c g = true → side)
    (h : (gWant want c g = true → side) → Sl C ops l (st.set d (.cn (gWant want c g) sv)) K) : Sl C ops ({ dst := some d, op := op, type := ty, pos := pos, after := af, guard := some (j, want) } :: l) st K :=
  Sl.cons (So.guardPure hT rfl hj hdj hn hv hd he hs (h hs))
theorem O.i {dst : Option Nat} (h : Sop C { dst := dst, op := op, type := ty, pos := pos, after := af, guard := none } st fun s => Sl C ops l s K) : Sl C ops ({ dst := dst, op := op, type := ty, pos := pos, after := af, guard := none } :: l) st K := Sl.cons (So.op rfl h)
theorem O.gi {j e : Nat} {want c g : Bool} {oj : Oper} (hj : ops[j]? = some oj) (hdj : oj.dst = some e) (hv : gVal (st.get e) = some (c, g)) (hn : e < st.n) (hd : d < st.n)
    (h1 : gWant want c g = true → Sop C { dst := some d, op := op, type := ty, pos := pos, after := af, guard := some (j, want) } st fun s => Sl C ops l s K) (h2 : gWant want c g = false → Sl C ops l (st.set d (.cn false .dead)) K) : Sl C ops ({ dst := some d, op := op, type := ty, pos := pos, after := af, guard := some (j, want) } :: l) st K := Sl.cons (So.guard rfl hj hdj hn hv hd h1 h2)

theorem O.x (hT : TOk C.P T) {dst : Option Nat} {st' : St} (he : xop T C.M.wr st dst op = some (side, st')) (hs : side) (h : side → Sl C ops l st' K) : Sl C ops ({ dst := dst, op := op, type := ty, pos := pos, after := af, guard := none } :: l) st K := Sl.cons (So.op rfl (xop_ok hT he hs (h hs)))
end

/-- A contract that tells all. -/
def TSpec (P : Program) (f : Nat) (pins : Pins) (args : List SV) (sh : Bool) (ps : Pins) (r : SV) : Prop := MSpec P f pins args sh fun ps' o => ps' = ps ∧ o = .ret r
theorem FSpec.t {P : Program} {f : Nat} {args : List SV} {sh : Bool} {r : SV} (h : FSpec P f args sh r) : TSpec P f [] args sh [] r := h

section
variable {ty : Nat} {pos : String} {af : Array Edge} {st' : St} {g : Option (Nat × Bool)}
/-- A call under such a contract: one operation. -/
theorem X.c {c : Call} {f : Nat} {d : Option Nat} (bs : Bs) {pins ps : Pins} {args : List SV} {sh : Bool} {r : SV} (hsp : TSpec C.P f pins args sh ps r) (hk : CallOk C.P f) (hc : c.callee = .value (.func f)) (hbs : bsOk bs = true) (hw : ∀ q ∈ bs, C.M.wr q.2)
    (hp : pinsOf st.blk (toPin bs) bs = some pins) (ha : (c.args.toList.map st.ev).map (argSV (lentB st bs sh) (toPin bs)) = args) (hd : dOk st.n d) (hi : impOk r) (hb : bindR (backs st bs ps) d r = st') (h : K st') :
    Sop C { dst := d, op := .call c, type := ty, pos := pos, after := af, guard := g } st K :=
  Sop.call bs hsp hk rfl hc hbs hw hp ha hd fun ps' o' ⟨e1, e2⟩ => by subst e1; subst e2; exact ⟨hi, by rw [show bindR (backs st bs ps') ({ dst := d, op := Op.call c, type := ty, pos := pos, after := af, guard := g } : Oper).dst r = st' from hb]; exact h⟩
theorem O.c {c : Call} {f : Nat} {d : Option Nat} (bs : Bs) {pins ps : Pins} {args : List SV} {sh : Bool} {r : SV} (hsp : TSpec C.P f pins args sh ps r) (hk : CallOk C.P f) (hc : c.callee = .value (.func f)) (hbs : bsOk bs = true) (hw : ∀ q ∈ bs, C.M.wr q.2)
    (hp : pinsOf st.blk (toPin bs) bs = some pins) (ha : (c.args.toList.map st.ev).map (argSV (lentB st bs sh) (toPin bs)) = args) (hd : dOk st.n d) (hi : impOk r) (hb : bindR (backs st bs ps) d r = st') (h : Sl C ops l st' K) :
    Sl C ops ({ dst := d, op := .call c, type := ty, pos := pos, after := af, guard := none } :: l) st K :=
  Sl.cons (So.op rfl (X.c bs hsp hk hc hbs hw hp ha hd hi hb h))
end

/-! ## The return -/

section
variable {T : Nat → Option TI} {rs : List ResultVar} {pins ps : Pins} {post : Pins → Out → Prop} {side p : Prop} {ss : List SV} {ns : List Nat} {t : SV}
theorem R.any {sh : Bool} (h8 : post ps (.ret t)) (h1 : resSV T st rs = some (side, ss)) (h2 : side) (h3 : exRes st.blk ss t = some (p, ns)) (h4 : p) (h5 : decide ns.Nodup = true) (h6 : pinsTold st pins ns ps) (h7 : sh = false → t.shut = true ∧ (ps.all fun q => q.2.shut) = true) : Ends T rs pins sh post .ret st :=
  ⟨side, ss, p, ns, t, ps, h1, h2, h3, h4, h5, h6, h7, h8⟩
theorem R.told (h1 : resSV T st rs = some (side, ss)) (h2 : side) (h3 : exRes st.blk ss t = some (p, ns)) (h4 : p) (h5 : decide ns.Nodup = true) (h6 : pinsTold st pins ns ps) (h7 : t.shut = true) (h9 : (ps.all fun q => q.2.shut) = true) : Ends T rs pins false (fun ps' o => ps' = ps ∧ o = .ret t) .ret st :=
  R.any ⟨rfl, rfl⟩ h1 h2 h3 h4 h5 h6 fun _ => ⟨h7, h9⟩
theorem R.share (h1 : resSV T st rs = some (side, ss)) (h2 : side) (h3 : exRes st.blk ss t = some (p, ns)) (h4 : p) (h5 : decide ns.Nodup = true) (h6 : pinsTold st pins ns ps) : Ends T rs pins true (fun ps' o => ps' = ps ∧ o = .ret t) .ret st :=
  R.any ⟨rfl, rfl⟩ h1 h2 h3 h4 h5 h6 fun e => by cases e
end

/-! ## Steps that only say otherwise what holds -/

section
variable {ks : List Kont} {c : Code} {st' : St} {p : Prop}
theorem W.virt (t d k : Nat) (h : Swk C Q ks c (st.virt t d k)) : Swk C Q ks c st := W.weak (Weak.virt C st t d k) h
theorem W.virtAt (b i j d k : Nat) (h : Swk C Q ks c (st.virtAt b i j d k)) : Swk C Q ks c st := W.weak (Weak.virtAt C st b i j d k) h
theorem W.frz (b : Nat) (h : Swk C Q ks c (st.frz b)) : Swk C Q ks c st := W.weak (Weak.frz C st b) h
theorem W.ren (hw : ∀ b, C.M.wr b) (d d' : Nat) (h : Swk C Q ks c (st.ren d d')) : Swk C Q ks c st := W.weak (Weak.ren C hw st d d') h
theorem W.fold (hw : ∀ b, C.M.wr b) (b i j : Nat) (he : st.foldAt b i j = some (p, st')) (hp : p) (h : Swk C Q ks c st') : Swk C Q ks c st := W.weak (Weak.foldAt C hw he hp) h
theorem W.unfold (hw : ∀ b, C.M.wr b) (b i j n : Nat) (he : st.unfoldAt b i j n = some (p, st')) (hp : p) (h : Swk C Q ks c st') : Swk C Q ks c st := W.weak (Weak.unfoldAt C hw he hp) h
theorem K.virt (t d k : Nat) {st2 : St} (h : Weak C (st.virt t d k) st2) : Weak C st st2 := (Weak.virt C st t d k).trans h
theorem K.virtAt (b i j d k : Nat) {st2 : St} (h : Weak C (st.virtAt b i j d k) st2) : Weak C st st2 := (Weak.virtAt C st b i j d k).trans h
theorem K.frz (b : Nat) {st2 : St} (h : Weak C (st.frz b) st2) : Weak C st st2 := (Weak.frz C st b).trans h
theorem K.ren (hw : ∀ b, C.M.wr b) (d d' : Nat) {st2 : St} (h : Weak C (st.ren d d') st2) : Weak C st st2 := (Weak.ren C hw st d d').trans h
theorem K.fold (hw : ∀ b, C.M.wr b) (b i j : Nat) (he : st.foldAt b i j = some (p, st')) (hp : p) {st2 : St} (h : Weak C st' st2) : Weak C st st2 := (Weak.foldAt C hw he hp).trans h
theorem K.unfold (hw : ∀ b, C.M.wr b) (b i j n : Nat) (he : st.unfoldAt b i j n = some (p, st')) (hp : p) {st2 : St} (h : Weak C st' st2) : Weak C st st2 := (Weak.unfoldAt C hw he hp).trans h
theorem S.weak (hw : Weak C st st') (h : Sl C ops l st' K) : Sl C ops l st K := Sl.weak hw h
end
theorem pinM_wr (ρ : Nat → Option Loc) (φ : Nat → Nat → Prop) (pins : Pins) (b : Nat) : (pinM ρ φ pins).wr b := trivial

/-! ## What the walk looks up -/

theorem get_set_same (st : St) (t : Nat) (s : SV) : (st.set t s).get t = s := by rw [St.get_set, if_pos rfl]
theorem get_set_ne (st : St) (t u : Nat) (s : SV) (h : (u == t) = false) : (st.set t s).get u = st.get u := by rw [St.get_set, if_neg (by simpa using h)]
theorem get_setBlk (st : St) (b t : Nat) (r : Bk) : (st.setBlk b r).get t = st.get t := rfl
theorem blk_set (st : St) (t b : Nat) (s : SV) : (st.set t s).blk b = st.blk b := rfl
theorem n_set (st : St) (t : Nat) (s : SV) : (st.set t s).n = st.n := rfl
theorem n_setBlk (st : St) (b : Nat) (r : Bk) : (st.setBlk b r).n = st.n := rfl
theorem n_kill (st : St) (d : Nat) : (st.kill d).n = st.n := rfl
theorem blk_same (st : St) (b : Nat) (r : Bk) : (st.setBlk b r).blk b = some r := by rw [St.blk_setBlk, if_pos rfl]
theorem blk_ne (st : St) (b x : Nat) (r : Bk) (h : (x == b) = false) : (st.setBlk b r).blk x = st.blk x := by rw [St.blk_setBlk, if_neg (by simpa using h)]
theorem blk_kill_same (st : St) (d : Nat) : (st.kill d).blk d = none := by rw [St.blk_kill, if_pos rfl]
theorem blk_kill_other (st : St) (d x : Nat) (h : (x == d) = false) : (st.kill d).blk x = (st.blk x).map (Bk.kill d) := by rw [St.blk_kill, if_neg (by simpa using h)]
def nth : List SV → Nat → SV
  | [], _ => .dead
  | s :: _, 0 => s
  | _ :: ss, n + 1 => nth ss n
theorem get_start (n t : Nat) (args : List SV) (pins : Pins) : (St.start n args pins).get t = nth args t := by
  unfold St.get St.start
  simp only [numb_lookup]
  simp only [Nat.zero_le, if_true, Nat.sub_zero]
  induction args generalizing t with
  | nil => simp [nth]
  | cons s ss ih => cases t with
    | zero => simp [nth]
    | succ t => simpa [nth] using ih t
theorem n_start (n : Nat) (args : List SV) (pins : Pins) : (St.start n args pins).n = n := rfl
theorem blk_start (n b : Nat) (args : List SV) (pins : Pins) : (St.start n args pins).blk b = pk pins b := rfl
theorem pk_nil (b : Nat) : pk [] b = none := rfl
theorem pk_same (b : Nat) (k : Bk) (l : Pins) : pk ((b, k) :: l) b = some k := by unfold pk; rw [lookup_cons_if, if_pos rfl]
theorem pk_ne (b x : Nat) (k : Bk) (l : Pins) (h : (x == b) = false) : pk ((b, k) :: l) x = pk l x := by unfold pk; rw [lookup_cons_if, if_neg (by simpa using h)]
theorem get_lit_same (n t : Nat) (s : SV) (sl : List (Nat × SV)) (bl : List (Nat × Bk)) : (St.mk n ((t, s) :: sl) bl).get t = s := by
  unfold St.get; rw [lookup_cons_if, if_pos rfl]; rfl
theorem get_lit_ne (n t u : Nat) (s : SV) (sl : List (Nat × SV)) (bl : List (Nat × Bk)) (h : (u == t) = false) : (St.mk n ((t, s) :: sl) bl).get u = (St.mk n sl bl).get u := by
  unfold St.get; rw [lookup_cons_if, if_neg (by simpa using h)]
theorem blk_lit_same (n b : Nat) (r : Bk) (sl : List (Nat × SV)) (bl : List (Nat × Bk)) : (St.mk n sl ((b, r) :: bl)).blk b = some r := by
  unfold St.blk; rw [lookup_cons_if, if_pos rfl]
theorem blk_lit_ne (n b u : Nat) (r : Bk) (sl : List (Nat × SV)) (bl : List (Nat × Bk)) (h : (u == b) = false) : (St.mk n sl ((b, r) :: bl)).blk u = (St.mk n sl bl).blk u := by
  unfold St.blk; rw [lookup_cons_if, if_neg (by simpa using h)]
theorem blk_lit_nil (n u : Nat) (sl : List (Nat × SV)) : (St.mk n sl []).blk u = none := rfl
theorem n_lit (n : Nat) (sl : List (Nat × SV)) (bl : List (Nat × Bk)) : (St.mk n sl bl).n = n := rfl
theorem toPin_nil (b : Nat) : toPin [] b = none := rfl
theorem toPin_same (p b : Nat) (l : Bs) : toPin ((p, b) :: l) b = some p := by unfold toPin; rw [List.map_cons, lookup_cons_if, if_pos rfl]
theorem toPin_ne (p b x : Nat) (l : Bs) (h : (x == b) = false) : toPin ((p, b) :: l) x = toPin l x := by unfold toPin; rw [List.map_cons, lookup_cons_if, if_neg (by simpa using h)]
theorem unPin_nil (b : Nat) : unPin [] b = none := rfl
theorem unPin_same (p b : Nat) (l : Bs) : unPin ((p, b) :: l) p = some b := by unfold unPin; rw [lookup_cons_if, if_pos rfl]
theorem unPin_ne (p b x : Nat) (l : Bs) (h : (x == p) = false) : unPin ((p, b) :: l) x = unPin l x := by unfold unPin; rw [lookup_cons_if, if_neg (by simpa using h)]
theorem lentB_nil (st : St) : lentB st [] false = st.blk := rfl
theorem lentB_sh (st : St) (bs : Bs) (b : Nat) : lentB st bs true b = none := rfl

attribute [go_sem] pev St.ev conSV nth get_set_same get_set_ne get_setBlk blk_set n_set n_setBlk n_kill blk_same blk_ne blk_kill_same blk_kill_other get_start n_start blk_start pk_nil pk_same pk_ne St.get_kill
  get_lit_same get_lit_ne blk_lit_same blk_lit_ne blk_lit_nil n_lit toPin_nil toPin_same toPin_ne unPin_nil unPin_same unPin_ne lentB_nil lentB_sh
  SV.kill SV.kill2 SV.kill1 SV.kill0 Bk.kill pLen pLoad cut TK.agg St.at pField pFieldAddr pIndexAddr pIndex pExtract SV.shift plBin pBin pBinE pEql plUn plMin pConvert pPick pNil pIface pFunc gVal gWant SV.assume cnIf SV.cells SV.one SV.vis SV.vis0
  xop xAlloc xBox xStore xMake xAppend xBuildSlice dOk St.put oldRows srcRows putAt fillSV pSlice bnd pBuild structPlace allKnown
  slOk blOk Leave resSV exRes ex1 exC exL exLs foldRef foldRef0 pinsTold SV.clo SV.clo0 SV.cloP SV.isPl
  pinsOf bindR impR impR1 impRs impCs impC openC openC0 St.addBks impOk impOk1 backs usedUp leftOver backName Bk.rn SV.rn1 SV.rn0 argSV arg1 argL lend1 lend0 frzRef SV.frz frzL frzRows frzE Bk.sb SV.sb SV.sb2 SV.sb1 SV.sb0 renRef St.virt St.virtAt St.frz St.ren St.foldAt St.unfoldAt
  SV.shut shutL shutRows shutE Bk.shut SV.shutC SV.ref0 SV.dup SV.dup0
  Int.toNat_natCast List.map_cons List.map_nil true_and and_true Nat.zero_add Nat.add_zero List.all_cons List.all_nil Bool.and_true Bool.true_and Value.oneCell' Nat.sub_zero Int.ofNat_zero List.getD_cons_zero List.getD_cons_succ List.length_cons List.length_nil if_true if_false ite_true ite_false Bool.false_eq_true Option.map_some Option.map_none List.foldl_nil List.foldl_cons eq_self List.set_cons_zero List.set_cons_succ Option.some.injEq
  List.append_nil List.cons_append List.nil_append List.nodup_cons List.nodup_nil Nat.le_refl List.not_mem_nil not_false_eq_true List.drop_zero List.length_replicate List.length_map List.take_length List.take_zero List.drop_succ_cons List.take_succ_cons Option.isSome_some Option.isSome_none Option.isNone_some Option.isNone_none Option.bind_some Option.bind_none Bool.or_true Bool.or_false Bool.true_or Bool.false_or
  List.contains_nil Bool.not_false Bool.not_true

attribute [irreducible] Swk Swn Swe

end Go.Vcg
