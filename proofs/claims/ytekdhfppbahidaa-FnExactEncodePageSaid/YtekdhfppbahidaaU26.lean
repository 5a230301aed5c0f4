/- copy. -/
import Derived.Test.YtekdhfppbahidaaU25
namespace Go.Vcg

variable {w0 : World} {M : Perm} {S0 : Nat → Prop} {ρ : Nat → Option Loc} {φ : Nat → Nat → Prop} {S : Nat → Prop} {st : St} {a : Act} {w : World} {P : Program} {T : Nat → Option TI} {C : Cx} {K : St → Prop} {o : Oper}

/-- Rows laid over rows. -/
def overRows (rows : Rows) (i : Nat) (ys : Rows) : Rows := rows.take i ++ ys ++ rows.drop (i + ys.length)
theorem overRows_length (rows : Rows) (i : Nat) (ys : Rows) (h : i + ys.length ≤ rows.length) : (overRows rows i ys).length = rows.length := by
  unfold overRows; rw [List.length_append, List.length_append, List.length_take, List.length_drop]; omega
theorem overRows_get (rows : Rows) (i : Nat) (ys : Rows) (j : Nat) (h : i + ys.length ≤ rows.length) : (overRows rows i ys)[j]? = if i ≤ j ∧ j < i + ys.length then ys[j - i]? else rows[j]? := by
  unfold overRows
  rw [List.getElem?_append, List.length_append, List.length_take]
  by_cases h1 : j < i
  · rw [if_pos (by omega), List.getElem?_append, List.length_take, if_pos (by omega), List.getElem?_take, if_pos h1, if_neg (by omega)]
  · by_cases h2 : j < i + ys.length
    · rw [if_pos (by omega), List.getElem?_append, List.length_take, if_neg (by omega), if_pos ⟨by omega, h2⟩]
      congr 1
      omega
    · rw [if_neg (by omega), List.getElem?_drop, if_neg (by omega)]
      congr 1
      omega

def xCopy (T : Nat → Option TI) (wr : Nat → Prop) (st : St) (t tx : Nat) (s x : SV) (d : Nat) : Option (Prop × St) := match T t, s with
  | some ti, .sl b i n => match ti.k with
    | .slice e => match T e, st.blk b with
      | some ei, some (.c k rows) => match srcRows T st ei.size tx x with
        | some (side, ys) => some (d < st.n ∧ wr b ∧ k = ei.size ∧ i + n ≤ rows.length ∧ side, (st.setBlk b (.c k (overRows rows i (ys.take (min ys.length n))))).set d (.pl (.int .i64 (min ys.length n : Nat))))
        | none => none
      | _, _ => none
    | _ => none
  | _, _ => none

theorem run_copy {t tx ty e k n cap m : Nat} {v : Value} {vs : List Value} {base : Option Addr} {i : TypeInfo} (ht : P.underlying t = some (.slice e)) (hi : P.info? e = some i) (hk : i.size = k)
    (hlen : (Builtin.lenOf v).run P w = .ok m w) (hfirst : (Builtin.firstCells k (min m n) v).run P w = .ok vs.toArray w) :
    (Builtin.copy_ #[t, tx] ty #[.slice base n cap, v]).run P w = match base with
      | some x => ((storeCells x vs).run P w).andThen fun _ w' => .ok (.int .i64 (min m n : Nat)) w'
      | none => .ok (.int .i64 (min m n : Nat)) w := by
  have hfirst' : (Builtin.firstCells k (Nat.min m n) v).run P w = .ok vs.toArray w := hfirst
  cases base with
  | none => simp [Builtin.copy_, run_underlying ht, sizeOf, typeInfo, hi, hk, hlen, hfirst', goInt]
  | some x => simp [Builtin.copy_, run_underlying ht, sizeOf, typeInfo, hi, hk, hlen, hfirst', goInt]

theorem Sim.sameBlk (h : Sim w0 M S0 ρ φ S st a w) {b : Nat} {k : Bk} (hb : st.blk b = some k) : Sim w0 M S0 ρ φ S (st.setBlk b k) a w :=
  h.congr rfl (fun _ => rfl) fun x => by
    rw [St.blk_setBlk]
    by_cases e : x = b
    · rw [if_pos e, e, hb]
    · rw [if_neg e]

theorem xCopy_run (hT : TOk P T) (h : Sim w0 M S0 ρ φ S st a w) {t tx ty d : Nat} {vs0 vx : Value} {s x : SV} {side : Prop} {st' : St} (hrs : Rep ρ S w vs0 s) (hrx : Rep ρ S w vx x) (he : xCopy T M.wr st t tx s x d = some (side, st')) (hs : side) :
    ∃ u w', (Builtin.copy_ #[t, tx] ty #[vs0, vx]).run P w = .ok u w' ∧ Holds w0 M S0 st' (a.put (some d) u) w' := by
  unfold xCopy at he
  split at he <;> try (cases he; done)
  rename_i ti b i0 n ht
  split at he <;> try (cases he; done)
  rename_i e hk
  split at he <;> try (cases he; done)
  rename_i ei k rows hei hb
  split at he <;> try (cases he; done)
  rename_i side' ys hsrc
  obtain ⟨rfl, rfl⟩ := Prod.mk.inj (Option.some.inj he)
  obtain ⟨g1, gwr, rfl, s2, g3⟩ := hs
  obtain ⟨dd, u1, u2⟩ := (hT t ti ht).und
  rw [hk] at u2
  obtain rfl := tk_slice u2
  obtain ⟨i, z, z1, z2, z3, z4, z5⟩ := (hT e ei hei).parts
  obtain ⟨vs, hsr⟩ := src_ok (P := P) (F := fun _ => False) hT h hrx hsrc g3
  have hne : st.blk b ≠ none := by rw [hb]; simp
  cases hrs with
  | per hr => cases hr
  | sl0 xa _ _ =>
    have hm0 : min ys.length 0 = 0 := by omega
    have hfirst := hsr.first 0 w (by omega) rfl
    rw [Nat.zero_mul, List.take_zero] at hfirst
    have hrun := run_copy (P := P) (w := w) (tx := tx) (ty := ty) (n := 0) (cap := 0) (base := xa) u1 z1 z4 (hsr.lenOf w) (by rw [hm0]; exact hfirst)
    rw [hm0, List.take_zero]
    have e0 : overRows rows i0 [] = rows := by unfold overRows; simp
    rw [e0]
    refine ⟨.int .i64 (0 : Nat), w, ?_, ρ, φ, S, (h.sameBlk hb).setSlot g1 (.per (.pl _))⟩
    rw [hrun, hm0]
    cases xa <;> simp [storeCells]
  | sl _ _ _ cap l hl hc hi hz =>
    obtain ⟨hesz, hok⟩ := h.cellsAt hb hl
    have hself := h.heap.self b l hne hl
    have hnS := h.heap.notS b _ hne (.inl ⟨l, hl, rfl⟩)
    let c := min ys.length n
    have hcy : c ≤ ys.length := Nat.min_le_left _ _
    have hcn : c ≤ n := Nat.min_le_right _ _
    have hfl := hsr.flat.take c hcy
    have hlt : (ys.take c).length = c := by rw [List.length_take]; omega
    have hfirst := hsr.first c w hcy rfl
    have hrun := run_copy (P := P) (w := w) (tx := tx) (ty := ty) (n := n) (cap := cap) (base := some (l.addr i0 0)) u1 z1 z4 (hsr.lenOf w) hfirst
    have hvl : (vs.take (c * ei.size)).length = c * l.esz := by rw [hfl.len, hlt, hesz]
    have hcells : ∀ q, q < c * l.esz → ∃ u, w.cell? ⟨l.blk, l.base + i0 * l.esz + q, none⟩ = some u := fun q hq => by
      have h1 : c * l.esz ≤ cap * l.esz := Nat.mul_le_mul_right _ (by omega)
      have hq2 : l.base + i0 * l.esz + q < rowSize w l.blk := by rw [Nat.add_mul] at hz; omega
      unfold rowSize at hq2
      unfold World.cell?
      cases hh : w.heap[l.blk]? with
      | none => rw [hh] at hq2; simp at hq2
      | some ob =>
        rw [hh] at hq2
        cases ob <;> first | (simp at hq2; done) | (simp at hq2; exact ⟨_, by simp [hq2]; rfl⟩)
    obtain ⟨w', r1, r2, r3, r4, r5, r6, r7, r8⟩ := run_storeCells_gen (P := P) l.blk (l.base + i0 * l.esz) (vs.take (c * ei.size)) w 0 (fun j hj => by
      obtain ⟨u, hu⟩ := hcells j (by omega)
      exact ⟨u, by rw [Nat.zero_add]; exact hu⟩) hok.free hfl.one
    have hz' : ∀ x, rowSize w x ≤ rowSize w' x := fun x => Nat.le_of_eq (r4 x).symm
    have hov : i0 + (ys.take c).length ≤ rows.length := by rw [hlt]; omega
    have hnew : BkOk ρ S w' (φ b) b (.c ei.size (overRows rows i0 (ys.take c))) := by
      obtain ⟨G, p1, p2, p3⟩ := hok.cell
      obtain ⟨G2, q1, _, q3⟩ := hfl.cell
      refine .inr ⟨l, hl, hesz, fun o => by rw [r5]; exact hok.free o, fun i' r hr => ?_, by rw [overRows_length _ _ _ hov]; exact hok.long, G, p1, p2, fun i' r j c' hr hj => ?_⟩
      · rw [overRows_get _ _ _ _ hov] at hr
        split at hr
        · rw [hesz]; exact hfl.row _ r hr
        · exact hok.len _ r hr
      · rw [overRows_get _ _ _ _ hov, hlt] at hr
        split at hr
        · rename_i hi'
          obtain ⟨u, e1, e2⟩ := q3 _ r j c' hr hj
          refine ⟨u, ?_, hfl.one u (List.mem_of_getElem? e1), e2.mono (fun _ h => h) (by omega) (fun x hx _ => r3 x fun e => by
            rcases hx with hx | hx
            · exact hnS (e ▸ hx)
            · exact (q1 _ _ x hx).elim) h.sb (fun _ _ => rfl) hz' fun x hx => (q1 _ _ x hx).elim⟩
          rw [← r6 _ u e1]
          unfold Loc.addr
          congr 2
          rw [← hesz, Nat.zero_add]
          have : i' = i0 + (i' - i0) := by omega
          rw [this, Nat.add_mul]
          simp
          omega
        · rename_i hi'
          obtain ⟨u, e1, e2, e3⟩ := p3 _ r j c' hr hj
          have hjl : j < l.esz := by rw [← hok.len _ r hr]; exact (List.getElem?_eq_some_iff.mp hj).1
          refine ⟨u, ?_, e2, e3.mono (fun _ h => h) (by omega) (fun x hx _ => r3 x fun e => by
            rcases hx with hx | hx
            · exact hnS (e ▸ hx)
            · exact hself (e ▸ p1 _ _ x hx)) h.sb (fun _ _ => rfl) hz' fun _ h => h⟩
          rw [← e1]
          refine r7 (l.addr i' j) fun q hq => ?_
          rw [hvl] at hq
          unfold Loc.addr
          simp only [ne_eq, Addr.mk.injEq, true_and, and_true, Nat.zero_add]
          intro he
          have h1 : i' * l.esz + j = i0 * l.esz + q := by omega
          rcases Nat.lt_or_ge i' i0 with g | g
          · have h2 : (i' + 1) * l.esz ≤ i0 * l.esz := Nat.mul_le_mul_right _ g
            rw [Nat.succ_mul] at h2
            omega
          · have h2 : (i0 + c) * l.esz ≤ i' * l.esz := Nat.mul_le_mul_right _ (by omega)
            rw [Nat.add_mul] at h2
            omega
    have h1 := h.turn (w' := w') gwr hb hl r2 r3 (hz' _) hnew r8
    refine ⟨.int .i64 (c : Nat), w', ?_, _, _, S, h1.setSlot g1 (.per (.pl _))⟩
    rw [hrun]
    show ((storeCells (l.addr i0 0) (vs.take (c * ei.size))).run P w).andThen _ = _
    rw [show l.addr i0 0 = ⟨l.blk, l.base + i0 * l.esz, none⟩ from rfl, r1]
    rfl

/-- More operations that write. -/
def yop (T : Nat → Option TI) (wr : Nat → Prop) (st : St) (dst : Option Nat) : Op → Option (Prop × St)
  | .call c => match dst, c.callee, c.args.toList, c.argTypes.toList with
    | some d, .builtin .copy, [s, x], [t, tx] => xCopy T wr st t tx (st.ev s) (st.ev x) d
    | _, _, _, _ => none
  | _ => none

theorem yop_ok (hT : TOk C.P T) {side : Prop} {st' : St} (he : yop T C.M.wr st o.dst o.op = some (side, st')) (hs : side) (hK : K st') : Sop C o st K := by
  unfold Sop
  intro Q a w _ ⟨ρ, φ, S, h⟩
  unfold yop at he
  split at he <;> try (cases he; done)
  rename_i c hop
  split at he <;> try (cases he; done)
  rename_i d s x t tx hd hc ha ht
  obtain ⟨u, w', h1, h3⟩ := xCopy_run (P := C.P) (ty := o.type) hT h (h.ev s) (h.ev x) he hs
  refine wp_value (v := u) (w' := w') ?_ ⟨st', hK, by rw [hd]; exact h3⟩
  have e1 : c.args = #[s, x] := Array.ext' (by simpa using ha)
  have e2 : c.argTypes = #[t, tx] := Array.ext' (by simpa using ht)
  unfold execOp
  simp [hop, resolve, hc, invoke, builtin, e1, e2, h1]

section
variable {ops : Array Oper} {l : List Oper} {ty : Nat} {pos : String} {af : Array Edge} {side : Prop} {st' : St} {op : Op}
theorem X.k {g : Option (Nat × Bool)} {c : Call} {f : Nat} {d : Option Nat} (sh : Bool) (pa : List (Nat × Nat × Option Nat)) {bs : Bs} {pins ps : Pins} {args : List SV} {r : SV} (hk : CallOk C.P f) (hc : c.callee = .value (.func f)) (_hb0 : pa.map (pinAt (c.args.toList.map st.ev)) = bs)
    (hbs : bsOk bs = true) (hw : ∀ q ∈ bs, C.M.wr q.2) (hp : pinsOf st.blk (toPin bs) bs = some pins) (ha : (c.args.toList.map st.ev).map (argSV (lentB st bs sh) (toPin bs)) = args) (hsp : TSpec C.P f pins args sh ps r) (hd : dOk st.n d) (hi : impOk r) (hb : bindR (backs st bs ps) d r = st') (h : K st') :
    Sop C { dst := d, op := .call c, type := ty, pos := pos, after := af, guard := g } st K := X.c bs hsp hk hc hbs hw hp ha hd hi hb h
theorem O.y (hT : TOk C.P T) {dst : Option Nat} (he : yop T C.M.wr st dst op = some (side, st')) (hs : side) (h : side → Sl C ops l st' K) : Sl C ops ({ dst := dst, op := op, type := ty, pos := pos, after := af, guard := none } :: l) st K := Sl.cons (So.op rfl (yop_ok hT he hs (h hs)))
end
section
variable {W : Nat → Bool} {ws : List Nat} {pan : List PanicEntry → Prop} {fuel i : Nat} {listed : Array Bool} {side : Prop} {st' : St} {l : List Oper}
theorem RA.y1 (hT : TOk P T) {o : Oper} (ho : nthO l i = some o) (hr : Region.ready .any l.toArray listed = [i]) (hg : o.guard = none) (he : yop T (fun b => ws.contains i = true ∧ W b = true) st o.dst o.op = some (side, st')) (hs : side) (h : side → RA P W ws pan l.toArray fuel (listed.setIfInBounds i true) st' K) : RA P W ws pan l.toArray (fuel + 1) listed st K :=
  RA.one ho hr fun w0 may pin ro S0 => So.op hg (yop_ok (C := RCx P W (ws.contains i) w0 may pin ro S0 pan) hT he hs (h hs))
theorem RX.y {is : List Nat} (hT : TOk P T) {o : Oper} (ho : nthO l i = some o) (hg : o.guard = none) (he : yop T (fun b => ws.contains i = true ∧ W b = true) st o.dst o.op = some (side, st')) (hs : side) (h : side → RA P W ws pan l.toArray fuel (listed.setIfInBounds i true) st' K) (hr : RAll P W ws pan l.toArray fuel listed st K is) : RAll P W ws pan l.toArray fuel listed st K (i :: is) := by
  exact RX.of ho (fun w0 may pin ro S0 => So.op hg (yop_ok (C := RCx P W (ws.contains i) w0 may pin ro S0 pan) hT he hs (h hs))) hr
end

attribute [go_sem] yop xCopy

end Go.Vcg
