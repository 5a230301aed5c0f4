/- append, literals of slices, copy. -/
import Derived.Test.YtekdhfppbahidaaU10
namespace Go.Vcg

variable {w0 : World} {M : Perm} {S0 : Nat → Prop} {ρ : Nat → Option Loc} {φ : Nat → Nat → Prop} {S : Nat → Prop} {st : St} {a : Act} {w : World} {P : Program} {T : Nat → Option TI}

theorem run_storeCells_gen (g o : Nat) (vs : List Value) : ∀ (w : World) (k : Nat), (∀ j, j < vs.length → ∃ u, w.cell? ⟨g, o + (k + j), none⟩ = some u) → (∀ j, w.frozen? ⟨g, j, none⟩ = false) → (∀ v ∈ vs, v.oneCell' = true) →
    ∃ w', (storeCells ⟨g, o, none⟩ vs k).run P w = .ok () w' ∧ w'.heap.size = w.heap.size ∧ (∀ i, i ≠ g → w'.heap[i]? = w.heap[i]?) ∧ (∀ i, rowSize w' i = rowSize w i) ∧ (∀ y, w'.frozen? y = w.frozen? y) ∧
      (∀ j v, vs[j]? = some v → w'.cell? ⟨g, o + (k + j), none⟩ = some v) ∧ (∀ y, (∀ j, j < vs.length → y ≠ ⟨g, o + (k + j), none⟩) → w'.cell? y = w.cell? y) ∧ IOk w w' := by
  induction vs with
  | nil => intro w k _ _ _; exact ⟨w, rfl, rfl, fun _ _ => rfl, fun _ => rfl, fun _ => rfl, fun j v h => by simp at h, fun _ _ => rfl, .refl w⟩
  | cons v vs ih =>
    intro w k hc hf h1
    obtain ⟨u, hu⟩ := hc 0 (by simp)
    simp only [Nat.add_zero] at hu
    have hs := run_storeCell (P := P) v ⟨g, o + k, none⟩ (h1 v (by simp)) hu (hf _)
    obtain ⟨w', g1, g2, g3, g4, g5, g6, g7, g8⟩ := ih (w.setCell ⟨g, o + k, none⟩ v) (k + 1) (fun j hj => by
        obtain ⟨u', hu'⟩ := hc (j + 1) (by simp; omega)
        refine ⟨u', ?_⟩
        rw [World.cell?_setCell_other _ _ _ _ (by simp only [ne_eq, Addr.mk.injEq]; omega), show o + (k + 1 + j) = o + (k + (j + 1)) from by omega]
        exact hu') (fun j => by rw [frozen_setCell]; exact hf j) (fun x hx => h1 x (by simp [hx]))
    refine ⟨w', ?_, by simpa using g2, fun i hi => (g3 i hi).trans (heap_setCell_other w _ v i hi), fun i => (g4 i).trans (rowSize_setCell w _ v i), fun y => (g5 y).trans (frozen_setCell w _ v y), fun j x hx => ?_, fun y hy => ?_, IOk.trans (w' := w.setCell ⟨g, o + k, none⟩ v) ⟨rfl, rfl, rfl⟩ g8⟩
    · simp only [storeCells, Sem.run_bind, Addr.add_lit, hs, Result.andThen_ok]
      exact g1
    · cases j with
      | zero =>
        simp only [List.getElem?_cons_zero, Option.some.injEq] at hx
        subst hx
        rw [g7 _ (fun j _ => by simp only [ne_eq, Addr.mk.injEq]; omega)]
        simp only [Nat.add_zero]
        exact World.cell?_setCell_same w _ _ hu
      | succ j =>
        rw [show o + (k + (j + 1)) = o + (k + 1 + j) from by omega]
        exact g6 j x (by simpa using hx)
    · rw [g7 y (fun j hj => by have := hy (j + 1) (by simp; omega); rw [show o + (k + 1 + j) = o + (k + (j + 1)) from by omega]; exact this)]
      have := hy 0 (by simp)
      simp only [Nat.add_zero] at this
      exact World.cell?_setCell_other _ _ _ _ (fun e => this e.symm)

theorem run_append_in {t tx ty e k n cap m : Nat} {v : Value} {vs : List Value} {base : Option Addr} {i : TypeInfo} (ht : P.underlying t = some (.slice e)) (hx : ∃ d, P.underlying tx = some d ∧ ∀ k, d ≠ .int k) (hi : P.info? e = some i) (hk : i.size = k)
    (hlen : (Builtin.lenOf v).run P w = .ok m w) (hfirst : (Builtin.firstCells k m v).run P w = .ok vs.toArray w) (hc : n + m ≤ cap) :
    (Builtin.append_ #[t, tx] ty #[.slice base n cap, v]).run P w = match base with
      | some x => ((storeCells (x.add (n * k)) vs).run P w).andThen fun _ w' => .ok (.slice base (n + m) cap) w'
      | none => .ok (.slice none (n + m) cap) w := by
  obtain ⟨d, hd, hn⟩ := hx
  cases base with
  | none => simp [Builtin.append_, run_underlying ht, run_underlying hd, sizeOf, typeInfo, hi, hk, hlen, hfirst, hc]
  | some x => simp [Builtin.append_, run_underlying ht, run_underlying hd, sizeOf, typeInfo, hi, hk, hlen, hfirst, hc]

theorem run_append_out {t tx ty e k n cap m : Nat} {v z : Value} {vs olds : List Value} {base : Option Addr} {i : TypeInfo} (ht : P.underlying t = some (.slice e)) (hx : ∃ d, P.underlying tx = some d ∧ ∀ k, d ≠ .int k) (hi : P.info? e = some i) (hk : i.size = k) (hz : i.zero = some z)
    (hlen : (Builtin.lenOf v).run P w = .ok m w) (hfirst : (Builtin.firstCells k m v).run P w.drew = .ok vs.toArray w.drew) (hold : (Builtin.firstCells k n (.slice base n cap)).run P w.drew = .ok olds.toArray w.drew)
    (hc : cap < n + m) (h63 : n + m ≤ 140737488355328) (hfit : (n + m) * i.bytes ≤ 140737488355328) :
    (Builtin.append_ #[t, tx] ty #[.slice base n cap, v]).run P w =
      .ok (.slice (some ⟨w.heap.size, 0, none⟩) (n + m) (grownCap w (n + m) cap e)) (w.drew.alloc (.cells (olds.toArray ++ vs.toArray ++ Builtin.zeroCells z.cells (grownCap w (n + m) cap e - (n + m))) e)) := by
  obtain ⟨d, hd, hn⟩ := hx
  have h1 : ¬ (n + m ≤ cap) := by omega
  have h2 : ¬ (9223372036854775807 < ((n : Int) + (m : Int))) := by omega
  have h3 : ¬ (281474976710656 < Builtin.nextslicecap (n + m) cap * i.bytes) := by have := growslice_fits hc hfit; omega
  simp [Builtin.append_, run_underlying ht, run_underlying hd, sizeOf, typeInfo, zeroValue, hi, hk, hz, hlen, hfirst, hold, h1, h2, h3, Question.forced, newRow, grownCap]
  congr 2
  apply Array.ext'
  simp [List.append_assoc]

def oldRows (wr : Nat → Prop) (st : St) (k : Nat) (s : SV) : Option (Prop × Rows × St) := match s with
  | .nl => some (True, [], st)
  | .sl b i n => match st.blk b with
    | some (.c k' rows) => some (wr b ∧ k' = k ∧ i + n ≤ rows.length, (rows.drop i).take n, st.kill b)
    | _ => none
  | _ => none

def xAppend (T : Nat → Option TI) (wr : Nat → Prop) (st : St) (t tx : Nat) (s x : SV) (d : Nat) : Option (Prop × St) := match T t with
  | some ti => match ti.k with
    | .slice e => match T e with
      | some ei => match oldRows wr st ei.size s, srcRows T st ei.size tx x with
        | some (side0, old, st1), some (side, ys) => some (d < st.n ∧ side0 ∧ side ∧ old.length + ys.length ≤ 140737488355328 ∧ (old.length + ys.length) * ei.bytes ≤ 140737488355328 ∧ 0 < ei.bytes ∧ 0 < ei.size ∧ ei.zero.length = ei.size,
            ((st1.kill d).setBlk d (.c ei.size (killRows d (old ++ ys)))).set d (.sl d 0 (old.length + ys.length)))
        | _, _ => none
      | none => none
    | _ => none
  | none => none

/-- From a slice without room: a new block, or nothing at all. -/
theorem append_fresh {st1 : St} (h1 : Sim w0 M S0 ρ φ S st1 a w) (hn1 : st1.n = st.n) {t tx ty e k d : Nat} {x : Option Addr} {v : Value} {ys : Rows} {vs : List Value} {ei : TI} {i : TypeInfo} {z : Value}
    (ht : P.underlying t = some (.slice e)) (hi : P.info? e = some i) (hz : i.zero = some z) (hzl : z.cells.toList = ei.zero) (hk : i.size = k) (hb : i.bytes = ei.bytes) (hzs : ei.zero.length = k)
    (hsrc : Src P ρ S w k tx v ys vs (fun _ => False)) (hd : d < st.n) (h63 : ys.length ≤ 140737488355328) (hfit : ys.length * ei.bytes ≤ 140737488355328) :
    ∃ u w', (Builtin.append_ #[t, tx] ty #[.slice x 0 0, v]).run P w = .ok u w' ∧ Holds w0 M S0 (((st1.kill d).setBlk d (.c k (killRows d ys))).set d (.sl d 0 ys.length)) (a.put (some d) u) w' := by
  by_cases hm : ys.length = 0
  · have hy : ys = [] := List.length_eq_zero_iff.mp hm
    subst hy
    have hvs : vs = [] := by have := hsrc.flat.len; simp at this; exact this
    subst hvs
    have hrun := run_append_in (P := P) (w := w) (ty := ty) (n := 0) (cap := 0) (base := x) ht hsrc.und hi hk (hsrc.lenOf w) (hsrc.first _ w (Nat.le_refl _) rfl) (by simp)
    obtain ⟨ρ', φ', h2, _⟩ := h1.virtBlk d k (not_pin_of_lt (hn1 ▸ hd) h1.small)
    refine ⟨.slice x 0 0, w, ?_, ρ', φ', S, h2.setSlot (by show d < st1.n; rw [hn1]; exact hd) (.sl0 x d 0)⟩
    rw [hrun]
    cases x <;> simp [storeCells]
  · have hold : (Builtin.firstCells k 0 (.slice x 0 0)).run P w.drew = .ok ([] : List Value).toArray w.drew := by
      cases x <;> simp [Builtin.firstCells, loadCells, loadCellsFrom]
    have hlen := hsrc.flat.len
    have hfirst := hsrc.first ys.length w.drew (Nat.le_refl _) rfl
    rw [← hlen, List.take_length] at hfirst
    have hrun := run_append_out (P := P) (w := w) (ty := ty) (n := 0) (cap := 0) (base := x) (olds := []) ht hsrc.und hi hk hz (hsrc.lenOf w) hfirst hold (by omega) (by omega) (by rw [hb]; simpa using hfit)
    refine ⟨_, _, hrun, ?_⟩
    have hge := grownCap_ge w (0 + ys.length) 0 e
    have hflat : Flat ρ S w.drew k vs ys (fun _ => False) := hsrc.flat.later (Nat.le_refl _) (fun _ _ _ => rfl) h1.sb (fun _ => Nat.le_refl _)
    have hzk : z.cells.size = k := by rw [← hzs, ← hzl, Array.length_toList]
    have hzc : (Builtin.zeroCells z.cells (grownCap w (0 + ys.length) 0 e - (0 + ys.length))).toList.length = (grownCap w (0 + ys.length) 0 e - ys.length) * k := by
      rw [Array.length_toList, size_zeroCells, hzk, Nat.zero_add]
    have := (Sim.drew h1).bufNew (d := d) (cap := grownCap w (0 + ys.length) 0 e) (rest := (Builtin.zeroCells z.cells (grownCap w (0 + ys.length) 0 e - (0 + ys.length))).toList) e (by rw [hn1]; exact hd) _ (fun x hx => hx.elim) hflat (by omega)
      (by rw [hzc, hflat.len, ← Nat.add_mul]; exact Nat.mul_le_mul_right _ (by omega)) (([] : List Value).toArray ++ vs.toArray ++ Builtin.zeroCells z.cells (grownCap w (0 + ys.length) 0 e - (0 + ys.length))) (by simp)
    simp only [Nat.zero_add] at this ⊢
    exact this

theorem xAppend_run (hT : TOk P T) (h : Sim w0 M S0 ρ φ S st a w) {t tx ty d : Nat} {vs0 vx : Value} {s x : SV} {side : Prop} {st' : St} (hrs : Rep ρ S w vs0 s) (hrx : Rep ρ S w vx x) (he : xAppend T M.wr st t tx s x d = some (side, st')) (hs : side) :
    ∃ u w', (Builtin.append_ #[t, tx] ty #[vs0, vx]).run P w = .ok u w' ∧ Holds w0 M S0 st' (a.put (some d) u) w' := by
  unfold xAppend at he
  split at he <;> try (cases he; done)
  rename_i ti ht
  split at he <;> try (cases he; done)
  rename_i e hk
  split at he <;> try (cases he; done)
  rename_i ei hei
  split at he <;> try (cases he; done)
  rename_i side0 old st1 side' ys hold hsrc
  obtain ⟨rfl, rfl⟩ := Prod.mk.inj (Option.some.inj he)
  obtain ⟨g1, g2, g3, g4, g5, g6, g7, g8⟩ := hs
  obtain ⟨dd, u1, u2⟩ := (hT t ti ht).und
  rw [hk] at u2
  obtain rfl := tk_slice u2
  obtain ⟨i, z, z1, z2, z3, z4, z5⟩ := (hT e ei hei).parts
  obtain ⟨vs, hsr⟩ := src_ok (P := P) (F := fun _ => False) hT h hrx hsrc g3
  unfold oldRows at hold
  split at hold
  · simp only [Option.some.injEq, Prod.mk.injEq] at hold
    obtain ⟨_, rfl, rfl⟩ := hold
    obtain rfl := hrs.nl_eq
    simp only [List.length_nil, Nat.zero_add, List.nil_append] at g4 g5 ⊢
    exact append_fresh (P := P) (ty := ty) (x := none) h rfl u1 z1 z2 z3 z4 z5 g8 hsr g1 g4 g5
  · rename_i b i0 n
    split at hold <;> try (cases hold; done)
    rename_i k' rows hb
    simp only [Option.some.injEq, Prod.mk.injEq] at hold
    obtain ⟨rfl, rfl, rfl⟩ := hold
    obtain ⟨gwr, s1, s2⟩ := g2
    subst s1
    have hlen : ((rows.drop i0).take n).length = n := by rw [List.length_take, List.length_drop]; omega
    rw [hlen] at g4 g5 ⊢
    have hne : st.blk b ≠ none := by rw [hb]; simp
    have hvl := hsr.flat.len
    cases hrs with
    | per hr => cases hr
    | sl0 xa _ _ =>
      simp only [List.take_zero, Nat.zero_add, List.nil_append] at g4 g5 ⊢
      exact append_fresh (P := P) (ty := ty) (x := xa) (h.kill b) rfl u1 z1 z2 z3 z4 z5 g8 hsr g1 g4 g5
    | sl _ _ _ cap l hl hc hi hz =>
      obtain ⟨hesz, hok⟩ := h.cellsAt hb hl
      obtain ⟨olds, o1, o2⟩ := hok.src (P := P) i0 n s2
      have hself := h.heap.self b l hne hl
      have hnS := h.heap.notS b _ hne (.inl ⟨l, hl, rfl⟩)
      have hlt := h.heap.lt b _ hne (.inl ⟨l, hl, rfl⟩)
      have hoth : ∀ b', (st.kill b).blk b' ≠ none → ∀ x, owns ρ φ b x → ¬ owns ρ φ b' x := fun b' hb' x h1 h2 => by
        obtain ⟨q1, q2⟩ := blk_kill_has hb'
        exact q1 (h.heap.inj b' b x q2 hne h2 h1)
      have hownM : ∀ x, owns ρ φ b x → M x ∨ w0.heap.size ≤ x := fun x hx => (h.own b x hne hx).resolve_right fun g => g.1 gwr
      have hzk : z.cells.size = ei.size := by rw [← g8, ← z3, Array.length_toList]
      have holdlen := o1.len
      rw [hlen] at holdlen
      by_cases hfit : n + ys.length ≤ cap
      · have hfirst := hsr.first ys.length w (Nat.le_refl _) rfl
        rw [← hvl, List.take_length] at hfirst
        have hrun := run_append_in (P := P) (w := w) (ty := ty) (base := some (l.addr i0 0)) u1 hsr.und z1 z4 (hsr.lenOf w) hfirst hfit
        have hcells : ∀ q, q < cap * l.esz → ∃ u, w.cell? ⟨l.blk, l.base + i0 * l.esz + q, none⟩ = some u := fun q hq => by
          have hq2 : l.base + i0 * l.esz + q < rowSize w l.blk := by rw [Nat.add_mul] at hz; omega
          unfold rowSize at hq2
          unfold World.cell?
          cases hh : w.heap[l.blk]? with
          | none => rw [hh] at hq2; simp at hq2
          | some ob =>
            rw [hh] at hq2
            cases ob <;> first | (simp at hq2; done) | (simp at hq2; exact ⟨_, by simp [hq2]; rfl⟩)
        have hvl' : vs.length = ys.length * l.esz := by rw [hesz]; exact hvl
        have hmul : n * l.esz + ys.length * l.esz ≤ cap * l.esz := by rw [← Nat.add_mul]; exact Nat.mul_le_mul_right _ hfit
        obtain ⟨w', r1, r2, r3, r4, r5, r6, r7, r8⟩ := run_storeCells_gen (P := P) l.blk (l.base + i0 * l.esz + n * l.esz) vs w 0 (fun j hj => by
          obtain ⟨u, hu⟩ := hcells (n * l.esz + j) (by omega)
          exact ⟨u, by rw [← hu]; congr 2; omega⟩) hok.free hsr.flat.one
        have h1 := (h.kill b).turnOff (w' := w') l.blk hnS (fun b' hb' => hoth b' hb' _ (.inl ⟨l, hl, rfl⟩)) (hownM _ (.inl ⟨l, hl, rfl⟩)) r2 r3 (Nat.le_of_eq (r4 _).symm) r8
        let l' : Loc := ⟨l.blk, l.base + i0 * l.esz, l.esz, n + ys.length⟩
        have hf := (st.kill b).kill_free d
        have h2 := (h1.kill d).rename hf (some l') (φ b)
        have hS' : ∀ i, S i → w'.heap[i]? = w.heap[i]? := fun i hi => r3 i fun e => hnS (e ▸ hi)
        have hz' : ∀ x, rowSize w x ≤ rowSize w' x := fun x => Nat.le_of_eq (r4 x).symm
        have hod : ∀ x, owns (fun x => if x = d then some l' else ρ x) (fun x => if x = d then φ b else φ x) d x → owns ρ φ b x := fun x hx => by
          rcases owns_same.mp hx with ⟨l2, e1, e2⟩ | hx
          · obtain rfl := Option.some.inj e1
            exact .inl ⟨l, hl, e2⟩
          · exact .inr hx
        have h3 := h2.addBlk (d := d) (k := .c ei.size (killRows d ((rows.drop i0).take n ++ ys))) hf.1 (not_pin_of_lt g1 h.small) ?_ (fun b' x hb' hx hx' => ?_) (fun l2 e1 => ?_) (fun x hx => h.heap.notS b x hne (hod x hx)) (fun x hx => by rw [r2]; exact h.heap.lt b x hne (hod x hx)) (fun x hx => hownM x (hod x hx))
        · refine ⟨.slice (some (l.addr i0 0)) (n + ys.length) cap, w', ?_, _, _, S, h3.setSlot (by exact g1) ?_⟩
          · rw [hrun]
            show ((storeCells (Addr.add (l.addr i0 0) (n * ei.size)) vs).run P w).andThen _ = _
            rw [show l.addr i0 0 = ⟨l.blk, l.base + i0 * l.esz + 0, none⟩ from rfl, Addr.add_lit, ← hesz, Nat.add_zero, r1]
            rfl
          · have := Rep.sl (ρ := fun x => if x = d then some l' else ρ x) (S := S) (w := w') d 0 (n + ys.length) cap l' (if_pos rfl) hfit (by simp [l']) (by
              show l.base + i0 * l.esz + (0 + cap) * l.esz ≤ rowSize w' l.blk
              rw [r4]
              rw [Nat.add_mul] at hz
              rw [Nat.zero_add]
              omega)
            rw [show l'.addr 0 0 = l.addr i0 0 from by simp [l', Loc.addr]] at this
            exact this
        · simp only [if_true]
          obtain ⟨G, p1, p2, p3⟩ := hok.cell
          have hys := hsr.flat
          have hrow : ∀ (i' : Nat) (r : List SV), ((rows.drop i0).take n ++ ys)[i']? = some r → r.length = l.esz := fun i' r hr => by
            rw [List.getElem?_append] at hr
            split at hr
            · exact o1.row _ r hr
            · rw [hesz]; exact hys.row _ r hr
          let G' : Nat → Nat → Nat → Prop := fun i' j x => i' < n ∧ G (i0 + i') j x
          have hcell : ∀ (i' : Nat) (r : List SV) (j : Nat) (c : SV), ((rows.drop i0).take n ++ ys)[i']? = some r → r[j]? = some c → ∃ u, w'.cell? (l'.addr i' j) = some u ∧ u.oneCell' = true ∧ CRep ρ S w' u c (G' i' j) := fun i' r j c hr hj => by
            rw [List.getElem?_append, hlen] at hr
            split at hr
            · rename_i hi'
              have hget : rows[i0 + i']? = some r := by
                rw [List.getElem?_take, if_pos hi', List.getElem?_drop] at hr; exact hr
              obtain ⟨u, e1, e2, e3⟩ := p3 _ r j c hget hj
              refine ⟨u, ?_, e2, ?_⟩
              · have hjl : j < l.esz := by rw [← hok.len _ r hget]; exact (List.getElem?_eq_some_iff.mp hj).1
                have hm2 : (i' + 1) * l.esz ≤ n * l.esz := Nat.mul_le_mul_right _ hi'
                rw [Nat.succ_mul] at hm2
                rw [← e1, ← r7 (l.addr (i0 + i') j) (fun q _ => by unfold Loc.addr; simp only [ne_eq, Addr.mk.injEq, true_and, and_true, Nat.add_mul]; omega)]
                unfold Loc.addr
                simp only [l', Nat.add_mul]
                congr 2
                omega
              · exact e3.mono (fun _ h => h) (by omega) (fun x hx _ => r3 x fun e => by
                  rcases hx with hx | hx
                  · exact hnS (e ▸ hx)
                  · exact hself (e ▸ p1 _ _ x hx)) h.sb (fun _ _ => rfl) hz' fun x hx => ⟨hi', hx⟩
            · rename_i hi'
              obtain ⟨G2, q1, _, q3⟩ := hys.cell
              obtain ⟨u, e1, e2⟩ := q3 _ r j c hr hj
              refine ⟨u, ?_, hys.one u (List.mem_of_getElem? e1), e2.mono (fun _ h => h) (by omega) (fun x hx _ => hS' x (hx.elim id fun g => (q1 _ _ x g).elim)) h.sb (fun _ _ => rfl) hz' fun x hx => (q1 _ _ x hx).elim⟩
              rw [← r6 _ u e1]
              unfold Loc.addr
              simp only [l']
              congr 2
              rw [← hesz]
              have : i' = n + (i' - n) := by omega
              rw [this, Nat.add_mul]
              simp
              omega
          refine .inr ⟨l', if_pos rfl, hesz, fun o => by rw [r5]; exact hok.free o, fun i' r g => ?_, ?_, G', fun i' j x g => p1 _ _ x g.2, fun p q p' q' x g1 g2 => by have := p2 _ _ _ _ x g1.2 g2.2; omega, fun i' r j c g1 g2 => ?_⟩
          · obtain ⟨r', g', rfl⟩ := killRows_get g
            simpa using hrow i' r' g'
          · unfold killRows
            simp only [List.length_map, List.length_append, hlen]
            rfl
          · obtain ⟨r', g3, rfl⟩ := killRows_get g1
            rw [List.getElem?_map, Option.map_eq_some_iff] at g2
            obtain ⟨c', g4, rfl⟩ := g2
            obtain ⟨u, f1, f2, f3⟩ := hcell i' r' j c' g3 g4
            exact ⟨u, f1, f2, (f3.kill1 d).mono (fun _ h => h) (Nat.le_refl _) (fun _ _ _ => rfl) (fun i hi => by rw [r2]; exact h.sb i hi) (fun x hx => if_neg (SV.kill1_names hx).1) (fun _ => Nat.le_refl _) fun _ h => h⟩
        · have hx2 : b' ≠ d := fun e => hb' (e ▸ hf.1)
          exact hoth b' (blk_kill_has hb').2 x (hod x hx') ((owns_ne hx2).mp hx)
        · simp only [if_true] at e1 ⊢
          obtain rfl := Option.some.inj e1
          exact hself
      · have hold : (Builtin.firstCells ei.size n (.slice (some (l.addr i0 0)) n cap)).run P w.drew = .ok olds.toArray w.drew := by
          have := o2 n w.drew (Nat.le_refl _) rfl
          rw [← holdlen, List.take_length, holdlen, hesz] at this
          exact this
        have hfirst := hsr.first ys.length w.drew (Nat.le_refl _) rfl
        rw [← hvl, List.take_length] at hfirst
        have hrun := run_append_out (P := P) (w := w) (ty := ty) (base := some (l.addr i0 0)) u1 hsr.und z1 z4 z2 (hsr.lenOf w) hfirst hold (by omega) g4 (by rw [z5]; exact g5)
        refine ⟨_, _, hrun, ?_⟩
        have hge := grownCap_ge w (n + ys.length) cap e
        rw [hesz] at o1
        have hflat : Flat ρ S w.drew ei.size (olds ++ vs) ((rows.drop i0).take n ++ ys) (φ b) := (o1.append hsr.flat (fun _ _ g => g) (fun x hx => hx.elim id False.elim)).later (Nat.le_refl _) (fun _ _ _ => rfl) h.sb (fun _ => Nat.le_refl _)
        have hzc : (Builtin.zeroCells z.cells (grownCap w (n + ys.length) cap e - (n + ys.length))).toList.length = (grownCap w (n + ys.length) cap e - (n + ys.length)) * ei.size := by
          rw [Array.length_toList, size_zeroCells, hzk]
        have hll : ((rows.drop i0).take n ++ ys).length = n + ys.length := by rw [List.length_append, hlen]
        have := (h.kill b).drew.bufNew (d := d) (cap := grownCap w (n + ys.length) cap e) (rest := (Builtin.zeroCells z.cells (grownCap w (n + ys.length) cap e - (n + ys.length))).toList) e g1 (φ b) (fun x hx => ⟨h.heap.notS b x hne (.inr hx), h.heap.lt b x hne (.inr hx), hownM x (.inr hx), fun b' hb' _ => hoth b' hb' x (.inr hx)⟩) hflat (by rw [hll]; exact hge)
          (by rw [hzc, hflat.len, hll, ← Nat.add_mul]; exact Nat.mul_le_mul_right _ (by omega)) (olds.toArray ++ vs.toArray ++ Builtin.zeroCells z.cells (grownCap w (n + ys.length) cap e - (n + ys.length))) (by simp)
        rw [hll] at this
        exact this
  · cases hold

theorem xAppend_ok (hT : TOk P T) (h : Sim w0 M S0 ρ φ S st a w) {o : Oper} {c : Call} {s x : Operand} {t tx d : Nat} {side : Prop} {st' : St} {K : St → Prop} {Q : Exit → Act → World → Prop} (ho : o.op = .call c) (hc : c.callee = .builtin .append) (ha : c.args.toList = [s, x]) (ht : c.argTypes.toList = [t, tx])
    (hd : o.dst = some d) (he : xAppend T M.wr st t tx (st.ev s) (st.ev x) d = some (side, st')) (hs : side) (hK : K st') : o.wp P a w (Nx w0 M S0 K) Q := by
  obtain ⟨u, w', h1, h3⟩ := xAppend_run (P := P) (ty := o.type) hT h (h.ev s) (h.ev x) he hs
  refine wp_value (v := u) (w' := w') ?_ ⟨st', hK, by rw [hd]; exact h3⟩
  have e1 : c.args = #[s, x] := Array.ext' (by simpa using ha)
  have e2 : c.argTypes = #[t, tx] := Array.ext' (by simpa using ht)
  unfold execOp
  simp [ho, resolve, hc, invoke, builtin, e1, e2, h1]

/-! ## Literals of slices -/

def xBuildSlice (T : Nat → Option TI) (st : St) (t len : Nat) (parts : List (Nat × SV)) (d : Nat) : Option (Prop × St) := match T t with
  | some ti => match ti.k with
    | .slice e => match T e with
      | some ei => match fillSV (fun i => some (i * ei.size, ei.size)) (List.replicate (len * ei.size) .dead) parts with
        | some row => some (d < st.n ∧ len * ei.size ≤ 16777216 ∧ row.all SV.one = true, ((st.kill d).setBlk d (.c ei.size (killRows d (chunks row ei.size len)))).set d (.sl d 0 len))
        | none => none
      | none => none
    | _ => none
  | none => none

theorem chunks_flat {row : List SV} {vs : List Value} {k len : Nat} {F : Nat → Prop} (h : RelL ρ S w vs row) (hl : row.length = len * k) (ho : row.all SV.one = true) : Flat ρ S w k vs (chunks row k len) F := by
  refine .plain (by rw [h.1, hl, chunks_length]) (fun i r hr => ?_) (fun v hv => ?_) (fun i r j c hr hj => ?_)
  · obtain ⟨h1, rfl⟩ := chunks_get hr
    rw [List.length_take, List.length_drop, hl]
    have : (i + 1) * k ≤ len * k := Nat.mul_le_mul_right _ h1
    rw [Nat.succ_mul] at this
    omega
  · obtain ⟨i, hi, rfl⟩ := List.getElem_of_mem hv
    have hi' : i < row.length := by rw [← h.1]; exact hi
    exact (h.2 i _ _ (List.getElem?_eq_getElem hi) (List.getElem?_eq_getElem hi')).one (List.all_eq_true.mp ho _ (List.getElem_mem hi'))
  · obtain ⟨h1, rfl⟩ := chunks_get hr
    rw [List.getElem?_take] at hj
    split at hj <;> try (cases hj; done)
    rw [List.getElem?_drop] at hj
    have hlt : i * k + j < vs.length := by rw [h.1]; exact (List.getElem?_eq_some_iff.mp hj).1
    exact ⟨vs[i * k + j], List.getElem?_eq_getElem hlt, h.2 _ _ c (List.getElem?_eq_getElem hlt) hj⟩

theorem fillSV_length (place : Nat → Option (Nat × Nat)) (ps : List (Nat × SV)) : ∀ (row row' : List SV), fillSV place row ps = some row' → row'.length = row.length := by
  induction ps with
  | nil => intro row row' h; simp [fillSV] at h; rw [h]
  | cons p ps ih =>
    intro row row' h
    simp only [fillSV] at h
    split at h <;> try (cases h; done)
    split at h <;> try (cases h; done)
    rw [ih _ _ h, putAt_length]

theorem xBuildSlice_ok (hT : TOk P T) (h : Sim w0 M S0 ρ φ S st a w) {o : Oper} {t len d : Nat} {parts : Array (Nat × Operand)} {side : Prop} {st' : St} {K : St → Prop} {Q : Exit → Act → World → Prop} (ho : o.op = .buildSlice t len parts) (hd : o.dst = some d)
    (he : xBuildSlice T st t len (parts.toList.map fun p => (p.1, st.ev p.2)) d = some (side, st')) (hs : side) (hK : K st') : o.wp P a w (Nx w0 M S0 K) Q := by
  unfold xBuildSlice at he
  split at he <;> try (cases he; done)
  rename_i ti ht
  split at he <;> try (cases he; done)
  rename_i e hk
  split at he <;> try (cases he; done)
  rename_i ei hei
  split at he <;> try (cases he; done)
  rename_i row hrow
  obtain ⟨rfl, rfl⟩ := Prod.mk.inj (Option.some.inj he)
  obtain ⟨g1, g2, g4⟩ := hs
  obtain ⟨dd, u1, u2⟩ := (hT t ti ht).run_und
  rw [hk] at u2
  obtain rfl := tk_slice u2
  have hsz := (hT e ei hei).run_size w
  obtain ⟨z, z1, z2⟩ := (hT e ei hei).run_zero
  have hmap : (parts.map fun (i, x) => (i, a.eval x)).toList = parts.toList.map fun p => (p.1, a.eval p.2) := by simp
  have key : ∀ arr : Array Value, arr.size = len * ei.size → ∃ arr', Instr.fill (fun i => some (i * ei.size, ei.size)) arr (parts.toList.map fun p => (p.1, a.eval p.2)) = some arr' ∧ RelL ρ S w arr'.toList row := fun arr harr => by
    refine fill_ok _ parts.toList a.eval st.ev h.ev arr _ row ⟨by simp [harr], fun i v c _ h2 => ?_⟩ hrow
    rw [List.getElem?_replicate] at h2
    split at h2 <;> simp at h2
    subst h2
    exact .dead v
  have hlr : row.length = len * ei.size := by rw [fillSV_length _ _ _ _ hrow]; simp
  have hsz2 : ¬ (len * ei.size > 2 ^ 24) := by omega
  have hend : ∀ arr' : Array Value, RelL ρ S w arr'.toList row → Holds w0 M S0 (((st.kill d).setBlk d (.c ei.size (killRows d (chunks row ei.size len)))).set d (.sl d 0 len)) (a.put (some d) (.slice (some ⟨w.heap.size, 0, none⟩) len len)) (w.alloc (.cells arr' e)) := fun arr' hrel => by
    have := h.bufNew (esz := ei.size) (d := d) (cap := len) (vs := arr'.toList) (rest := []) e g1 (fun _ => False) (fun x hx => hx.elim) (chunks_flat hrel hlr g4) (by rw [chunks_length]; exact Nat.le_refl _) (by rw [hrel.1, hlr]; simp) arr' (by simp)
    rw [chunks_length] at this
    exact this
  by_cases h0 : len * ei.size = 0
  · obtain ⟨arr', f1, f2⟩ := key ((Array.range (len * ei.size)).map ((#[] : Array Value)[· % (#[] : Array Value).size]!)) (by simp)
    refine wp_value (v := .slice (some ⟨w.heap.size, 0, none⟩) len len) (w' := w.alloc (.cells arr' e)) ?_ ⟨_, hK, by rw [hd]; exact hend arr' f2⟩
    unfold execOp
    simp only [ho, Instr.buildSlice, Sem.run_bind, u1, Result.andThen_ok, hsz, if_neg hsz2, if_pos h0, Sem.run_pure, hmap, f1]
    simp [newRow]
  · obtain ⟨arr', f1, f2⟩ := key ((Array.range (len * ei.size)).map (z.cells[· % z.cells.size]!)) (by simp)
    refine wp_value (v := .slice (some ⟨w.heap.size, 0, none⟩) len len) (w' := w.alloc (.cells arr' e)) ?_ ⟨_, hK, by rw [hd]; exact hend arr' f2⟩
    unfold execOp
    simp only [ho, Instr.buildSlice, Sem.run_bind, u1, Result.andThen_ok, hsz, if_neg hsz2, if_neg h0, z1, Sem.run_pure, hmap, f1]
    simp [newRow]

end Go.Vcg
