/- The operations that make a variable or write one. -/
import Derived.Test.YtekdhfppbahidaaU8
namespace Go.Vcg

variable {w0 : World} {M : Perm} {S0 : Nat → Prop} {ρ : Nat → Option Loc} {φ : Nat → Nat → Prop} {S : Nat → Prop} {st : St} {a : Act} {w : World} {P : Program} {T : Nat → Option TI}

/-- Somewhere behind a step: a state of which K speaks, and which holds. -/
def Nx (w0 : World) (M : Perm) (S0 : Nat → Prop) (K : St → Prop) (a : Act) (w : World) : Prop := ∃ st, K st ∧ Holds w0 M S0 st a w

theorem wp_value {o : Oper} {next : Act → World → Prop} {Q : Exit → Act → World → Prop} {v : Value} {w' : World} (hr : (execOp a.eval o).run P w = .ok (.value v) w') (h : next (a.put o.dst v) w') : o.wp P a w next Q := by
  unfold Oper.wp
  rw [hr]
  exact h
theorem wp_skip' {o : Oper} {next : Act → World → Prop} {Q : Exit → Act → World → Prop} {w' : World} (hr : (execOp a.eval o).run P w = .ok .skip w') (h : next (a.put o.dst undef) w') : o.wp P a w next Q := by
  unfold Oper.wp
  rw [hr]
  exact h

/-- A slot is set, if there is one. -/
def St.put (st : St) (d : Option Nat) (s : SV) : St := match d with
  | some d => st.set d s
  | none => st
def dOk (n : Nat) : Option Nat → Prop
  | some d => d < n
  | none => True
theorem Sim.put (h : Sim w0 M S0 ρ φ S st a w) {d : Option Nat} {v : Value} {s : SV} (hd : dOk st.n d) (hr : Rep ρ S w v s) : Sim w0 M S0 ρ φ S (st.put d s) (a.put d v) w := by
  cases d with
  | none => exact h
  | some d => exact h.setSlot hd hr

/-- pure operations -/
theorem wp_pure (hT : TOk P T) (h : Sim w0 M S0 ρ φ S st a w) {e : Operand → SV} (hev : ∀ x, Rep ρ S w (a.eval x) (e x)) {o : Oper} {sv : SV} {side : Prop} {K : St → Prop} {Q : Exit → Act → World → Prop} (he : pev T st e o.op = some (side, sv)) (hs : side)
    (hd : dOk st.n o.dst) (hK : K (st.put o.dst sv)) : o.wp P a w (Nx w0 M S0 K) Q := by
  obtain ⟨u, h1, h2⟩ := pev_ok hT h hev he hs
  exact wp_value h1 ⟨_, hK, ρ, φ, S, h.put hd h2⟩

/-! ## Cells that are one -/

def SV.one : SV → Bool
  | .pl v => v.oneCell'
  | .pd _ | .sl _ _ _ | .sa _ _ _ _ _ | .pt _ _ _ | .bp _ _ | .nl | .pm _ | .mr _ | .ifc _ _ | .fn _ _ _ => true
  | _ => false
theorem Rep.one {v : Value} {s : SV} (h : Rep ρ S w v s) (hs : s.one = true) : v.oneCell' = true := by
  cases h with
  | per h => cases h <;> first | exact hs | rfl | cases hs
  | _ => first | rfl | cases hs

theorem conSV_kill1 (d : Nat) (v : Value) : (conSV v).kill1 d = conSV v := by unfold conSV; split <;> rfl
theorem conSV_one {v : Value} (h : v.oneCell' = true) : (conSV v).one = true := by
  unfold conSV
  split
  · rfl
  · exact h
theorem map_conSV_kill1 (d : Nat) (vs : List Value) : (vs.map conSV).map (SV.kill1 d) = vs.map conSV := by
  rw [List.map_map]
  exact List.map_congr_left fun v _ => conSV_kill1 d v

theorem not_pin_of_lt {d n : Nat} (h : d < n) (hn : n ≤ 1000000) : ¬ isPin d := fun g => by unfold isPin at g; omega

/-- A variable of these cells is made. -/
theorem Sim.boxNew (h : Sim w0 M S0 ρ φ S st a w) {d : Nat} {arr : Array Value} {row : List SV} (e : TypeId) (hd : d < st.n) (hrel : RelL ρ S w arr.toList row) (hone : row.all SV.one = true) :
    Holds w0 M S0 (((st.kill d).setBlk d (.c row.length [row.map (SV.kill1 d)])).set d (.pt d 0 0)) (a.put (some d) (.pointer (some ⟨w.heap.size, 0, none⟩))) (w.alloc (.cells arr e)) := by
  have hk : ∀ i, i < w.heap.size → (w.alloc (.cells arr e)).heap[i]? = w.heap[i]? := fun i hi => heap_alloc_old w _ i hi
  have hz := rowSize_later hk
  obtain ⟨ρ', φ', h1, h2, h3⟩ := (h.kill d).newBlk (d := d) (st.kill_free d) (not_pin_of_lt hd h.small) ⟨w.heap.size, 0, row.length, 1⟩ rfl (fun _ => False) (.c row.length [row.map (SV.kill1 d)]) (.cells arr e) (fun x hx => hx.elim) fun ρ' hρ hd' => by
    have hr : ∀ (i : Nat) (r : List SV), [row.map (SV.kill1 d)][i]? = some r → i = 0 ∧ r = row.map (SV.kill1 d) := fun i r g => by
      cases i with
      | zero => simp at g; exact ⟨rfl, g.symm⟩
      | succ i => simp at g
    refine .inr ⟨_, hd', rfl, fun o => ?_, fun i r g => by rw [(hr i r g).2]; simp, rfl, fun _ _ _ => False, fun _ _ _ g => g.elim, fun _ _ _ _ _ g => g.elim, fun i r j c g1 g2 => ?_⟩
    · simp only [World.frozen?, heap_alloc_at]; simp
    · obtain ⟨rfl, rfl⟩ := hr i r g1
      rw [List.getElem?_map, Option.map_eq_some_iff] at g2
      obtain ⟨c', g2, rfl⟩ := g2
      have hj : j < arr.toList.length := by rw [hrel.1]; exact (List.getElem?_eq_some_iff.mp g2).1
      have hrep := hrel.2 j _ c' (List.getElem?_eq_getElem hj) g2
      refine ⟨arr.toList[j], ?_, hrep.one (List.all_eq_true.mp hone c' (List.mem_of_getElem? g2)), .inl ?_⟩
      · simp only [World.cell?, Loc.addr, heap_alloc_at]
        have : j < arr.size := by simpa using hj
        simp [this]
      · exact (hrep.kill1 d).mono (fun _ h => h) (fun i hi => hk i (h.sb i hi)) (fun b hb => hρ b (SV.kill1_names hb).1) hz
  refine ⟨ρ', φ', S, h1.setSlot hd ?_⟩
  have := Rep.pt (ρ := ρ') (S := S) (w := w.alloc (.cells arr e)) d 0 0 _ h2
  simpa [Loc.addr] using this

def xAlloc (T : Nat → Option TI) (st : St) (t d : Nat) : Option (Prop × St) := match T t with
  | some ti => some (d < st.n ∧ ti.zero.all Value.oneCell' = true, ((st.kill d).setBlk d (.c ti.zero.length [ti.zero.map conSV])).set d (.pt d 0 0))
  | none => none
theorem xAlloc_ok (hT : TOk P T) (h : Sim w0 M S0 ρ φ S st a w) {o : Oper} {t d : Nat} {side : Prop} {st' : St} {K : St → Prop} {Q : Exit → Act → World → Prop} (ho : o.op = .alloc t) (hd : o.dst = some d) (he : xAlloc T st t d = some (side, st')) (hs : side) (hK : K st') : o.wp P a w (Nx w0 M S0 K) Q := by
  unfold xAlloc at he
  split at he <;> try (cases he; done)
  rename_i ti ht
  obtain ⟨rfl, rfl⟩ := Prod.mk.inj (Option.some.inj he)
  obtain ⟨g1, g2⟩ := hs
  obtain ⟨z, h1, h2⟩ := (hT t ti ht).run_zero
  refine wp_value (v := .pointer (some ⟨w.heap.size, 0, none⟩)) (w' := w.alloc (.cells z.cells t)) ?_ ⟨_, hK, ?_⟩
  · unfold execOp
    simp [ho, Instr.alloc, h1, newVar, newRow]
  · have := h.boxNew (arr := z.cells) (row := ti.zero.map conSV) t g1 (by rw [h2]; exact relL_con _) (by
      rw [List.all_map]
      exact List.all_eq_true.mpr fun v hv => conSV_one (List.all_eq_true.mp g2 v hv))
    rw [map_conSV_kill1, List.length_map] at this
    rw [hd]; exact this

def xBox (st : St) (s : SV) (d : Nat) : Option (Prop × St) := match s.cells with
  | some cs => some (d < st.n ∧ cs.all SV.one = true, ((st.kill d).setBlk d (.c cs.length [cs.map (SV.kill1 d)])).set d (.pt d 0 0))
  | none => none
theorem xBox_ok (h : Sim w0 M S0 ρ φ S st a w) {o : Oper} {t d : Nat} {x : Operand} {side : Prop} {st' : St} {K : St → Prop} {Q : Exit → Act → World → Prop} (ho : o.op = .box t x) (hd : o.dst = some d) (he : xBox st (st.ev x) d = some (side, st')) (hs : side) (hK : K st') : o.wp P a w (Nx w0 M S0 K) Q := by
  unfold xBox at he
  split at he <;> try (cases he; done)
  rename_i cs hc
  obtain ⟨rfl, rfl⟩ := Prod.mk.inj (Option.some.inj he)
  obtain ⟨g1, g2⟩ := hs
  refine wp_value (v := .pointer (some ⟨w.heap.size, 0, none⟩)) (w' := w.alloc (.cells (a.eval x).cells t)) ?_ ⟨_, hK, ?_⟩
  · unfold execOp
    simp [ho, Instr.box, newVar, newRow]
  · rw [hd]
    exact h.boxNew t g1 ((h.ev x).cells hc) g2

/-! ## store -/

theorem Sim.congr {st' : St} (h : Sim w0 M S0 ρ φ S st a w) (hn : st'.n = st.n) (hg : ∀ t, st'.get t = st.get t) (hb : ∀ b, st'.blk b = st.blk b) : Sim w0 M S0 ρ φ S st' a w :=
  h.sub hn (fun t => .inl (hg t)) fun b r e => by rw [← hb]; exact e

theorem run_storeCell (v : Value) (x : Addr) (hv : v.oneCell' = true) {u : Value} (hc : w.cell? x = some u) (hf : w.frozen? x = false) : (store x v).run P w = .ok () (w.setCell x v) := by
  rw [run_store P w x v _ hv, hc]
  simp [hf]
theorem frozen_setCell (w : World) (x : Addr) (v : Value) (y : Addr) : (w.setCell x v).frozen? y = w.frozen? y := by rw [World.frozen?_setCell]

/-- A cell is written. -/
theorem Sim.storeCell (h : Sim w0 M S0 ρ φ S st a w) {b : Nat} (hw : M.wr b) {l : Loc} {k : Nat} {rows : Rows} {i j : Nat} {r : List SV} {v : Value} {s : SV} (hb : st.blk b = some (.c k rows)) (hl : ρ b = some l) (hi : rows[i]? = some r) (hj : j < r.length)
    (hv : v.oneCell' = true) (hr : Rep ρ S w v s) : Sim w0 M S0 ρ φ S (st.setBlk b (.c k (rows.set i (r.set j s)))) a (w.setCell (l.addr i j) v) := by
  obtain ⟨hk, hcs⟩ := h.cellsAt hb hl
  have hne : st.blk b ≠ none := by rw [hb]; simp
  have hlt := h.heap.lt b _ hne (.inl ⟨l, hl, rfl⟩)
  have hnS := h.heap.notS b _ hne (.inl ⟨l, hl, rfl⟩)
  have hself := h.heap.self b l hne hl
  have hoff : ∀ x, x ≠ l.blk → (w.setCell (l.addr i j) v).heap[x]? = w.heap[x]? := fun x hx => heap_setCell_other w _ v x hx
  have hz : ∀ x, rowSize w x ≤ rowSize (w.setCell (l.addr i j) v) x := fun x => Nat.le_of_eq (rowSize_setCell w _ v x).symm
  have hlen := hcs.len i r hi
  refine h.turn hw hb hl (size_setCell w _ v) hoff (hz _) (.inr ⟨l, hl, hk, fun o => by rw [frozen_setCell]; exact hcs.free o, fun i' r' g => ?_, by simpa using hcs.long, ?_⟩)
  · rw [List.getElem?_set] at g
    by_cases e : i = i'
    · have hir : i < rows.length := (List.getElem?_eq_some_iff.mp hi).1
      rw [if_pos e, if_pos (by omega)] at g
      obtain rfl := Option.some.inj g; rw [List.length_set]; exact hlen
    · rw [if_neg e] at g; exact hcs.len i' r' g
  · obtain ⟨G, e1, e2, e3⟩ := hcs.cell
    have hrest : ∀ (i' : Nat) (r' : List SV) (j' : Nat) (c : SV), rows[i']? = some r' → r'[j']? = some c → ¬ (i' = i ∧ j' = j) → ∃ u, (w.setCell (l.addr i j) v).cell? (l.addr i' j') = some u ∧ u.oneCell' = true ∧ CRep ρ S (w.setCell (l.addr i j) v) u c (G i' j') := fun i' r' j' c g1 g2 hne' => by
      obtain ⟨u, f1, f2, f3⟩ := e3 i' r' j' c g1 g2
      refine ⟨u, ?_, f2, f3.mono (fun _ h => h) (by rw [size_setCell]; exact Nat.le_refl _) (fun x hx _ => hoff x fun e => ?_) h.sb (fun _ _ => rfl) hz fun _ h => h⟩
      · have hj' : j' < l.esz := by have := hcs.len i' r' g1; have := (List.getElem?_eq_some_iff.mp g2).1; omega
        rw [World.cell?_setCell_other _ _ _ _ ?_]
        · exact f1
        · unfold Loc.addr
          intro e
          have e := congrArg Addr.off e
          simp only at e
          rw [hlen] at hj
          rcases Nat.lt_trichotomy i i' with g | g | g
          · have : (i + 1) * l.esz ≤ i' * l.esz := Nat.mul_le_mul_right _ g
            rw [Nat.succ_mul] at this
            omega
          · subst g; exact hne' ⟨rfl, by omega⟩
          · have : (i' + 1) * l.esz ≤ i * l.esz := Nat.mul_le_mul_right _ g
            rw [Nat.succ_mul] at this
            omega
      · rcases hx with hx | hx
        · exact hnS (e ▸ hx)
        · exact hself (e ▸ e1 _ _ x hx)
    refine ⟨fun p q x => (if p = i ∧ q = j then False else G p q x), fun p q x g => ?_, fun p q p' q' x g1 g2 => ?_, fun i' r' j' c g1 g2 => ?_⟩
    · dsimp only at g
      split at g
      · exact g.elim
      · exact e1 p q x g
    · dsimp only at g1 g2
      split at g1
      · exact g1.elim
      · split at g2
        · exact g2.elim
        · exact e2 _ _ _ _ x g1 g2
    · rw [List.getElem?_set] at g1
      by_cases ep : i = i'
      · subst ep
        have hir : i < rows.length := (List.getElem?_eq_some_iff.mp hi).1
        rw [if_pos rfl, if_pos hir] at g1
        obtain rfl := Option.some.inj g1
        rw [List.getElem?_set] at g2
        by_cases eq : j = j'
        · subst eq
          rw [if_pos rfl, if_pos hj] at g2
          obtain rfl := Option.some.inj g2
          obtain ⟨u, f1, _, _⟩ := e3 i r j _ hi (List.getElem?_eq_getElem hj)
          exact ⟨v, World.cell?_setCell_same w _ _ f1, hv, .inl (hr.mono (fun _ h => h) (fun x hx => hoff x fun e => hnS (e ▸ hx)) (fun _ _ => rfl) hz)⟩
        · rw [if_neg eq] at g2
          have hn : ¬ (i = i ∧ j' = j) := fun g => eq g.2.symm
          obtain ⟨u, f1, f2, f3⟩ := hrest i r j' c hi g2 hn
          refine ⟨u, f1, f2, ?_⟩
          have : (fun x => if i = i ∧ j' = j then False else G i j' x) = G i j' := funext fun x => if_neg hn
          show CRep ρ S _ u c (fun x => if i = i ∧ j' = j then False else G i j' x)
          rw [this]; exact f3
      · rw [if_neg ep] at g1
        have hn : ¬ (i' = i ∧ j' = j) := fun g => ep g.1.symm
        obtain ⟨u, f1, f2, f3⟩ := hrest i' r' j' c g1 g2 hn
        refine ⟨u, f1, f2, ?_⟩
        have : (fun x => if i' = i ∧ j' = j then False else G i' j' x) = G i' j' := funext fun x => if_neg hn
        show CRep ρ S _ u c (fun x => if i' = i ∧ j' = j then False else G i' j' x)
        rw [this]; exact f3

theorem store_cells (vs : List Value) : ∀ (cs : List SV) (w : World) (st : St) (rows : Rows) (row : List SV) (b i off k kk : Nat) (l : Loc), M.wr b → Sim w0 M S0 ρ φ S st a w → st.blk b = some (.c kk rows) → ρ b = some l → rows[i]? = some row → RelL ρ S w vs cs → cs.all SV.one = true →
    off + k + cs.length ≤ row.length → ∃ w', (storeCells (l.addr i off) vs k).run P w = .ok () w' ∧ Sim w0 M S0 ρ φ S (st.setBlk b (.c kk (rows.set i (putAt row (off + k) cs)))) a w' := by
  induction vs with
  | nil =>
    intro cs w st rows row b i off k kk l hw h hb hl hi hr _ _
    have : cs = [] := List.length_eq_zero_iff.mp hr.1.symm
    subst this
    refine ⟨w, rfl, h.congr rfl (fun _ => rfl) (fun x => ?_)⟩
    rw [St.blk_setBlk]
    split
    · rename_i e
      subst e
      rw [hb, putAt]
      obtain ⟨hlt, rfl⟩ := List.getElem?_eq_some_iff.mp hi
      rw [List.set_getElem_self]
    · rfl
  | cons v vs ih =>
    intro cs w st rows row b i off k kk l hw h hb hl hi hr hone hlen
    cases cs with
    | nil => simp [RelL] at hr
    | cons c cs =>
      simp only [List.length_cons] at hlen
      simp only [List.all_cons, Bool.and_eq_true] at hone
      have hv := hr.2 0 v c rfl rfl
      have hj : off + k < row.length := by omega
      obtain ⟨_, hbx⟩ := h.cellsAt hb hl
      have hne : st.blk b ≠ none := by rw [hb]; simp
      have hnS := h.heap.notS b _ hne (.inl ⟨l, hl, rfl⟩)
      obtain ⟨u, g1, _, _⟩ := hbx.at hi (List.getElem?_eq_getElem hj)
      have h1 := h.storeCell hw hb hl hi hj (hv.one hone.1) hv
      have hrel : RelL ρ S (w.setCell (l.addr i (off + k)) v) vs cs := by
        refine ⟨by have := hr.1; simpa using this, fun i' u d e1 e2 => (hr.2 (i' + 1) u d e1 e2).mono (fun _ hi => hi) (fun x hx => heap_setCell_other w _ v x fun e => hnS (by rw [← show (l.addr i (off + k)).block = l.blk from rfl, ← e]; exact hx)) (fun _ _ => rfl) fun x => Nat.le_of_eq (rowSize_setCell w _ v x).symm⟩
      have hlt : i < rows.length := (List.getElem?_eq_some_iff.mp hi).1
      obtain ⟨w', h2, h3⟩ := ih cs _ _ (rows.set i (row.set (off + k) c)) (row.set (off + k) c) b i off (k + 1) kk l hw h1 (by rw [St.blk_setBlk, if_pos rfl]) hl (by simp [hlt]) hrel hone.2 (by simp; omega)
      refine ⟨w', ?_, h3.congr rfl (fun _ => rfl) (fun x => ?_)⟩
      · have ha : Addr.add (l.addr i off) k = l.addr i (off + k) := by unfold Loc.addr; rw [Addr.add_lit, Nat.add_assoc]
        have hs := run_storeCell (P := P) v (l.addr i (off + k)) (hv.one hone.1) g1 (hbx.free _)
        simp only [storeCells, Sem.run_bind, ha, hs, Result.andThen_ok]
        exact h2
      · simp only [St.blk_setBlk, putAt, List.set_set]
        split
        · rfl
        · rfl

def xStore (T : Nat → Option TI) (wr : Nat → Prop) (st : St) (t : Nat) (x v : SV) (d : Option Nat) : Option (Prop × St) := match T t, x with
  | some ti, .pt b i off => match st.blk b, v.cells with
    | some (.c k rows), some cs => some (wr b ∧ dOk st.n d ∧ i < rows.length ∧ cs.length = ti.size ∧ off + cs.length ≤ (rows.getD i []).length ∧ cs.all SV.one = true, (st.setBlk b (.c k (rows.set i (putAt (rows.getD i []) off cs)))).put d .dead)
    | _, _ => none
  | _, _ => none
theorem xStore_ok (hT : TOk P T) (h : Sim w0 M S0 ρ φ S st a w) {o : Oper} {t : Nat} {x v : Operand} {side : Prop} {st' : St} {K : St → Prop} {Q : Exit → Act → World → Prop} (ho : o.op = .store t x v) (he : xStore T M.wr st t (st.ev x) (st.ev v) o.dst = some (side, st')) (hs : side) (hK : K st') : o.wp P a w (Nx w0 M S0 K) Q := by
  unfold xStore at he
  split at he <;> try (cases he; done)
  rename_i ti b i off ht hx
  split at he <;> try (cases he; done)
  rename_i k rows cs hb hc
  obtain ⟨rfl, rfl⟩ := Prod.mk.inj (Option.some.inj he)
  obtain ⟨gw, g1, g0, g2, g3, g5⟩ := hs
  have hrx := h.ev x
  rw [hx] at hrx
  generalize hvx : a.eval x = vx at hrx
  cases hrx with
  | per h => cases h
  | pt _ _ _ l hl =>
    have hrel := (h.ev v).cells hc
    obtain ⟨w', h1, h2⟩ := store_cells (P := P) _ cs w _ rows _ b i off 0 k l gw h hb hl (getD_some g0) hrel g5 (by omega)
    refine wp_skip' (w' := w') ?_ ⟨_, hK, ρ, φ, S, h2.put g1 (.dead _)⟩
    have hsz : (a.eval v).cells.size = ti.size := by rw [← g2, ← hrel.1, Array.length_toList]
    unfold execOp
    simp [ho, Instr.storeAt, hvx, Instr.sureAddr, storeVar, (hT t ti ht).run_size w, hsz, h1]

end Go.Vcg
