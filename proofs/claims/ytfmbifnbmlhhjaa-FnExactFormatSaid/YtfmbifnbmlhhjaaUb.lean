/- The walk: symbolic states and their rules (Ub). -/
import Derived.Test.YtfmbifnbmlhhjaaUa
import Derived.Laws.MakeOwn
import Derived.Laws.AppendOwn
import Derived.Deep.LoopGhost
import Derived.IntWalk
import Derived.OrdersHeld
/- The operations that make a variable or write one. -/
namespace Go.Vcg

variable {w0 : World} {M : Perm} {S0 : Nat → Prop} {ρ : Nat → Option Loc} {φ : Nat → Nat → Prop} {S : Nat → Prop} {st : St} {a : Act} {w : World} {P : Program} {T : Nat → Option TI}

/-- Somewhere behind a step: a state of which K speaks, and which holds. -/
def Nx (w0 : World) (M : Perm) (S0 : Nat → Prop) (K : St → Prop) (a : Act) (w : World) : Prop := ∃ st, K st ∧ Holds w0 M S0 st a w

theorem wp_value {o : Oper} {next : Act → World → Prop} {Q : Exit → Act → World → Prop} {v : Value} {w' : World} (hr : (execOp a.eval o).run P w = .ok (.value v) w') (h : next (a.put o.dst v) w') : o.wp P a w next Q := by
  unfold Oper.wp
  rw [hr]
  exact h
theorem wp_skip' {o : Oper} {next : Act → World → Prop} {Q : Exit → Act → World → Prop} {w' : World} (hr : (execOp a.eval o).run P w = .ok .skip w') (h : next (a.put o.dst undef) w') : o.wp P a w next Q := by
  unfold Oper.wp
  rw [hr]
  exact h

/-- A slot is set, if there is one. -/
def St.put (st : St) (d : Option Nat) (s : SV) : St := match d with
  | some d => st.set d s
  | none => st
def dOk (n : Nat) : Option Nat → Prop
  | some d => d < n
  | none => True
theorem Sim.put (h : Sim w0 M S0 ρ φ S st a w) {d : Option Nat} {v : Value} {s : SV} (hd : dOk st.n d) (hr : Rep ρ S w v s) : Sim w0 M S0 ρ φ S (st.put d s) (a.put d v) w := by
  cases d with
  | none => exact h
  | some d => exact h.setSlot hd hr

/-- pure operations -/
theorem wp_pure (hT : TOk P T) (h : Sim w0 M S0 ρ φ S st a w) {e : Operand → SV} (hev : ∀ x, Rep ρ S w (a.eval x) (e x)) {o : Oper} {sv : SV} {side : Prop} {K : St → Prop} {Q : Exit → Act → World → Prop} (he : pev T st e o.op = some (side, sv)) (hs : side)
    (hd : dOk st.n o.dst) (hK : K (st.put o.dst sv)) : o.wp P a w (Nx w0 M S0 K) Q := by
  obtain ⟨u, h1, h2⟩ := pev_ok hT h hev he hs
  exact wp_value h1 ⟨_, hK, ρ, φ, S, h.put hd h2⟩

/-! ## Cells that are one -/

def SV.one : SV → Bool
  | .pl v => v.oneCell'
  | .pd _ | .sl _ _ _ | .sa _ _ _ _ _ | .pt _ _ _ | .bp _ _ | .nl | .pm _ | .mr _ | .ifc _ _ | .fn _ _ _ => true
  | _ => false
theorem Rep.one {v : Value} {s : SV} (h : Rep ρ S w v s) (hs : s.one = true) : v.oneCell' = true := by
  cases h with
  | per h => cases h <;> first | exact hs | rfl | cases hs
  | _ => first | rfl | cases hs

theorem conSV_kill1 (d : Nat) (v : Value) : (conSV v).kill1 d = conSV v := by unfold conSV; split <;> rfl
theorem conSV_one {v : Value} (h : v.oneCell' = true) : (conSV v).one = true := by
  unfold conSV
  split
  · rfl
  · exact h
theorem map_conSV_kill1 (d : Nat) (vs : List Value) : (vs.map conSV).map (SV.kill1 d) = vs.map conSV := by
  rw [List.map_map]
  exact List.map_congr_left fun v _ => conSV_kill1 d v

theorem not_pin_of_lt {d n : Nat} (h : d < n) (hn : n ≤ 1000000) : ¬ isPin d := fun g => by unfold isPin at g; omega

/-- A variable of these cells is made. -/
theorem Sim.boxNew (h : Sim w0 M S0 ρ φ S st a w) {d : Nat} {arr : Array Value} {row : List SV} (e : TypeId) (hd : d < st.n) (hrel : RelL ρ S w arr.toList row) (hone : row.all SV.one = true) :
    Holds w0 M S0 (((st.kill d).setBlk d (.c row.length [row.map (SV.kill1 d)])).set d (.pt d 0 0)) (a.put (some d) (.pointer (some ⟨w.heap.size, 0, none⟩))) (w.alloc (.cells arr e)) := by
  have hk : ∀ i, i < w.heap.size → (w.alloc (.cells arr e)).heap[i]? = w.heap[i]? := fun i hi => heap_alloc_old w _ i hi
  have hz := rowSize_later hk
  obtain ⟨ρ', φ', h1, h2, h3⟩ := (h.kill d).newBlk (d := d) (st.kill_free d) (not_pin_of_lt hd h.small) ⟨w.heap.size, 0, row.length, 1⟩ rfl (fun _ => False) (.c row.length [row.map (SV.kill1 d)]) (.cells arr e) (fun x hx => hx.elim) fun ρ' hρ hd' => by
    have hr : ∀ (i : Nat) (r : List SV), [row.map (SV.kill1 d)][i]? = some r → i = 0 ∧ r = row.map (SV.kill1 d) := fun i r g => by
      cases i with
      | zero => simp at g; exact ⟨rfl, g.symm⟩
      | succ i => simp at g
    refine .inr ⟨_, hd', rfl, fun o => ?_, fun i r g => by rw [(hr i r g).2]; simp, rfl, fun _ _ _ => False, fun _ _ _ g => g.elim, fun _ _ _ _ _ g => g.elim, fun i r j c g1 g2 => ?_⟩
    · simp only [World.frozen?, heap_alloc_at]; simp
    · obtain ⟨rfl, rfl⟩ := hr i r g1
      rw [List.getElem?_map, Option.map_eq_some_iff] at g2
      obtain ⟨c', g2, rfl⟩ := g2
      have hj : j < arr.toList.length := by rw [hrel.1]; exact (List.getElem?_eq_some_iff.mp g2).1
      have hrep := hrel.2 j _ c' (List.getElem?_eq_getElem hj) g2
      refine ⟨arr.toList[j], ?_, hrep.one (List.all_eq_true.mp hone c' (List.mem_of_getElem? g2)), .inl ?_⟩
      · simp only [World.cell?, Loc.addr, heap_alloc_at]
        have : j < arr.size := by simpa using hj
        simp [this]
      · exact (hrep.kill1 d).mono (fun _ h => h) (fun i hi => hk i (h.sb i hi)) (fun b hb => hρ b (SV.kill1_names hb).1) hz
  refine ⟨ρ', φ', S, h1.setSlot hd ?_⟩
  have := Rep.pt (ρ := ρ') (S := S) (w := w.alloc (.cells arr e)) d 0 0 _ h2
  simpa [Loc.addr] using this

def xAlloc (T : Nat → Option TI) (st : St) (t d : Nat) : Option (Prop × St) := match T t with
  | some ti => some (d < st.n ∧ ti.zero.all Value.oneCell' = true, ((st.kill d).setBlk d (.c ti.zero.length [ti.zero.map conSV])).set d (.pt d 0 0))
  | none => none
theorem xAlloc_ok (hT : TOk P T) (h : Sim w0 M S0 ρ φ S st a w) {o : Oper} {t d : Nat} {side : Prop} {st' : St} {K : St → Prop} {Q : Exit → Act → World → Prop} (ho : o.op = .alloc t) (hd : o.dst = some d) (he : xAlloc T st t d = some (side, st')) (hs : side) (hK : K st') : o.wp P a w (Nx w0 M S0 K) Q := by
  unfold xAlloc at he
  split at he <;> try (cases he; done)
  rename_i ti ht
  obtain ⟨rfl, rfl⟩ := Prod.mk.inj (Option.some.inj he)
  obtain ⟨g1, g2⟩ := hs
  obtain ⟨z, h1, h2⟩ := (hT t ti ht).run_zero
  refine wp_value (v := .pointer (some ⟨w.heap.size, 0, none⟩)) (w' := w.alloc (.cells z.cells t)) ?_ ⟨_, hK, ?_⟩
  · unfold execOp
    simp [ho, Instr.alloc, h1, newVar, newRow]
  · have := h.boxNew (arr := z.cells) (row := ti.zero.map conSV) t g1 (by rw [h2]; exact relL_con _) (by
      rw [List.all_map]
      exact List.all_eq_true.mpr fun v hv => conSV_one (List.all_eq_true.mp g2 v hv))
    rw [map_conSV_kill1, List.length_map] at this
    rw [hd]; exact this

def xBox (st : St) (s : SV) (d : Nat) : Option (Prop × St) := match s.cells with
  | some cs => some (d < st.n ∧ cs.all SV.one = true, ((st.kill d).setBlk d (.c cs.length [cs.map (SV.kill1 d)])).set d (.pt d 0 0))
  | none => none
theorem xBox_ok (h : Sim w0 M S0 ρ φ S st a w) {o : Oper} {t d : Nat} {x : Operand} {side : Prop} {st' : St} {K : St → Prop} {Q : Exit → Act → World → Prop} (ho : o.op = .box t x) (hd : o.dst = some d) (he : xBox st (st.ev x) d = some (side, st')) (hs : side) (hK : K st') : o.wp P a w (Nx w0 M S0 K) Q := by
  unfold xBox at he
  split at he <;> try (cases he; done)
  rename_i cs hc
  obtain ⟨rfl, rfl⟩ := Prod.mk.inj (Option.some.inj he)
  obtain ⟨g1, g2⟩ := hs
  refine wp_value (v := .pointer (some ⟨w.heap.size, 0, none⟩)) (w' := w.alloc (.cells (a.eval x).cells t)) ?_ ⟨_, hK, ?_⟩
  · unfold execOp
    simp [ho, Instr.box, newVar, newRow]
  · rw [hd]
    exact h.boxNew t g1 ((h.ev x).cells hc) g2

/-! ## store -/

theorem Sim.congr {st' : St} (h : Sim w0 M S0 ρ φ S st a w) (hn : st'.n = st.n) (hg : ∀ t, st'.get t = st.get t) (hb : ∀ b, st'.blk b = st.blk b) (hd : st'.df = st.df := by rfl) : Sim w0 M S0 ρ φ S st' a w :=
  h.sub hn (fun t => .inl (hg t)) (fun b r e => by rw [← hb]; exact e) hd

theorem run_storeCell (v : Value) (x : Addr) (hv : v.oneCell' = true) {u : Value} (hc : w.cell? x = some u) (hf : w.frozen? x = false) : (store x v).run P w = .ok () (w.setCell x v) := by
  rw [run_store P w x v _ hv, hc]
  simp [hf]
theorem frozen_setCell (w : World) (x : Addr) (v : Value) (y : Addr) : (w.setCell x v).frozen? y = w.frozen? y := by rw [World.frozen?_setCell]

/-- A cell is written. -/
theorem Sim.storeCell (h : Sim w0 M S0 ρ φ S st a w) {b : Nat} (hw : M.wr b) {l : Loc} {k : Nat} {rows : Rows} {i j : Nat} {r : List SV} {v : Value} {s : SV} (hb : st.blk b = some (.c k rows)) (hl : ρ b = some l) (hi : rows[i]? = some r) (hj : j < r.length)
    (hv : v.oneCell' = true) (hr : Rep ρ S w v s) : Sim w0 M S0 ρ φ S (st.setBlk b (.c k (rows.set i (r.set j s)))) a (w.setCell (l.addr i j) v) := by
  obtain ⟨hk, hcs⟩ := h.cellsAt hb hl
  have hne : st.blk b ≠ none := by rw [hb]; simp
  have hlt := h.heap.lt b _ hne (.inl ⟨l, hl, rfl⟩)
  have hnS := h.heap.notS b _ hne (.inl ⟨l, hl, rfl⟩)
  have hself := h.heap.self b l hne hl
  have hoff : ∀ x, x ≠ l.blk → (w.setCell (l.addr i j) v).heap[x]? = w.heap[x]? := fun x hx => heap_setCell_other w _ v x hx
  have hz : ∀ x, rowSize w x ≤ rowSize (w.setCell (l.addr i j) v) x := fun x => Nat.le_of_eq (rowSize_setCell w _ v x).symm
  have hlen := hcs.len i r hi
  refine h.turn hw hb hl (size_setCell w _ v) hoff (hz _) (.inr ⟨l, hl, hk, fun o => by rw [frozen_setCell]; exact hcs.free o, fun i' r' g => ?_, by simpa using hcs.long, ?_⟩)
  · rw [List.getElem?_set] at g
    by_cases e : i = i'
    · have hir : i < rows.length := (List.getElem?_eq_some_iff.mp hi).1
      rw [if_pos e, if_pos (by omega)] at g
      obtain rfl := Option.some.inj g; rw [List.length_set]; exact hlen
    · rw [if_neg e] at g; exact hcs.len i' r' g
  · obtain ⟨G, e1, e2, e3⟩ := hcs.cell
    have hrest : ∀ (i' : Nat) (r' : List SV) (j' : Nat) (c : SV), rows[i']? = some r' → r'[j']? = some c → ¬ (i' = i ∧ j' = j) → ∃ u, (w.setCell (l.addr i j) v).cell? (l.addr i' j') = some u ∧ u.oneCell' = true ∧ CRep ρ S (w.setCell (l.addr i j) v) u c (G i' j') := fun i' r' j' c g1 g2 hne' => by
      obtain ⟨u, f1, f2, f3⟩ := e3 i' r' j' c g1 g2
      refine ⟨u, ?_, f2, f3.mono (fun _ h => h) (by rw [size_setCell]; exact Nat.le_refl _) (fun x hx _ => hoff x fun e => ?_) h.sb (fun _ _ => rfl) hz fun _ h => h⟩
      · have hj' : j' < l.esz := by have := hcs.len i' r' g1; have := (List.getElem?_eq_some_iff.mp g2).1; omega
        rw [World.cell?_setCell_other _ _ _ _ ?_]
        · exact f1
        · unfold Loc.addr
          intro e
          have e := congrArg Addr.off e
          simp only at e
          rw [hlen] at hj
          rcases Nat.lt_trichotomy i i' with g | g | g
          · have : (i + 1) * l.esz ≤ i' * l.esz := Nat.mul_le_mul_right _ g
            rw [Nat.succ_mul] at this
            omega
          · subst g; exact hne' ⟨rfl, by omega⟩
          · have : (i' + 1) * l.esz ≤ i * l.esz := Nat.mul_le_mul_right _ g
            rw [Nat.succ_mul] at this
            omega
      · rcases hx with hx | hx
        · exact hnS (e ▸ hx)
        · exact hself (e ▸ e1 _ _ x hx)
    refine ⟨fun p q x => (if p = i ∧ q = j then False else G p q x), fun p q x g => ?_, fun p q p' q' x g1 g2 => ?_, fun i' r' j' c g1 g2 => ?_⟩
    · dsimp only at g
      split at g
      · exact g.elim
      · exact e1 p q x g
    · dsimp only at g1 g2
      split at g1
      · exact g1.elim
      · split at g2
        · exact g2.elim
        · exact e2 _ _ _ _ x g1 g2
    · rw [List.getElem?_set] at g1
      by_cases ep : i = i'
      · subst ep
        have hir : i < rows.length := (List.getElem?_eq_some_iff.mp hi).1
        rw [if_pos rfl, if_pos hir] at g1
        obtain rfl := Option.some.inj g1
        rw [List.getElem?_set] at g2
        by_cases eq : j = j'
        · subst eq
          rw [if_pos rfl, if_pos hj] at g2
          obtain rfl := Option.some.inj g2
          obtain ⟨u, f1, _, _⟩ := e3 i r j _ hi (List.getElem?_eq_getElem hj)
          exact ⟨v, World.cell?_setCell_same w _ _ f1, hv, .inl (hr.mono (fun _ h => h) (fun x hx => hoff x fun e => hnS (e ▸ hx)) (fun _ _ => rfl) hz)⟩
        · rw [if_neg eq] at g2
          have hn : ¬ (i = i ∧ j' = j) := fun g => eq g.2.symm
          obtain ⟨u, f1, f2, f3⟩ := hrest i r j' c hi g2 hn
          refine ⟨u, f1, f2, ?_⟩
          have : (fun x => if i = i ∧ j' = j then False else G i j' x) = G i j' := funext fun x => if_neg hn
          show CRep ρ S _ u c (fun x => if i = i ∧ j' = j then False else G i j' x)
          rw [this]; exact f3
      · rw [if_neg ep] at g1
        have hn : ¬ (i' = i ∧ j' = j) := fun g => ep g.1.symm
        obtain ⟨u, f1, f2, f3⟩ := hrest i' r' j' c g1 g2 hn
        refine ⟨u, f1, f2, ?_⟩
        have : (fun x => if i' = i ∧ j' = j then False else G i' j' x) = G i' j' := funext fun x => if_neg hn
        show CRep ρ S _ u c (fun x => if i' = i ∧ j' = j then False else G i' j' x)
        rw [this]; exact f3

theorem store_cells (vs : List Value) : ∀ (cs : List SV) (w : World) (st : St) (rows : Rows) (row : List SV) (b i off k kk : Nat) (l : Loc), M.wr b → Sim w0 M S0 ρ φ S st a w → st.blk b = some (.c kk rows) → ρ b = some l → rows[i]? = some row → RelL ρ S w vs cs → cs.all SV.one = true →
    off + k + cs.length ≤ row.length → ∃ w', (storeCells (l.addr i off) vs k).run P w = .ok () w' ∧ Sim w0 M S0 ρ φ S (st.setBlk b (.c kk (rows.set i (putAt row (off + k) cs)))) a w' := by
  induction vs with
  | nil =>
    intro cs w st rows row b i off k kk l hw h hb hl hi hr _ _
    have : cs = [] := List.length_eq_zero_iff.mp hr.1.symm
    subst this
    refine ⟨w, rfl, h.congr rfl (fun _ => rfl) (fun x => ?_)⟩
    rw [St.blk_setBlk]
    split
    · rename_i e
      subst e
      rw [hb, putAt]
      obtain ⟨hlt, rfl⟩ := List.getElem?_eq_some_iff.mp hi
      rw [List.set_getElem_self]
    · rfl
  | cons v vs ih =>
    intro cs w st rows row b i off k kk l hw h hb hl hi hr hone hlen
    cases cs with
    | nil => simp [RelL] at hr
    | cons c cs =>
      simp only [List.length_cons] at hlen
      simp only [List.all_cons, Bool.and_eq_true] at hone
      have hv := hr.2 0 v c rfl rfl
      have hj : off + k < row.length := by omega
      obtain ⟨_, hbx⟩ := h.cellsAt hb hl
      have hne : st.blk b ≠ none := by rw [hb]; simp
      have hnS := h.heap.notS b _ hne (.inl ⟨l, hl, rfl⟩)
      obtain ⟨u, g1, _, _⟩ := hbx.at hi (List.getElem?_eq_getElem hj)
      have h1 := h.storeCell hw hb hl hi hj (hv.one hone.1) hv
      have hrel : RelL ρ S (w.setCell (l.addr i (off + k)) v) vs cs := by
        refine ⟨by have := hr.1; simpa using this, fun i' u d e1 e2 => (hr.2 (i' + 1) u d e1 e2).mono (fun _ hi => hi) (fun x hx => heap_setCell_other w _ v x fun e => hnS (by rw [← show (l.addr i (off + k)).block = l.blk from rfl, ← e]; exact hx)) (fun _ _ => rfl) fun x => Nat.le_of_eq (rowSize_setCell w _ v x).symm⟩
      have hlt : i < rows.length := (List.getElem?_eq_some_iff.mp hi).1
      obtain ⟨w', h2, h3⟩ := ih cs _ _ (rows.set i (row.set (off + k) c)) (row.set (off + k) c) b i off (k + 1) kk l hw h1 (by rw [St.blk_setBlk, if_pos rfl]) hl (by simp [hlt]) hrel hone.2 (by simp; omega)
      refine ⟨w', ?_, h3.congr rfl (fun _ => rfl) (fun x => ?_)⟩
      · have ha : Addr.add (l.addr i off) k = l.addr i (off + k) := by unfold Loc.addr; rw [Addr.add_lit, Nat.add_assoc]
        have hs := run_storeCell (P := P) v (l.addr i (off + k)) (hv.one hone.1) g1 (hbx.free _)
        simp only [storeCells, Sem.run_bind, ha, hs, Result.andThen_ok]
        exact h2
      · simp only [St.blk_setBlk, putAt, List.set_set]
        split
        · rfl
        · rfl

def xStore (T : Nat → Option TI) (wr : Nat → Prop) (st : St) (t : Nat) (x v : SV) (d : Option Nat) : Option (Prop × St) := match T t, x with
  | some ti, .pt b i off => match st.blk b, v.cells with
    | some (.c k rows), some cs => some (wr b ∧ dOk st.n d ∧ i < rows.length ∧ cs.length = ti.size ∧ off + cs.length ≤ (rows.getD i []).length ∧ cs.all SV.one = true, (st.setBlk b (.c k (rows.set i (putAt (rows.getD i []) off cs)))).put d .dead)
    | _, _ => none
  | _, _ => none
theorem xStore_ok (hT : TOk P T) (h : Sim w0 M S0 ρ φ S st a w) {o : Oper} {t : Nat} {x v : Operand} {side : Prop} {st' : St} {K : St → Prop} {Q : Exit → Act → World → Prop} (ho : o.op = .store t x v) (he : xStore T M.wr st t (st.ev x) (st.ev v) o.dst = some (side, st')) (hs : side) (hK : K st') : o.wp P a w (Nx w0 M S0 K) Q := by
  unfold xStore at he
  split at he <;> try (cases he; done)
  rename_i ti b i off ht hx
  split at he <;> try (cases he; done)
  rename_i k rows cs hb hc
  obtain ⟨rfl, rfl⟩ := Prod.mk.inj (Option.some.inj he)
  obtain ⟨gw, g1, g0, g2, g3, g5⟩ := hs
  have hrx := h.ev x
  rw [hx] at hrx
  generalize hvx : a.eval x = vx at hrx
  cases hrx with
  | per h => cases h
  | pt _ _ _ l hl =>
    have hrel := (h.ev v).cells hc
    obtain ⟨w', h1, h2⟩ := store_cells (P := P) _ cs w _ rows _ b i off 0 k l gw h hb hl (getD_some g0) hrel g5 (by omega)
    refine wp_skip' (w' := w') ?_ ⟨_, hK, ρ, φ, S, h2.put g1 (.dead _)⟩
    have hsz : (a.eval v).cells.size = ti.size := by rw [← g2, ← hrel.1, Array.length_toList]
    unfold execOp
    simp [ho, Instr.storeAt, hvx, Instr.sureAddr, storeVar, (hT t ti ht).run_size w, hsz, h1]

end Go.Vcg
/- Rows, laid flat; make; where the elements of append and copy come from. -/
namespace Go.Vcg

variable {w0 : World} {M : Perm} {S0 : Nat → Prop} {ρ : Nat → Option Loc} {φ : Nat → Nat → Prop} {S : Nat → Prop} {st : St} {a : Act} {w : World} {P : Program} {T : Nat → Option TI}

/-- Buffers of numbers; arrays of numbers; the bytes of a text. -/
def encI (k : IntKind) (xs : List Int) : Rows := xs.map fun x => [.pl (.int k x)]
def encA (k : IntKind) (xs : List Int) : List SV := xs.map fun x => .pl (.int k x)
def bytesOf (s : ByteArray) : List Int := s.data.toList.map fun b => (b.toNat : Int)
def byteRows (s : ByteArray) : Rows := encI .u8 (bytesOf s)

/-- These values, one behind the other, are rows of so many cells. -/
structure Flat (ρ : Nat → Option Loc) (S : Nat → Prop) (w : World) (esz : Nat) (vs : List Value) (rows : Rows) (F : Nat → Prop) : Prop where
  len : vs.length = rows.length * esz
  row : ∀ (i : Nat) (r : List SV), rows[i]? = some r → r.length = esz
  one : ∀ v ∈ vs, v.oneCell' = true
  cell : ∃ G : Nat → Nat → Nat → Prop, (∀ i j x, G i j x → F x) ∧ (∀ i j i' j' x, G i j x → G i' j' x → i = i' ∧ j = j') ∧
    ∀ (i : Nat) (r : List SV) (j : Nat) (c : SV), rows[i]? = some r → r[j]? = some c → ∃ v, vs[i * esz + j]? = some v ∧ CRep ρ S w v c (G i j)

theorem Flat.plain {esz : Nat} {vs : List Value} {rows : Rows} {F : Nat → Prop} (h1 : vs.length = rows.length * esz) (h2 : ∀ (i : Nat) (r : List SV), rows[i]? = some r → r.length = esz) (h3 : ∀ v ∈ vs, v.oneCell' = true)
    (h4 : ∀ (i : Nat) (r : List SV) (j : Nat) (c : SV), rows[i]? = some r → r[j]? = some c → ∃ v, vs[i * esz + j]? = some v ∧ Rep ρ S w v c) : Flat ρ S w esz vs rows F :=
  ⟨h1, h2, h3, fun _ _ _ => False, fun _ _ _ g => g.elim, fun _ _ _ _ _ g => g.elim, fun i r j c g1 g2 => let ⟨v, e1, e2⟩ := h4 i r j c g1 g2; ⟨v, e1, .inl e2⟩⟩

theorem Flat.append {esz : Nat} {vs us : List Value} {r1 r2 : Rows} {F1 F2 F : Nat → Prop} (h1 : Flat ρ S w esz vs r1 F1) (h2 : Flat ρ S w esz us r2 F2) (hd : ∀ x, F1 x → ¬ F2 x) (hF : ∀ x, F1 x ∨ F2 x → F x) : Flat ρ S w esz (vs ++ us) (r1 ++ r2) F := by
  obtain ⟨G1, a1, a2, a3⟩ := h1.cell
  obtain ⟨G2, b1, b2, b3⟩ := h2.cell
  refine ⟨by simp [h1.len, h2.len, Nat.add_mul], fun i r hr => ?_, fun v hv => ?_, fun i j x => if i < r1.length then G1 i j x else G2 (i - r1.length) j x, fun i j x g => ?_, fun i j i' j' x g g' => ?_, fun i r j c hr hj => ?_⟩
  · rw [List.getElem?_append] at hr
    split at hr
    · exact h1.row i r hr
    · exact h2.row _ r hr
  · rcases List.mem_append.mp hv with hv | hv
    · exact h1.one v hv
    · exact h2.one v hv
  · dsimp only at g
    split at g
    · exact hF x (.inl (a1 _ _ x g))
    · exact hF x (.inr (b1 _ _ x g))
  · dsimp only at g g'
    split at g <;> split at g'
    · exact a2 _ _ _ _ x g g'
    · exact absurd (b1 _ _ x g') (hd x (a1 _ _ x g))
    · exact absurd (b1 _ _ x g) (hd x (a1 _ _ x g'))
    · have := b2 _ _ _ _ x g g'; omega
  · rw [List.getElem?_append] at hr
    split at hr
    · rename_i hi
      obtain ⟨v, g1, g2⟩ := a3 i r j c hr hj
      refine ⟨v, ?_, ?_⟩
      · rw [List.getElem?_append_left (List.getElem?_eq_some_iff.mp g1).1]
        exact g1
      · have : (fun x => if i < r1.length then G1 i j x else G2 (i - r1.length) j x) = G1 i j := funext fun x => if_pos hi
        show CRep ρ S w v c (fun x => if i < r1.length then G1 i j x else G2 (i - r1.length) j x)
        rw [this]; exact g2
    · rename_i hi
      obtain ⟨v, g1, g2⟩ := b3 _ r j c hr hj
      refine ⟨v, ?_, ?_⟩
      · have e : i * esz + j = vs.length + ((i - r1.length) * esz + j) := by
          rw [h1.len]
          have : i = r1.length + (i - r1.length) := by omega
          rw [this, Nat.add_mul]
          simp
          omega
        rw [e, List.getElem?_append_right (by omega)]
        simpa using g1
      · have : (fun x => if i < r1.length then G1 i j x else G2 (i - r1.length) j x) = G2 (i - r1.length) j := funext fun x => if_neg hi
        show CRep ρ S w v c (fun x => if i < r1.length then G1 i j x else G2 (i - r1.length) j x)
        rw [this]; exact g2

theorem Flat.later {esz : Nat} {vs : List Value} {rows : Rows} {F : Nat → Prop} {w' : World} (h : Flat ρ S w esz vs rows F) (hsz : w.heap.size ≤ w'.heap.size) (hw : ∀ i, S i ∨ F i → i < w.heap.size → w'.heap[i]? = w.heap[i]?) (hb : ∀ i, S i → i < w.heap.size) (hz : ∀ x, rowSize w x ≤ rowSize w' x) : Flat ρ S w' esz vs rows F := by
  obtain ⟨G, e1, e2, e3⟩ := h.cell
  refine ⟨h.len, h.row, h.one, G, e1, e2, fun i r j c g1 g2 => ?_⟩
  obtain ⟨v, f1, f2⟩ := e3 i r j c g1 g2
  exact ⟨v, f1, f2.mono (fun _ h => h) hsz (fun x hx => hw x (hx.imp id (e1 i j x))) hb (fun _ _ => rfl) hz fun _ h => h⟩

/-- Flat rows in a new block, under a free name. -/
theorem Sim.bufNew (h : Sim w0 M S0 ρ φ S st a w) {d cap esz : Nat} {vs rest : List Value} {rows : Rows} (e : TypeId) (hd : d < st.n) (F : Nat → Prop) (hF : ∀ x, F x → ¬ S x ∧ x < w.heap.size ∧ (M x ∨ w0.heap.size ≤ x) ∧ ∀ b, st.blk b ≠ none → b ≠ d → ¬ owns ρ φ b x)
    (hf : Flat ρ S w esz vs rows F) (hc : rows.length ≤ cap) (hr : cap * esz ≤ vs.length + rest.length) (arr : Array Value) (harr : arr.toList = vs ++ rest) :
    Holds w0 M S0 (((st.kill d).setBlk d (.c esz (killRows d rows))).set d (.sl d 0 rows.length)) (a.put (some d) (.slice (some ⟨w.heap.size, 0, none⟩) rows.length cap)) (w.alloc (.cells arr e)) := by
  have hk : ∀ i, i < w.heap.size → (w.alloc (.cells arr e)).heap[i]? = w.heap[i]? := fun i hi => heap_alloc_old w _ i hi
  have hz := rowSize_later hk
  obtain ⟨ρ', φ', h1, h2, h3⟩ := (h.kill d).newBlk (d := d) (st.kill_free d) (not_pin_of_lt hd h.small) ⟨w.heap.size, 0, esz, rows.length⟩ rfl F (.c esz (killRows d rows)) (.cells arr e)
    (fun x hx => let ⟨a1, a2, a3, a4⟩ := hF x hx; ⟨a1, a2, a3, fun b hb => a4 b (blk_kill_has hb).2 (blk_kill_has hb).1⟩) fun ρ' hρ hd' => by
    obtain ⟨G, e1, e2, e3⟩ := hf.cell
    refine .inr ⟨_, hd', rfl, fun o => ?_, fun i r g => ?_, by unfold killRows; simp, G, e1, e2, fun i r j c g1 g2 => ?_⟩
    · simp only [World.frozen?, heap_alloc_at]; simp
    · obtain ⟨r', g', rfl⟩ := killRows_get g
      simpa using hf.row i r' g'
    · obtain ⟨r', g3, rfl⟩ := killRows_get g1
      rw [List.getElem?_map, Option.map_eq_some_iff] at g2
      obtain ⟨c', g4, rfl⟩ := g2
      obtain ⟨v, f1, f2⟩ := e3 i r' j c' g3 g4
      refine ⟨v, ?_, hf.one v (List.mem_of_getElem? f1), (f2.kill1 d).mono (fun _ h => h) (by rw [size_alloc]; omega) (fun i hi hi' => hk i hi') h.sb (fun b hb => hρ b (SV.kill1_names hb).1) hz fun _ h => h⟩
      have : arr[i * esz + j]? = some v := by
        rw [← Array.getElem?_toList, harr, List.getElem?_append_left (List.getElem?_eq_some_iff.mp f1).1]
        exact f1
      simp only [World.cell?, Loc.addr, heap_alloc_at]
      simpa using this
  refine ⟨ρ', φ', S, h1.setSlot hd ?_⟩
  have hrs : rowSize (w.alloc (.cells arr e)) w.heap.size = arr.size := by unfold rowSize; rw [heap_alloc_at]
  have hlen : arr.size = vs.length + rest.length := by rw [← Array.length_toList, harr]; simp
  have := Rep.sl (ρ := ρ') (S := S) (w := w.alloc (.cells arr e)) d 0 rows.length cap ⟨w.heap.size, 0, esz, rows.length⟩ h2 hc (by simp) (by
    show 0 + (0 + cap) * esz ≤ rowSize _ w.heap.size
    rw [hrs, hlen]
    simpa using hr)
  simpa [Loc.addr] using this

theorem killRows_con (d : Nat) (n : Nat) (vs : List Value) : killRows d (List.replicate n (vs.map conSV)) = List.replicate n (vs.map conSV) := by
  unfold killRows
  rw [List.map_replicate, map_conSV_kill1]

/-! ## make -/

def xMake (T : Nat → Option TI) (st : St) (t : Nat) (l c : SV) (d : Nat) : Option (Prop × St) := match T t, l, c with
  | some ti, .pl (.int _ n), .pl (.int _ m) => match ti.k with
    | .slice e => match T e with
      | some ei => some (d < st.n ∧ n = m ∧ 0 ≤ n ∧ n ≤ 140737488355328 ∧ (ei.bytes : Int) * n ≤ 140737488355328 ∧ ei.zero.length = ei.size ∧ 0 < ei.size ∧ ei.zero.all Value.oneCell' = true,
          ((st.kill d).setBlk d (.c ei.size (List.replicate n.toNat (ei.zero.map conSV)))).set d (.sl d 0 n.toNat))
      | none => none
    | _ => none
  | _, _, _ => none

theorem madeCells_at (z : Array Value) (k n i : Nat) (hz : 0 < z.size) (hi : i < k) (h : k = n) : (madeCells z n).toList[i]? = z.toList[i % z.size]? := by
  subst h
  unfold madeCells
  simp only [Array.toList_map, Array.toList_range, List.getElem?_map, List.getElem?_range hi, Option.map_some]
  have : i % z.size < z.size := Nat.mod_lt _ hz
  rw [getElem!_pos z _ this]
  simp [this]

theorem xMake_ok (hT : TOk P T) (h : Sim w0 M S0 ρ φ S st a w) {o : Oper} {t d : Nat} {l c : Operand} {side : Prop} {st' : St} {K : St → Prop} {Q : Exit → Act → World → Prop} (ho : o.op = .makeSlice t l c) (hd : o.dst = some d) (he : xMake T st t (st.ev l) (st.ev c) d = some (side, st')) (hs : side) (hK : K st') : o.wp P a w (Nx w0 M S0 K) Q := by
  unfold xMake at he
  split at he <;> try (cases he; done)
  rename_i ti k n k' m ht hl hc
  split at he <;> try (cases he; done)
  rename_i e hk
  split at he <;> try (cases he; done)
  rename_i ei hei
  obtain ⟨rfl, rfl⟩ := Prod.mk.inj (Option.some.inj he)
  obtain ⟨g1, rfl, g2, g3, g4, g5, g6, g7⟩ := hs
  have hrl := h.ev l
  rw [hl] at hrl
  have hrc := h.ev c
  rw [hc] at hrc
  obtain ⟨dd, u1, u2⟩ := (hT t ti ht).und
  rw [hk] at u2
  obtain rfl := tk_slice u2
  obtain ⟨i, z, z1, z2, z3, z4, z5⟩ := (hT e ei hei).parts
  have hzs : z.cells.size = ei.size := by rw [← g5, ← z3, Array.length_toList]
  have hrun := run_make (P := P) w t e i z u1 z1 z2 k k' n n g2 (Int.le_refl _) (by rw [z5]; omega) (by omega)
  refine wp_value (v := .slice (some ⟨w.heap.size, 0, none⟩) n.toNat n.toNat) (w' := w.alloc (.cells (madeCells z.cells (n.toNat * i.size)) e)) (by unfold execOp; simp [ho, hrl.pl_eq, hrc.pl_eq, hrun]) ⟨_, hK, ?_⟩
  rw [hd]
  have hsz : (madeCells z.cells (n.toNat * i.size)).toList.length = n.toNat * ei.size := by rw [Array.length_toList, size_madeCells, z4]
  have := h.bufNew (esz := ei.size) (d := d) (cap := n.toNat) (vs := (madeCells z.cells (n.toNat * i.size)).toList) (rest := []) (rows := List.replicate n.toNat (ei.zero.map conSV)) e g1 (fun _ => False) (fun x hx => hx.elim) (.plain ?_ (fun i r hr => ?_) (fun v hv => ?_) (fun i' r j cc hr hj => ?_)) (by simp) (by rw [hsz]; exact Nat.le_refl _) (madeCells z.cells (n.toNat * i.size)) (by simp)
  · rw [killRows_con, List.length_replicate] at this
    exact this
  · rw [hsz]; simp
  · rw [List.getElem?_replicate] at hr
    split at hr <;> simp at hr
    subst hr
    simp [g5]
  · obtain ⟨idx, hidx, rfl⟩ := List.getElem_of_mem hv
    have := madeCells_at z.cells (n.toNat * ei.size) (n.toNat * i.size) idx (by omega) (by rw [← hsz]; exact hidx) (by rw [z4])
    rw [List.getElem?_eq_getElem hidx, z3] at this
    exact List.all_eq_true.mp g7 _ (List.mem_of_getElem? this.symm)
  · rw [List.getElem?_replicate] at hr
    split at hr
    · rename_i hlt
      simp only [Option.some.injEq] at hr
      subst hr
      rw [List.getElem?_map, Option.map_eq_some_iff] at hj
      obtain ⟨v, hv, rfl⟩ := hj
      have hj2 : j < ei.size := by rw [← g5]; exact (List.getElem?_eq_some_iff.mp hv).1
      refine ⟨v, ?_, .per (conSV_rep S w v)⟩
      have hb : i' * ei.size + j < n.toNat * ei.size := by
        have : (i' + 1) * ei.size ≤ n.toNat * ei.size := Nat.mul_le_mul_right _ hlt
        rw [Nat.succ_mul] at this
        omega
      rw [madeCells_at z.cells (n.toNat * ei.size) (n.toNat * i.size) _ (by omega) hb (by rw [z4]), hzs, Nat.mul_add_mod_of_lt hj2, z3]
      exact hv
    · cases hr

/-! ## Sources -/

/-- Cells that may be there twice. -/
def SV.dup0 : SV → Bool
  | .ow _ _ | .bo _ | .mo _ | .ag _ | .tu _ | .ifc _ _ => false
  | _ => true
def SV.dup : SV → Bool
  | .ifc _ s => s.dup0
  | s => s.dup0
def dupRows (rows : Rows) : Bool := rows.all fun r => r.all SV.dup
theorem CRep.dup {F : Nat → Prop} {v : Value} {c : SV} (h : CRep ρ S w v c F) (hc : c.dup = true) : Rep ρ S w v c := by
  rcases h with h | h
  · exact h
  · cases h with
    | per h => exact .per h
    | ifc t h => cases h with
      | per h => exact .ifc t (.per h)
      | _ => cases hc
    | _ => cases hc
theorem dupRows_get {rows : Rows} (h : dupRows rows = true) {i : Nat} {r : List SV} {j : Nat} {c : SV} (h1 : rows[i]? = some r) (h2 : r[j]? = some c) : c.dup = true := by
  simp only [dupRows, List.all_eq_true] at h
  exact h r (List.mem_of_getElem? h1) c (List.mem_of_getElem? h2)

theorem src_cells {blk off esz : Nat} {rows : Rows} {F : Nat → Prop} (hlen : ∀ (i : Nat) (r : List SV), rows[i]? = some r → r.length = esz)
    (hcell : ∃ G : Nat → Nat → Nat → Prop, (∀ i j x, G i j x → F x) ∧ (∀ i j i' j' x, G i j x → G i' j' x → i = i' ∧ j = j') ∧ ∀ (i : Nat) (r : List SV) (j : Nat) (c : SV), rows[i]? = some r → r[j]? = some c → ∃ v, w.cell? ⟨blk, off + i * esz + j, none⟩ = some v ∧ v.oneCell' = true ∧ CRep ρ S w v c (G i j)) :
    ∃ vs, Flat ρ S w esz vs rows F ∧ ∀ (m : Nat) (w' : World), m ≤ rows.length → w'.heap = w.heap → (loadCells ⟨blk, off, none⟩ (m * esz)).run P w' = .ok (vs.take (m * esz)).toArray w' := by
  obtain ⟨G, G1, G2, hcell⟩ := hcell
  let f : Nat → Value := fun q => (w.cell? ⟨blk, off + q, none⟩).getD undef
  have hq : ∀ q, q < rows.length * esz → ∃ v, w.cell? ⟨blk, off + q, none⟩ = some v ∧ v.oneCell' = true := fun q hq => by
    have he : 0 < esz := by
      rcases Nat.eq_zero_or_pos esz with h | h
      · rw [h] at hq; simp at hq
      · exact h
    have hi : q / esz < rows.length := (Nat.div_lt_iff_lt_mul he).mpr hq
    have hj : q % esz < esz := Nat.mod_lt _ he
    have hr := getD_some hi
    have hl := hlen _ _ hr
    obtain ⟨v, h1, h2, _⟩ := hcell _ _ (q % esz) _ hr (List.getElem?_eq_getElem (by rw [hl]; exact hj))
    refine ⟨v, ?_, h2⟩
    rw [← h1, Nat.add_assoc]
    congr 2
    have := Nat.div_add_mod q esz
    rw [Nat.mul_comm] at this
    omega
  refine ⟨(List.range (rows.length * esz)).map f, ⟨by simp, hlen, fun v hv => ?_, G, G1, G2, fun i r j c hr hj => ?_⟩, fun m w' hm hw' => ?_⟩
  · obtain ⟨q, hq', rfl⟩ := List.mem_map.mp hv
    obtain ⟨v, h1, h2⟩ := hq q (by simpa using hq')
    show ((w.cell? ⟨blk, off + q, none⟩).getD undef).oneCell' = true
    rw [h1]
    exact h2
  · obtain ⟨v, h1, _, h3⟩ := hcell i r j c hr hj
    refine ⟨v, ?_, h3⟩
    have hi : i < rows.length := (List.getElem?_eq_some_iff.mp hr).1
    have hj' : j < esz := by rw [← hlen i r hr]; exact (List.getElem?_eq_some_iff.mp hj).1
    have hb : i * esz + j < rows.length * esz := by
      have : (i + 1) * esz ≤ rows.length * esz := Nat.mul_le_mul_right _ hi
      rw [Nat.succ_mul] at this
      omega
    rw [List.getElem?_map, List.getElem?_range hb]
    show some ((w.cell? ⟨blk, off + (i * esz + j), none⟩).getD undef) = some v
    rw [← Nat.add_assoc, h1]
    rfl
  · have hle : m * esz ≤ rows.length * esz := Nat.mul_le_mul_right _ hm
    rw [← List.map_take, List.take_range, Nat.min_eq_left hle]
    refine run_loadCells w' ⟨blk, off, none⟩ (m * esz) f fun j hj => ?_
    obtain ⟨v, h1, _⟩ := hq j (by omega)
    rw [Addr.add_lit]
    show w'.cell? ⟨blk, off + j, none⟩ = some ((w.cell? ⟨blk, off + j, none⟩).getD undef)
    rw [h1, cell_congr (w := w) (by rw [hw'])]
    exact h1

/-- Rows of a block, from row i on. -/
theorem CellsAt.src {F : Nat → Prop} {l : Loc} {rows : Rows} (h : CellsAt ρ S w l rows F) (i n : Nat) (hi : i + n ≤ rows.length) :
    ∃ vs, Flat ρ S w l.esz vs ((rows.drop i).take n) F ∧ ∀ (m : Nat) (w' : World), m ≤ n → w'.heap = w.heap → (loadCells (l.addr i 0) (m * l.esz)).run P w' = .ok (vs.take (m * l.esz)).toArray w' := by
  have hn : ((rows.drop i).take n).length = n := by rw [List.length_take, List.length_drop]; omega
  have hget : ∀ (i' : Nat) (r : List SV), ((rows.drop i).take n)[i']? = some r → rows[i + i']? = some r := fun i' r g1 => by
    rw [List.getElem?_take] at g1
    split at g1
    · rw [List.getElem?_drop] at g1; exact g1
    · cases g1
  obtain ⟨G, e1, e2, e3⟩ := h.cell
  obtain ⟨vs, h1, h2⟩ := src_cells (P := P) (ρ := ρ) (S := S) (w := w) (blk := l.blk) (off := l.base + i * l.esz + 0) (esz := l.esz) (rows := (rows.drop i).take n) (F := F) (fun i' r g => h.len _ r (hget i' r g))
    ⟨fun i' j => G (i + i') j, fun i' j x g => e1 _ _ x g, fun p q p' q' x g1 g2 => by have := e2 _ _ _ _ x g1 g2; omega, fun i' r j c g1 g2 => by
      obtain ⟨v, f1, f2, f3⟩ := e3 _ r j c (hget i' r g1) g2
      refine ⟨v, ?_, f2, f3⟩
      rw [← f1]
      congr 2
      show l.base + i * l.esz + 0 + i' * l.esz + j = l.base + (i + i') * l.esz + j
      rw [Nat.add_mul]; omega⟩
  rw [hn] at h2
  exact ⟨vs, h1, h2⟩

theorem Flat.dup {esz : Nat} {vs : List Value} {rows : Rows} {F F' : Nat → Prop} (h : Flat ρ S w esz vs rows F) (hd : dupRows rows = true) : Flat ρ S w esz vs rows F' := by
  obtain ⟨G, _, _, e3⟩ := h.cell
  refine .plain h.len h.row h.one fun i r j c g1 g2 => ?_
  obtain ⟨v, f1, f2⟩ := e3 i r j c g1 g2
  exact ⟨v, f1, f2.dup (dupRows_get hd g1 g2)⟩

/-- All rows have so many cells. -/
theorem flat_nil (k : Nat) {F : Nat → Prop} : Flat ρ S w k [] [] F := .plain (by simp) (fun i r h => by simp at h) (fun v h => by simp at h) (fun i r j c h => by simp at h)

/-- The rows that an operand brings, and what must hold of them. -/
def srcRows (T : Nat → Option TI) (st : St) (k : Nat) (t : Nat) (x : SV) : Option (Prop × Rows) := match T t with
  | some ti => match ti.k, x with
    | .slice _, .pd rows => some (RowsLen rows k, rows)
    | .slice _, .nl => some (True, [])
    | .slice _, .sl b i n => match st.blk b with
      | some (.c k' rows) => some (k' = k ∧ i + n ≤ rows.length ∧ dupRows ((rows.drop i).take n) = true, (rows.drop i).take n)
      | _ => none
    | .slice _, .sa b i o k' n => match st.blk b with
      | some (.c kk rows) => some (k' = k ∧ i < rows.length ∧ o + n * k' ≤ kk ∧ dupRows (chunks ((rows.getD i []).drop o) k' n) = true, chunks ((rows.getD i []).drop o) k' n)
      | _ => none
    | .str, .pl (.string s) => some (k = 1, byteRows s)
    | _, _ => none
  | none => none

/-- What the machine makes of such an operand. -/
structure Src (P : Program) (ρ : Nat → Option Loc) (S : Nat → Prop) (w : World) (k t : Nat) (v : Value) (rows : Rows) (vs : List Value) (F : Nat → Prop) : Prop where
  flat : Flat ρ S w k vs rows F
  first : ∀ (m : Nat) (w' : World), m ≤ rows.length → w'.heap = w.heap → (Builtin.firstCells k m v).run P w' = .ok (vs.take (m * k)).toArray w'
  lenOf : ∀ w' : World, (Builtin.lenOf v).run P w' = .ok rows.length w'
  und : ∃ d, P.underlying t = some d ∧ ∀ k, d ≠ .int k

theorem Flat.take {esz : Nat} {vs : List Value} {rows : Rows} {F : Nat → Prop} (h : Flat ρ S w esz vs rows F) (m : Nat) (hm : m ≤ rows.length) : Flat ρ S w esz (vs.take (m * esz)) (rows.take m) F := by
  have hle : m * esz ≤ rows.length * esz := Nat.mul_le_mul_right _ hm
  obtain ⟨G, e1, e2, e3⟩ := h.cell
  have hg : ∀ (i : Nat) (r : List SV), (rows.take m)[i]? = some r → i < m ∧ rows[i]? = some r := fun i r g => by
    rw [List.getElem?_take] at g
    split at g
    · exact ⟨by assumption, g⟩
    · cases g
  refine ⟨?_, fun i r g => h.row i r (hg i r g).2, fun v hv => h.one v (List.mem_of_mem_take hv), G, e1, e2, fun i r j c g1 g2 => ?_⟩
  · rw [List.length_take, List.length_take, h.len, Nat.min_eq_left hle, Nat.min_eq_left hm]
  · obtain ⟨g3, g4⟩ := hg i r g1
    obtain ⟨v, f1, f2⟩ := e3 i r j c g4 g2
    refine ⟨v, ?_, f2⟩
    have hj : j < esz := by rw [← h.row i r g4]; exact (List.getElem?_eq_some_iff.mp g2).1
    have : (i + 1) * esz ≤ m * esz := Nat.mul_le_mul_right _ g3
    rw [Nat.succ_mul] at this
    rw [List.getElem?_take, if_pos (by omega)]
    exact f1

theorem src_ok (hT : TOk P T) (h : Sim w0 M S0 ρ φ S st a w) {k t : Nat} {v : Value} {x : SV} {rows : Rows} {side : Prop} {F : Nat → Prop} (hr : Rep ρ S w v x) (he : srcRows T st k t x = some (side, rows)) (hs : side) : ∃ vs, Src P ρ S w k t v rows vs F := by
  unfold srcRows at he
  split at he <;> try (cases he; done)
  rename_i ti ht
  obtain ⟨d, u1, u2⟩ := (hT t ti ht).und
  have hnil : ∀ (x : Option Addr) (c : Nat) (m : Nat) (w' : World), m ≤ ([] : Rows).length → (Builtin.firstCells k m (.slice x 0 c)).run P w' = .ok (([] : List Value).take (m * k)).toArray w' := fun x c m w' hm => by
    have hm : m = 0 := by simpa using hm
    subst hm
    cases x <;> simp [Builtin.firstCells, loadCells, loadCellsFrom]
  split at he
  · rename_i e rows' hk
    obtain ⟨rfl, rfl⟩ := Prod.mk.inj (Option.some.inj he)
    rw [hk] at u2; obtain rfl := tk_slice u2
    have hu : ∃ d, P.underlying t = some d ∧ ∀ k, d ≠ .int k := ⟨_, u1, fun k h => by cases h⟩
    cases hr with
    | per hr =>
      cases hr with
      | pd0 x c => exact ⟨[], flat_nil k, fun m w' hm _ => hnil x c m w' hm, fun w' => by simp [Builtin.lenOf], hu⟩
      | pd blk off esz cap _ f hS hc hl hm hrep =>
        by_cases hn : rows' = []
        · subst hn
          exact ⟨[], flat_nil k, fun m w' hm _ => hnil _ _ m w' hm, fun w' => by simp [Builtin.lenOf], hu⟩
        · have hpos : 0 < rows'.length := List.length_pos_iff.mpr hn
          have hesz : esz = k := (hl 0 _ (getD_some hpos)).symm.trans (hs.at (getD_some hpos))
          subst hesz
          obtain ⟨vs, g1, g2⟩ := src_cells (P := P) (ρ := ρ) (S := S) (w := w) (blk := blk) (off := off) (F := F) hl ⟨fun _ _ _ => False, fun _ _ _ g => g.elim, fun _ _ _ _ _ g => g.elim, fun i r j c h1 h2 =>
            ⟨f i j, (hm i r j c h1 h2).1, (hm i r j c h1 h2).2, .inl (.per (hrep i r j c h1 h2))⟩⟩
          exact ⟨vs, g1, fun m w' hm hw' => g2 m w' hm hw', fun w' => by simp [Builtin.lenOf], hu⟩
  · rename_i e hk
    obtain ⟨rfl, rfl⟩ := Prod.mk.inj (Option.some.inj he)
    rw [hk] at u2; obtain rfl := tk_slice u2
    obtain rfl := hr.nl_eq
    exact ⟨[], flat_nil k, fun m w' hm _ => hnil none 0 m w' hm, fun w' => by simp [Builtin.lenOf], ⟨_, u1, fun k h => by cases h⟩⟩
  · rename_i e b i n hk
    split at he <;> try (cases he; done)
    rename_i k' rows' hb
    obtain ⟨rfl, rfl⟩ := Prod.mk.inj (Option.some.inj he)
    obtain ⟨s1, s2, s3⟩ := hs
    rw [hk] at u2; obtain rfl := tk_slice u2
    have hu : ∃ d, P.underlying t = some d ∧ ∀ k, d ≠ .int k := ⟨_, u1, fun k h => by cases h⟩
    have hlen : ((rows'.drop i).take n).length = n := by rw [List.length_take, List.length_drop]; omega
    cases hr with
    | per hr => cases hr
    | sl0 x _ _ =>
      rw [List.take_zero]
      exact ⟨[], flat_nil k, fun m w' hm _ => hnil x 0 m w' hm, fun w' => by simp [Builtin.lenOf], hu⟩
    | sl _ _ _ cap l hl hc hi hz =>
      obtain ⟨hek, hok⟩ := h.cellsAt hb hl
      obtain ⟨vs, g1, g2⟩ := hok.src (P := P) i n s2
      rw [hek, s1] at g1 g2
      exact ⟨vs, g1.dup s3, fun m w' hm hw' => g2 m w' (by rw [hlen] at hm; exact hm) hw', fun w' => by simp [Builtin.lenOf, hlen], hu⟩
  · rename_i e b i o k' n hk
    split at he <;> try (cases he; done)
    rename_i kk rows' hb
    obtain ⟨rfl, rfl⟩ := Prod.mk.inj (Option.some.inj he)
    obtain ⟨s1, s2, s3, s4⟩ := hs
    subst s1
    rw [hk] at u2; obtain rfl := tk_slice u2
    have hu : ∃ d, P.underlying t = some d ∧ ∀ k, d ≠ .int k := ⟨_, u1, fun k h => by cases h⟩
    cases hr with
    | per hr => cases hr
    | sa _ _ _ _ _ cap l hl hc hi ho =>
      obtain ⟨hek, hok⟩ := h.cellsAt hb hl
      have hri := getD_some s2
      have hlr := hok.len i _ hri
      generalize rows'.getD i [] = row at hri hlr s4 ⊢
      obtain ⟨G, e1, e2, e3⟩ := hok.cell
      have hcell : ∀ (p j : Nat) (c : SV), p < n → (((row.drop o).drop (p * k')).take k')[j]? = some c → j < k' ∧ row[o + p * k' + j]? = some c := fun p j c q1 q2 => by
        rw [List.getElem?_take] at q2
        split at q2
        · rename_i hj
          rw [List.getElem?_drop, List.getElem?_drop] at q2
          exact ⟨hj, by rw [← q2]; congr 1; omega⟩
        · cases q2
      obtain ⟨vs, g1, g2⟩ := src_cells (P := P) (ρ := ρ) (S := S) (w := w) (blk := l.blk) (off := l.base + i * l.esz + o) (esz := k') (rows := chunks (row.drop o) k' n) (F := F) (fun p r hr => by
          obtain ⟨q1, rfl⟩ := chunks_get hr
          have : p * k' + k' ≤ n * k' := by rw [← Nat.succ_mul]; exact Nat.mul_le_mul_right _ q1
          simp only [List.length_take, List.length_drop]
          omega)
        ⟨fun _ _ _ => False, fun _ _ _ g => g.elim, fun _ _ _ _ _ g => g.elim, fun p r j c hr hj => by
          have hdup := dupRows_get s4 hr hj
          obtain ⟨q1, rfl⟩ := chunks_get hr
          obtain ⟨q2, q3⟩ := hcell p j c q1 hj
          obtain ⟨v, f1, f2, f3⟩ := e3 i _ _ c hri q3
          refine ⟨v, ?_, f2, .inl (f3.dup hdup)⟩
          rw [← f1]
          congr 2
          show l.base + i * l.esz + o + p * k' + j = l.base + i * l.esz + (o + p * k' + j)
          omega⟩
      rw [chunks_length] at g2
      exact ⟨vs, g1, fun m w' hm hw' => g2 m w' (by rw [chunks_length] at hm; exact hm) hw', fun w' => by simp [Builtin.lenOf, chunks_length], hu⟩
  · rename_i s hk
    obtain ⟨rfl, rfl⟩ := Prod.mk.inj (Option.some.inj he)
    subst hs
    rw [hk] at u2; obtain rfl := tk_str u2
    obtain rfl := hr.pl_eq
    have e1 : (byteRows s).length = s.size := by simp [byteRows, encI, bytesOf]
    refine ⟨s.data.toList.map fun b => .int .u8 b.toNat, .plain (by simp [e1]) (fun i r hr => ?_) (fun v hv => ?_) (fun i r j c hr hj => ?_), fun m w' hm _ => ?_, fun w' => by simp [Builtin.lenOf, e1], ⟨_, u1, fun k h => by cases h⟩⟩
    · unfold byteRows encI at hr
      rw [List.getElem?_map, Option.map_eq_some_iff] at hr
      obtain ⟨b, _, rfl⟩ := hr
      rfl
    · obtain ⟨b, _, rfl⟩ := List.mem_map.mp hv
      rfl
    · unfold byteRows encI bytesOf at hr
      rw [List.getElem?_map, Option.map_eq_some_iff] at hr
      obtain ⟨b, hb, rfl⟩ := hr
      rw [List.getElem?_map, Option.map_eq_some_iff] at hb
      obtain ⟨b, hb, rfl⟩ := hb
      cases j with
      | zero =>
        simp at hj
        subst hj
        exact ⟨_, by rw [List.getElem?_map]; simp at hb ⊢; exact ⟨b, hb, rfl⟩, .per (.pl _)⟩
      | succ j => simp at hj
    · simp only [Builtin.firstCells, Sem.run_pure, Nat.mul_one]
      congr 1
      apply Array.ext'
      simp
  · cases he
end Go.Vcg
/- append, literals of slices, copy. -/
namespace Go.Vcg

variable {w0 : World} {M : Perm} {S0 : Nat → Prop} {ρ : Nat → Option Loc} {φ : Nat → Nat → Prop} {S : Nat → Prop} {st : St} {a : Act} {w : World} {P : Program} {T : Nat → Option TI}

theorem run_storeCells_gen (g o : Nat) (vs : List Value) : ∀ (w : World) (k : Nat), (∀ j, j < vs.length → ∃ u, w.cell? ⟨g, o + (k + j), none⟩ = some u) → (∀ j, w.frozen? ⟨g, j, none⟩ = false) → (∀ v ∈ vs, v.oneCell' = true) →
    ∃ w', (storeCells ⟨g, o, none⟩ vs k).run P w = .ok () w' ∧ w'.heap.size = w.heap.size ∧ (∀ i, i ≠ g → w'.heap[i]? = w.heap[i]?) ∧ (∀ i, rowSize w' i = rowSize w i) ∧ (∀ y, w'.frozen? y = w.frozen? y) ∧
      (∀ j v, vs[j]? = some v → w'.cell? ⟨g, o + (k + j), none⟩ = some v) ∧ (∀ y, (∀ j, j < vs.length → y ≠ ⟨g, o + (k + j), none⟩) → w'.cell? y = w.cell? y) ∧ IOk w w' := by
  induction vs with
  | nil => intro w k _ _ _; exact ⟨w, rfl, rfl, fun _ _ => rfl, fun _ => rfl, fun _ => rfl, fun j v h => by simp at h, fun _ _ => rfl, .refl w⟩
  | cons v vs ih =>
    intro w k hc hf h1
    obtain ⟨u, hu⟩ := hc 0 (by simp)
    simp only [Nat.add_zero] at hu
    have hs := run_storeCell (P := P) v ⟨g, o + k, none⟩ (h1 v (by simp)) hu (hf _)
    obtain ⟨w', g1, g2, g3, g4, g5, g6, g7, g8⟩ := ih (w.setCell ⟨g, o + k, none⟩ v) (k + 1) (fun j hj => by
        obtain ⟨u', hu'⟩ := hc (j + 1) (by simp; omega)
        refine ⟨u', ?_⟩
        rw [World.cell?_setCell_other _ _ _ _ (by simp only [ne_eq, Addr.mk.injEq]; omega), show o + (k + 1 + j) = o + (k + (j + 1)) from by omega]
        exact hu') (fun j => by rw [frozen_setCell]; exact hf j) (fun x hx => h1 x (by simp [hx]))
    refine ⟨w', ?_, by simpa using g2, fun i hi => (g3 i hi).trans (heap_setCell_other w _ v i hi), fun i => (g4 i).trans (rowSize_setCell w _ v i), fun y => (g5 y).trans (frozen_setCell w _ v y), fun j x hx => ?_, fun y hy => ?_, IOk.trans (w' := w.setCell ⟨g, o + k, none⟩ v) ⟨rfl, rfl, rfl⟩ g8⟩
    · simp only [storeCells, Sem.run_bind, Addr.add_lit, hs, Result.andThen_ok]
      exact g1
    · cases j with
      | zero =>
        simp only [List.getElem?_cons_zero, Option.some.injEq] at hx
        subst hx
        rw [g7 _ (fun j _ => by simp only [ne_eq, Addr.mk.injEq]; omega)]
        simp only [Nat.add_zero]
        exact World.cell?_setCell_same w _ _ hu
      | succ j =>
        rw [show o + (k + (j + 1)) = o + (k + 1 + j) from by omega]
        exact g6 j x (by simpa using hx)
    · rw [g7 y (fun j hj => by have := hy (j + 1) (by simp; omega); rw [show o + (k + 1 + j) = o + (k + (j + 1)) from by omega]; exact this)]
      have := hy 0 (by simp)
      simp only [Nat.add_zero] at this
      exact World.cell?_setCell_other _ _ _ _ (fun e => this e.symm)

theorem run_append_in {t tx ty e k n cap m : Nat} {v : Value} {vs : List Value} {base : Option Addr} {i : TypeInfo} (ht : P.underlying t = some (.slice e)) (hx : ∃ d, P.underlying tx = some d ∧ ∀ k, d ≠ .int k) (hi : P.info? e = some i) (hk : i.size = k)
    (hlen : (Builtin.lenOf v).run P w = .ok m w) (hfirst : (Builtin.firstCells k m v).run P w = .ok vs.toArray w) (hc : n + m ≤ cap) :
    (Builtin.append_ #[t, tx] ty #[.slice base n cap, v]).run P w = match base with
      | some x => ((storeCells (x.add (n * k)) vs).run P w).andThen fun _ w' => .ok (.slice base (n + m) cap) w'
      | none => .ok (.slice none (n + m) cap) w := by
  obtain ⟨d, hd, hn⟩ := hx
  cases base with
  | none => simp [Builtin.append_, run_underlying ht, run_underlying hd, sizeOf, typeInfo, hi, hk, hlen, hfirst, hc]
  | some x => simp [Builtin.append_, run_underlying ht, run_underlying hd, sizeOf, typeInfo, hi, hk, hlen, hfirst, hc]

theorem run_append_out {t tx ty e k n cap m : Nat} {v z : Value} {vs olds : List Value} {base : Option Addr} {i : TypeInfo} (ht : P.underlying t = some (.slice e)) (hx : ∃ d, P.underlying tx = some d ∧ ∀ k, d ≠ .int k) (hi : P.info? e = some i) (hk : i.size = k) (hz : i.zero = some z)
    (hlen : (Builtin.lenOf v).run P w = .ok m w) (hfirst : (Builtin.firstCells k m v).run P w.drew = .ok vs.toArray w.drew) (hold : (Builtin.firstCells k n (.slice base n cap)).run P w.drew = .ok olds.toArray w.drew)
    (hc : cap < n + m) (h63 : n + m ≤ 140737488355328) (hfit : (n + m) * i.bytes ≤ 140737488355328) :
    (Builtin.append_ #[t, tx] ty #[.slice base n cap, v]).run P w =
      .ok (.slice (some ⟨w.heap.size, 0, none⟩) (n + m) (grownCap w (n + m) cap e)) (w.drew.alloc (.cells (olds.toArray ++ vs.toArray ++ Builtin.zeroCells z.cells (grownCap w (n + m) cap e - (n + m))) e)) := by
  obtain ⟨d, hd, hn⟩ := hx
  have h1 : ¬ (n + m ≤ cap) := by omega
  have h2 : ¬ (9223372036854775807 < ((n : Int) + (m : Int))) := by omega
  have h3 : ¬ (281474976710656 < Builtin.nextslicecap (n + m) cap * i.bytes) := by have := growslice_fits hc hfit; omega
  simp [Builtin.append_, run_underlying ht, run_underlying hd, sizeOf, typeInfo, zeroValue, hi, hk, hz, hlen, hfirst, hold, h1, h2, h3, Question.forced, newRow, grownCap]
  congr 2
  apply Array.ext'
  simp [List.append_assoc]

def oldRows (wr : Nat → Prop) (st : St) (k : Nat) (s : SV) : Option (Prop × Rows × St) := match s with
  | .nl => some (True, [], st)
  | .sl b i n => match st.blk b with
    | some (.c k' rows) => some (wr b ∧ k' = k ∧ i + n ≤ rows.length, (rows.drop i).take n, st.kill b)
    | _ => none
  | _ => none

def xAppend (T : Nat → Option TI) (wr : Nat → Prop) (st : St) (t tx : Nat) (s x : SV) (d : Nat) : Option (Prop × St) := match T t with
  | some ti => match ti.k with
    | .slice e => match T e with
      | some ei => match oldRows wr st ei.size s, srcRows T st ei.size tx x with
        | some (side0, old, st1), some (side, ys) => some (d < st.n ∧ side0 ∧ side ∧ old.length + ys.length ≤ 140737488355328 ∧ (old.length + ys.length) * ei.bytes ≤ 140737488355328 ∧ 0 < ei.bytes ∧ 0 < ei.size ∧ ei.zero.length = ei.size,
            ((st1.kill d).setBlk d (.c ei.size (killRows d (old ++ ys)))).set d (.sl d 0 (old.length + ys.length)))
        | _, _ => none
      | none => none
    | _ => none
  | none => none

/-- From a slice without room: a new block, or nothing at all. -/
theorem append_fresh {st1 : St} (h1 : Sim w0 M S0 ρ φ S st1 a w) (hn1 : st1.n = st.n) {t tx ty e k d : Nat} {x : Option Addr} {v : Value} {ys : Rows} {vs : List Value} {ei : TI} {i : TypeInfo} {z : Value}
    (ht : P.underlying t = some (.slice e)) (hi : P.info? e = some i) (hz : i.zero = some z) (hzl : z.cells.toList = ei.zero) (hk : i.size = k) (hb : i.bytes = ei.bytes) (hzs : ei.zero.length = k)
    (hsrc : Src P ρ S w k tx v ys vs (fun _ => False)) (hd : d < st.n) (h63 : ys.length ≤ 140737488355328) (hfit : ys.length * ei.bytes ≤ 140737488355328) :
    ∃ u w', (Builtin.append_ #[t, tx] ty #[.slice x 0 0, v]).run P w = .ok u w' ∧ Holds w0 M S0 (((st1.kill d).setBlk d (.c k (killRows d ys))).set d (.sl d 0 ys.length)) (a.put (some d) u) w' := by
  by_cases hm : ys.length = 0
  · have hy : ys = [] := List.length_eq_zero_iff.mp hm
    subst hy
    have hvs : vs = [] := by have := hsrc.flat.len; simp at this; exact this
    subst hvs
    have hrun := run_append_in (P := P) (w := w) (ty := ty) (n := 0) (cap := 0) (base := x) ht hsrc.und hi hk (hsrc.lenOf w) (hsrc.first _ w (Nat.le_refl _) rfl) (by simp)
    obtain ⟨ρ', φ', h2, _⟩ := h1.virtBlk d k (not_pin_of_lt (hn1 ▸ hd) h1.small)
    refine ⟨.slice x 0 0, w, ?_, ρ', φ', S, h2.setSlot (by show d < st1.n; rw [hn1]; exact hd) (.sl0 x d 0)⟩
    rw [hrun]
    cases x <;> simp [storeCells]
  · have hold : (Builtin.firstCells k 0 (.slice x 0 0)).run P w.drew = .ok ([] : List Value).toArray w.drew := by
      cases x <;> simp [Builtin.firstCells, loadCells, loadCellsFrom]
    have hlen := hsrc.flat.len
    have hfirst := hsrc.first ys.length w.drew (Nat.le_refl _) rfl
    rw [← hlen, List.take_length] at hfirst
    have hrun := run_append_out (P := P) (w := w) (ty := ty) (n := 0) (cap := 0) (base := x) (olds := []) ht hsrc.und hi hk hz (hsrc.lenOf w) hfirst hold (by omega) (by omega) (by rw [hb]; simpa using hfit)
    refine ⟨_, _, hrun, ?_⟩
    have hge := grownCap_ge w (0 + ys.length) 0 e
    have hflat : Flat ρ S w.drew k vs ys (fun _ => False) := hsrc.flat.later (Nat.le_refl _) (fun _ _ _ => rfl) h1.sb (fun _ => Nat.le_refl _)
    have hzk : z.cells.size = k := by rw [← hzs, ← hzl, Array.length_toList]
    have hzc : (Builtin.zeroCells z.cells (grownCap w (0 + ys.length) 0 e - (0 + ys.length))).toList.length = (grownCap w (0 + ys.length) 0 e - ys.length) * k := by
      rw [Array.length_toList, size_zeroCells, hzk, Nat.zero_add]
    have := (Sim.drew h1).bufNew (d := d) (cap := grownCap w (0 + ys.length) 0 e) (rest := (Builtin.zeroCells z.cells (grownCap w (0 + ys.length) 0 e - (0 + ys.length))).toList) e (by rw [hn1]; exact hd) _ (fun x hx => hx.elim) hflat (by omega)
      (by rw [hzc, hflat.len, ← Nat.add_mul]; exact Nat.mul_le_mul_right _ (by omega)) (([] : List Value).toArray ++ vs.toArray ++ Builtin.zeroCells z.cells (grownCap w (0 + ys.length) 0 e - (0 + ys.length))) (by simp)
    simp only [Nat.zero_add] at this ⊢
    exact this

theorem xAppend_run (hT : TOk P T) (h : Sim w0 M S0 ρ φ S st a w) {t tx ty d : Nat} {vs0 vx : Value} {s x : SV} {side : Prop} {st' : St} (hrs : Rep ρ S w vs0 s) (hrx : Rep ρ S w vx x) (he : xAppend T M.wr st t tx s x d = some (side, st')) (hs : side) :
    ∃ u w', (Builtin.append_ #[t, tx] ty #[vs0, vx]).run P w = .ok u w' ∧ Holds w0 M S0 st' (a.put (some d) u) w' := by
  unfold xAppend at he
  split at he <;> try (cases he; done)
  rename_i ti ht
  split at he <;> try (cases he; done)
  rename_i e hk
  split at he <;> try (cases he; done)
  rename_i ei hei
  split at he <;> try (cases he; done)
  rename_i side0 old st1 side' ys hold hsrc
  obtain ⟨rfl, rfl⟩ := Prod.mk.inj (Option.some.inj he)
  obtain ⟨g1, g2, g3, g4, g5, g6, g7, g8⟩ := hs
  obtain ⟨dd, u1, u2⟩ := (hT t ti ht).und
  rw [hk] at u2
  obtain rfl := tk_slice u2
  obtain ⟨i, z, z1, z2, z3, z4, z5⟩ := (hT e ei hei).parts
  obtain ⟨vs, hsr⟩ := src_ok (P := P) (F := fun _ => False) hT h hrx hsrc g3
  unfold oldRows at hold
  split at hold
  · simp only [Option.some.injEq, Prod.mk.injEq] at hold
    obtain ⟨_, rfl, rfl⟩ := hold
    obtain rfl := hrs.nl_eq
    simp only [List.length_nil, Nat.zero_add, List.nil_append] at g4 g5 ⊢
    exact append_fresh (P := P) (ty := ty) (x := none) h rfl u1 z1 z2 z3 z4 z5 g8 hsr g1 g4 g5
  · rename_i b i0 n
    split at hold <;> try (cases hold; done)
    rename_i k' rows hb
    simp only [Option.some.injEq, Prod.mk.injEq] at hold
    obtain ⟨rfl, rfl, rfl⟩ := hold
    obtain ⟨gwr, s1, s2⟩ := g2
    subst s1
    have hlen : ((rows.drop i0).take n).length = n := by rw [List.length_take, List.length_drop]; omega
    rw [hlen] at g4 g5 ⊢
    have hne : st.blk b ≠ none := by rw [hb]; simp
    have hvl := hsr.flat.len
    cases hrs with
    | per hr => cases hr
    | sl0 xa _ _ =>
      simp only [List.take_zero, Nat.zero_add, List.nil_append] at g4 g5 ⊢
      exact append_fresh (P := P) (ty := ty) (x := xa) (h.kill b) rfl u1 z1 z2 z3 z4 z5 g8 hsr g1 g4 g5
    | sl _ _ _ cap l hl hc hi hz =>
      obtain ⟨hesz, hok⟩ := h.cellsAt hb hl
      obtain ⟨olds, o1, o2⟩ := hok.src (P := P) i0 n s2
      have hself := h.heap.self b l hne hl
      have hnS := h.heap.notS b _ hne (.inl ⟨l, hl, rfl⟩)
      have hlt := h.heap.lt b _ hne (.inl ⟨l, hl, rfl⟩)
      have hoth : ∀ b', (st.kill b).blk b' ≠ none → ∀ x, owns ρ φ b x → ¬ owns ρ φ b' x := fun b' hb' x h1 h2 => by
        obtain ⟨q1, q2⟩ := blk_kill_has hb'
        exact q1 (h.heap.inj b' b x q2 hne h2 h1)
      have hownM : ∀ x, owns ρ φ b x → M x ∨ w0.heap.size ≤ x := fun x hx => (h.own b x hne hx).resolve_right fun g => g.1 gwr
      have hzk : z.cells.size = ei.size := by rw [← g8, ← z3, Array.length_toList]
      have holdlen := o1.len
      rw [hlen] at holdlen
      by_cases hfit : n + ys.length ≤ cap
      · have hfirst := hsr.first ys.length w (Nat.le_refl _) rfl
        rw [← hvl, List.take_length] at hfirst
        have hrun := run_append_in (P := P) (w := w) (ty := ty) (base := some (l.addr i0 0)) u1 hsr.und z1 z4 (hsr.lenOf w) hfirst hfit
        have hcells : ∀ q, q < cap * l.esz → ∃ u, w.cell? ⟨l.blk, l.base + i0 * l.esz + q, none⟩ = some u := fun q hq => by
          have hq2 : l.base + i0 * l.esz + q < rowSize w l.blk := by rw [Nat.add_mul] at hz; omega
          unfold rowSize at hq2
          unfold World.cell?
          cases hh : w.heap[l.blk]? with
          | none => rw [hh] at hq2; simp at hq2
          | some ob =>
            rw [hh] at hq2
            cases ob <;> first | (simp at hq2; done) | (simp at hq2; exact ⟨_, by simp [hq2]; rfl⟩)
        have hvl' : vs.length = ys.length * l.esz := by rw [hesz]; exact hvl
        have hmul : n * l.esz + ys.length * l.esz ≤ cap * l.esz := by rw [← Nat.add_mul]; exact Nat.mul_le_mul_right _ hfit
        obtain ⟨w', r1, r2, r3, r4, r5, r6, r7, r8⟩ := run_storeCells_gen (P := P) l.blk (l.base + i0 * l.esz + n * l.esz) vs w 0 (fun j hj => by
          obtain ⟨u, hu⟩ := hcells (n * l.esz + j) (by omega)
          exact ⟨u, by rw [← hu]; congr 2; omega⟩) hok.free hsr.flat.one
        have h1 := (h.kill b).turnOff (w' := w') l.blk hnS (fun b' hb' => hoth b' hb' _ (.inl ⟨l, hl, rfl⟩)) (hownM _ (.inl ⟨l, hl, rfl⟩)) r2 r3 (Nat.le_of_eq (r4 _).symm) r8
        let l' : Loc := ⟨l.blk, l.base + i0 * l.esz, l.esz, n + ys.length⟩
        have hf := (st.kill b).kill_free d
        have h2 := (h1.kill d).rename hf (some l') (φ b)
        have hS' : ∀ i, S i → w'.heap[i]? = w.heap[i]? := fun i hi => r3 i fun e => hnS (e ▸ hi)
        have hz' : ∀ x, rowSize w x ≤ rowSize w' x := fun x => Nat.le_of_eq (r4 x).symm
        have hod : ∀ x, owns (fun x => if x = d then some l' else ρ x) (fun x => if x = d then φ b else φ x) d x → owns ρ φ b x := fun x hx => by
          rcases owns_same.mp hx with ⟨l2, e1, e2⟩ | hx
          · obtain rfl := Option.some.inj e1
            exact .inl ⟨l, hl, e2⟩
          · exact .inr hx
        have h3 := h2.addBlk (d := d) (k := .c ei.size (killRows d ((rows.drop i0).take n ++ ys))) hf.1 (not_pin_of_lt g1 h.small) ?_ (fun b' x hb' hx hx' => ?_) (fun l2 e1 => ?_) (fun x hx => h.heap.notS b x hne (hod x hx)) (fun x hx => by rw [r2]; exact h.heap.lt b x hne (hod x hx)) (fun x hx => hownM x (hod x hx))
        · refine ⟨.slice (some (l.addr i0 0)) (n + ys.length) cap, w', ?_, _, _, S, h3.setSlot (by exact g1) ?_⟩
          · rw [hrun]
            show ((storeCells (Addr.add (l.addr i0 0) (n * ei.size)) vs).run P w).andThen _ = _
            rw [show l.addr i0 0 = ⟨l.blk, l.base + i0 * l.esz + 0, none⟩ from rfl, Addr.add_lit, ← hesz, Nat.add_zero, r1]
            rfl
          · have := Rep.sl (ρ := fun x => if x = d then some l' else ρ x) (S := S) (w := w') d 0 (n + ys.length) cap l' (if_pos rfl) hfit (by simp [l']) (by
              show l.base + i0 * l.esz + (0 + cap) * l.esz ≤ rowSize w' l.blk
              rw [r4]
              rw [Nat.add_mul] at hz
              rw [Nat.zero_add]
              omega)
            rw [show l'.addr 0 0 = l.addr i0 0 from by simp [l', Loc.addr]] at this
            exact this
        · simp only [if_true]
          obtain ⟨G, p1, p2, p3⟩ := hok.cell
          have hys := hsr.flat
          have hrow : ∀ (i' : Nat) (r : List SV), ((rows.drop i0).take n ++ ys)[i']? = some r → r.length = l.esz := fun i' r hr => by
            rw [List.getElem?_append] at hr
            split at hr
            · exact o1.row _ r hr
            · rw [hesz]; exact hys.row _ r hr
          let G' : Nat → Nat → Nat → Prop := fun i' j x => i' < n ∧ G (i0 + i') j x
          have hcell : ∀ (i' : Nat) (r : List SV) (j : Nat) (c : SV), ((rows.drop i0).take n ++ ys)[i']? = some r → r[j]? = some c → ∃ u, w'.cell? (l'.addr i' j) = some u ∧ u.oneCell' = true ∧ CRep ρ S w' u c (G' i' j) := fun i' r j c hr hj => by
            rw [List.getElem?_append, hlen] at hr
            split at hr
            · rename_i hi'
              have hget : rows[i0 + i']? = some r := by
                rw [List.getElem?_take, if_pos hi', List.getElem?_drop] at hr; exact hr
              obtain ⟨u, e1, e2, e3⟩ := p3 _ r j c hget hj
              refine ⟨u, ?_, e2, ?_⟩
              · have hjl : j < l.esz := by rw [← hok.len _ r hget]; exact (List.getElem?_eq_some_iff.mp hj).1
                have hm2 : (i' + 1) * l.esz ≤ n * l.esz := Nat.mul_le_mul_right _ hi'
                rw [Nat.succ_mul] at hm2
                rw [← e1, ← r7 (l.addr (i0 + i') j) (fun q _ => by unfold Loc.addr; simp only [ne_eq, Addr.mk.injEq, true_and, and_true, Nat.add_mul]; omega)]
                unfold Loc.addr
                simp only [l', Nat.add_mul]
                congr 2
                omega
              · exact e3.mono (fun _ h => h) (by omega) (fun x hx _ => r3 x fun e => by
                  rcases hx with hx | hx
                  · exact hnS (e ▸ hx)
                  · exact hself (e ▸ p1 _ _ x hx)) h.sb (fun _ _ => rfl) hz' fun x hx => ⟨hi', hx⟩
            · rename_i hi'
              obtain ⟨G2, q1, _, q3⟩ := hys.cell
              obtain ⟨u, e1, e2⟩ := q3 _ r j c hr hj
              refine ⟨u, ?_, hys.one u (List.mem_of_getElem? e1), e2.mono (fun _ h => h) (by omega) (fun x hx _ => hS' x (hx.elim id fun g => (q1 _ _ x g).elim)) h.sb (fun _ _ => rfl) hz' fun x hx => (q1 _ _ x hx).elim⟩
              rw [← r6 _ u e1]
              unfold Loc.addr
              simp only [l']
              congr 2
              rw [← hesz]
              have : i' = n + (i' - n) := by omega
              rw [this, Nat.add_mul]
              simp
              omega
          refine .inr ⟨l', if_pos rfl, hesz, fun o => by rw [r5]; exact hok.free o, fun i' r g => ?_, ?_, G', fun i' j x g => p1 _ _ x g.2, fun p q p' q' x g1 g2 => by have := p2 _ _ _ _ x g1.2 g2.2; omega, fun i' r j c g1 g2 => ?_⟩
          · obtain ⟨r', g', rfl⟩ := killRows_get g
            simpa using hrow i' r' g'
          · unfold killRows
            simp only [List.length_map, List.length_append, hlen]
            rfl
          · obtain ⟨r', g3, rfl⟩ := killRows_get g1
            rw [List.getElem?_map, Option.map_eq_some_iff] at g2
            obtain ⟨c', g4, rfl⟩ := g2
            obtain ⟨u, f1, f2, f3⟩ := hcell i' r' j c' g3 g4
            exact ⟨u, f1, f2, (f3.kill1 d).mono (fun _ h => h) (Nat.le_refl _) (fun _ _ _ => rfl) (fun i hi => by rw [r2]; exact h.sb i hi) (fun x hx => if_neg (SV.kill1_names hx).1) (fun _ => Nat.le_refl _) fun _ h => h⟩
        · have hx2 : b' ≠ d := fun e => hb' (e ▸ hf.1)
          exact hoth b' (blk_kill_has hb').2 x (hod x hx') ((owns_ne hx2).mp hx)
        · simp only [if_true] at e1 ⊢
          obtain rfl := Option.some.inj e1
          exact hself
      · have hold : (Builtin.firstCells ei.size n (.slice (some (l.addr i0 0)) n cap)).run P w.drew = .ok olds.toArray w.drew := by
          have := o2 n w.drew (Nat.le_refl _) rfl
          rw [← holdlen, List.take_length, holdlen, hesz] at this
          exact this
        have hfirst := hsr.first ys.length w.drew (Nat.le_refl _) rfl
        rw [← hvl, List.take_length] at hfirst
        have hrun := run_append_out (P := P) (w := w) (ty := ty) (base := some (l.addr i0 0)) u1 hsr.und z1 z4 z2 (hsr.lenOf w) hfirst hold (by omega) g4 (by rw [z5]; exact g5)
        refine ⟨_, _, hrun, ?_⟩
        have hge := grownCap_ge w (n + ys.length) cap e
        rw [hesz] at o1
        have hflat : Flat ρ S w.drew ei.size (olds ++ vs) ((rows.drop i0).take n ++ ys) (φ b) := (o1.append hsr.flat (fun _ _ g => g) (fun x hx => hx.elim id False.elim)).later (Nat.le_refl _) (fun _ _ _ => rfl) h.sb (fun _ => Nat.le_refl _)
        have hzc : (Builtin.zeroCells z.cells (grownCap w (n + ys.length) cap e - (n + ys.length))).toList.length = (grownCap w (n + ys.length) cap e - (n + ys.length)) * ei.size := by
          rw [Array.length_toList, size_zeroCells, hzk]
        have hll : ((rows.drop i0).take n ++ ys).length = n + ys.length := by rw [List.length_append, hlen]
        have := (h.kill b).drew.bufNew (d := d) (cap := grownCap w (n + ys.length) cap e) (rest := (Builtin.zeroCells z.cells (grownCap w (n + ys.length) cap e - (n + ys.length))).toList) e g1 (φ b) (fun x hx => ⟨h.heap.notS b x hne (.inr hx), h.heap.lt b x hne (.inr hx), hownM x (.inr hx), fun b' hb' _ => hoth b' hb' x (.inr hx)⟩) hflat (by rw [hll]; exact hge)
          (by rw [hzc, hflat.len, hll, ← Nat.add_mul]; exact Nat.mul_le_mul_right _ (by omega)) (olds.toArray ++ vs.toArray ++ Builtin.zeroCells z.cells (grownCap w (n + ys.length) cap e - (n + ys.length))) (by simp)
        rw [hll] at this
        exact this
  · cases hold

theorem xAppend_ok (hT : TOk P T) (h : Sim w0 M S0 ρ φ S st a w) {o : Oper} {c : Call} {s x : Operand} {t tx d : Nat} {side : Prop} {st' : St} {K : St → Prop} {Q : Exit → Act → World → Prop} (ho : o.op = .call c) (hc : c.callee = .builtin .append) (ha : c.args.toList = [s, x]) (ht : c.argTypes.toList = [t, tx])
    (hd : o.dst = some d) (he : xAppend T M.wr st t tx (st.ev s) (st.ev x) d = some (side, st')) (hs : side) (hK : K st') : o.wp P a w (Nx w0 M S0 K) Q := by
  obtain ⟨u, w', h1, h3⟩ := xAppend_run (P := P) (ty := o.type) hT h (h.ev s) (h.ev x) he hs
  refine wp_value (v := u) (w' := w') ?_ ⟨st', hK, by rw [hd]; exact h3⟩
  have e1 : c.args = #[s, x] := Array.ext' (by simpa using ha)
  have e2 : c.argTypes = #[t, tx] := Array.ext' (by simpa using ht)
  unfold execOp
  simp [ho, resolve, hc, invoke, builtin, e1, e2, h1]

/-! ## Literals of slices -/

def xBuildSlice (T : Nat → Option TI) (st : St) (t len : Nat) (parts : List (Nat × SV)) (d : Nat) : Option (Prop × St) := match T t with
  | some ti => match ti.k with
    | .slice e => match T e with
      | some ei => match fillSV (fun i => some (i * ei.size, ei.size)) (List.replicate (len * ei.size) .dead) parts with
        | some row => some (d < st.n ∧ len * ei.size ≤ 16777216 ∧ row.all SV.one = true, ((st.kill d).setBlk d (.c ei.size (killRows d (chunks row ei.size len)))).set d (.sl d 0 len))
        | none => none
      | none => none
    | _ => none
  | none => none

theorem chunks_flat {row : List SV} {vs : List Value} {k len : Nat} {F : Nat → Prop} (h : RelL ρ S w vs row) (hl : row.length = len * k) (ho : row.all SV.one = true) : Flat ρ S w k vs (chunks row k len) F := by
  refine .plain (by rw [h.1, hl, chunks_length]) (fun i r hr => ?_) (fun v hv => ?_) (fun i r j c hr hj => ?_)
  · obtain ⟨h1, rfl⟩ := chunks_get hr
    rw [List.length_take, List.length_drop, hl]
    have : (i + 1) * k ≤ len * k := Nat.mul_le_mul_right _ h1
    rw [Nat.succ_mul] at this
    omega
  · obtain ⟨i, hi, rfl⟩ := List.getElem_of_mem hv
    have hi' : i < row.length := by rw [← h.1]; exact hi
    exact (h.2 i _ _ (List.getElem?_eq_getElem hi) (List.getElem?_eq_getElem hi')).one (List.all_eq_true.mp ho _ (List.getElem_mem hi'))
  · obtain ⟨h1, rfl⟩ := chunks_get hr
    rw [List.getElem?_take] at hj
    split at hj <;> try (cases hj; done)
    rw [List.getElem?_drop] at hj
    have hlt : i * k + j < vs.length := by rw [h.1]; exact (List.getElem?_eq_some_iff.mp hj).1
    exact ⟨vs[i * k + j], List.getElem?_eq_getElem hlt, h.2 _ _ c (List.getElem?_eq_getElem hlt) hj⟩

theorem fillSV_length (place : Nat → Option (Nat × Nat)) (ps : List (Nat × SV)) : ∀ (row row' : List SV), fillSV place row ps = some row' → row'.length = row.length := by
  induction ps with
  | nil => intro row row' h; simp [fillSV] at h; rw [h]
  | cons p ps ih =>
    intro row row' h
    simp only [fillSV] at h
    split at h <;> try (cases h; done)
    split at h <;> try (cases h; done)
    rw [ih _ _ h, putAt_length]

theorem xBuildSlice_ok (hT : TOk P T) (h : Sim w0 M S0 ρ φ S st a w) {o : Oper} {t len d : Nat} {parts : Array (Nat × Operand)} {side : Prop} {st' : St} {K : St → Prop} {Q : Exit → Act → World → Prop} (ho : o.op = .buildSlice t len parts) (hd : o.dst = some d)
    (he : xBuildSlice T st t len (parts.toList.map fun p => (p.1, st.ev p.2)) d = some (side, st')) (hs : side) (hK : K st') : o.wp P a w (Nx w0 M S0 K) Q := by
  unfold xBuildSlice at he
  split at he <;> try (cases he; done)
  rename_i ti ht
  split at he <;> try (cases he; done)
  rename_i e hk
  split at he <;> try (cases he; done)
  rename_i ei hei
  split at he <;> try (cases he; done)
  rename_i row hrow
  obtain ⟨rfl, rfl⟩ := Prod.mk.inj (Option.some.inj he)
  obtain ⟨g1, g2, g4⟩ := hs
  obtain ⟨dd, u1, u2⟩ := (hT t ti ht).run_und
  rw [hk] at u2
  obtain rfl := tk_slice u2
  have hsz := (hT e ei hei).run_size w
  obtain ⟨z, z1, z2⟩ := (hT e ei hei).run_zero
  have hmap : (parts.map fun (i, x) => (i, a.eval x)).toList = parts.toList.map fun p => (p.1, a.eval p.2) := by simp
  have key : ∀ arr : Array Value, arr.size = len * ei.size → ∃ arr', Instr.fill (fun i => some (i * ei.size, ei.size)) arr (parts.toList.map fun p => (p.1, a.eval p.2)) = some arr' ∧ RelL ρ S w arr'.toList row := fun arr harr => by
    refine fill_ok _ parts.toList a.eval st.ev h.ev arr _ row ⟨by simp [harr], fun i v c _ h2 => ?_⟩ hrow
    rw [List.getElem?_replicate] at h2
    split at h2 <;> simp at h2
    subst h2
    exact .dead v
  have hlr : row.length = len * ei.size := by rw [fillSV_length _ _ _ _ hrow]; simp
  have hsz2 : ¬ (len * ei.size > 2 ^ 24) := by omega
  have hend : ∀ arr' : Array Value, RelL ρ S w arr'.toList row → Holds w0 M S0 (((st.kill d).setBlk d (.c ei.size (killRows d (chunks row ei.size len)))).set d (.sl d 0 len)) (a.put (some d) (.slice (some ⟨w.heap.size, 0, none⟩) len len)) (w.alloc (.cells arr' e)) := fun arr' hrel => by
    have := h.bufNew (esz := ei.size) (d := d) (cap := len) (vs := arr'.toList) (rest := []) e g1 (fun _ => False) (fun x hx => hx.elim) (chunks_flat hrel hlr g4) (by rw [chunks_length]; exact Nat.le_refl _) (by rw [hrel.1, hlr]; simp) arr' (by simp)
    rw [chunks_length] at this
    exact this
  by_cases h0 : len * ei.size = 0
  · obtain ⟨arr', f1, f2⟩ := key ((Array.range (len * ei.size)).map ((#[] : Array Value)[· % (#[] : Array Value).size]!)) (by simp)
    refine wp_value (v := .slice (some ⟨w.heap.size, 0, none⟩) len len) (w' := w.alloc (.cells arr' e)) ?_ ⟨_, hK, by rw [hd]; exact hend arr' f2⟩
    unfold execOp
    simp only [ho, Instr.buildSlice, Sem.run_bind, u1, Result.andThen_ok, hsz, if_neg hsz2, if_pos h0, Sem.run_pure, hmap, f1]
    simp [newRow]
  · obtain ⟨arr', f1, f2⟩ := key ((Array.range (len * ei.size)).map (z.cells[· % z.cells.size]!)) (by simp)
    refine wp_value (v := .slice (some ⟨w.heap.size, 0, none⟩) len len) (w' := w.alloc (.cells arr' e)) ?_ ⟨_, hK, by rw [hd]; exact hend arr' f2⟩
    unfold execOp
    simp only [ho, Instr.buildSlice, Sem.run_bind, u1, Result.andThen_ok, hsz, if_neg hsz2, if_neg h0, z1, Sem.run_pure, hmap, f1]
    simp [newRow]

end Go.Vcg
/- Programs: what is shown of a piece of code, from a state on. -/
namespace Go.Vcg

/-- What stands still while a function is walked. -/
structure Cx where
  P : Program
  w0 : World
  M : Perm
  S0 : Nat → Prop
  pan : List PanicEntry → St → Prop := fun _ _ => False

abbrev SQ := Exit → St → Prop

/-- The state holds. -/
def Hd (C : Cx) (st : St) (a : Act) (w : World) : Prop := Holds C.w0 C.M C.S0 st a w

def NK (C : Cx) (K : St → Prop) (a : Act) (w : World) : Prop := ∃ st, K st ∧ Hd C st a w

/-- The state without its slots. -/
def St.noSl (st : St) : St := { st with sl := [] }
/-- What a panic leaves. -/
def NP (C : Cx) (ch : List PanicEntry) (a : Act) (w : World) : Prop := ∃ st, C.pan ch st ∧ Hd C st.noSl a w
theorem NP.of {C : Cx} {ch : List PanicEntry} {st : St} {a : Act} {w : World} (h1 : C.pan ch st) (h2 : Hd C st a w) : NP C ch a w :=
  let ⟨ρ, φ, S, h⟩ := h2
  ⟨st, h1, ρ, φ, S, h.sub rfl (fun _ => .inr rfl) (fun _ _ e => e) rfl⟩
/-- What is asked of states, asked of frames and worlds; what a panic must leave stands in C. -/
def LQ (C : Cx) (Q : SQ) : Exit → Act → World → Prop
  | .outgrown, _, _ => False
  | .panic ch, a, w => NP C ch a w
  | e, a, w => ∃ st, Q e st ∧ Hd C st a w

/-- Where a panic goes. -/
def PQ (C : Cx) (Q : Exit → Act → World → Prop) : Prop := ∀ ch a w, NP C ch a w → Q (.panic ch) a w
theorem LQ.pq (C : Cx) (Q : SQ) : PQ C (LQ C Q) := fun _ _ _ h => h

def Swp (C : Cx) (c : Code) (st : St) (Q : SQ) : Prop := ∀ a w, Hd C st a w → c.wp C.P (LQ C Q) a w

/-- A row of operations, one behind the other. -/
def Sl (C : Cx) (ops : Array Oper) (l : List Oper) (st : St) (K : St → Prop) : Prop := ∀ (Q : Exit → Act → World → Prop) (a : Act) (w : World), (∀ a w, NK C K a w → Q .normal a w) → PQ C Q → Hd C st a w → wpList C.P ops Q l a w

/-- One operation that is carried out. -/
def Sop (C : Cx) (o : Oper) (st : St) (K : St → Prop) : Prop := ∀ (Q : Exit → Act → World → Prop) (a : Act) (w : World), PQ C Q → Hd C st a w → o.wp C.P a w (NK C K) Q

/-- One operation, if it is wanted. -/
def So (C : Cx) (ops : Array Oper) (o : Oper) (st : St) (K : St → Prop) : Prop := ∀ (Q : Exit → Act → World → Prop) (a : Act) (w : World) (N : Act → World → Prop), (∀ a w, NK C K a w → N a w) → PQ C Q → Hd C st a w →
  if Region.wanted o (yielded ops a.tmps) then o.wp C.P a w N Q else N (a.put o.dst undef) w

/-- One state says no more than another. -/
def Weak (C : Cx) (st st' : St) : Prop := ∀ a w, Hd C st a w → Hd C st' a w

variable {C : Cx} {st : St} {Q : SQ} {K : St → Prop} {ops : Array Oper} {o : Oper} {l : List Oper}

theorem wpm {P : Program} {c : Code} {Q Q' : Exit → Act → World → Prop} {a : Act} {w : World} (h : c.wp P Q a w) (hq : ∀ e a w, Q e a w → Q' e a w) : c.wp P Q' a w := Code.wp_mono hq h

theorem Weak.refl (C : Cx) (st : St) : Weak C st st := fun _ _ h => h
theorem Weak.trans {st1 st2 st3 : St} (h1 : Weak C st1 st2) (h2 : Weak C st2 st3) : Weak C st1 st3 := fun a w h => h2 a w (h1 a w h)
theorem Weak.virt (C : Cx) (st : St) (t d k : Nat) : Weak C st (st.virt t d k) := fun _ _ ⟨_, _, S, h⟩ => let ⟨ρ', φ', h'⟩ := h.virt t d k; ⟨ρ', φ', S, h'⟩
theorem Weak.virtAt (C : Cx) (st : St) (b i j d k : Nat) : Weak C st (st.virtAt b i j d k) := fun _ _ ⟨_, _, S, h⟩ => let ⟨ρ', φ', h'⟩ := h.virtAt b i j d k; ⟨ρ', φ', S, h'⟩
theorem Weak.frz (C : Cx) (st : St) (b : Nat) : Weak C st (st.frz b) := fun _ _ ⟨ρ, φ, _, h⟩ => let ⟨S', _, h'⟩ := h.frz b; ⟨ρ, φ, S', h'⟩
theorem Weak.kill (C : Cx) (st : St) (d : Nat) : Weak C st (st.kill d) := fun _ _ ⟨ρ, φ, S, h⟩ => ⟨ρ, φ, S, h.kill d⟩
theorem Weak.ren (C : Cx) (hw : ∀ b, C.M.wr b) (st : St) (d d' : Nat) : Weak C st (st.ren d d') := fun _ _ ⟨_, _, S, h⟩ => let ⟨ρ', φ', h'⟩ := h.ren d d' (hw d); ⟨ρ', φ', S, h'⟩
theorem Weak.foldAt (C : Cx) (hw : ∀ b, C.M.wr b) {st st' : St} {b i j : Nat} {p : Prop} (he : st.foldAt b i j = some (p, st')) (hp : p) : Weak C st st' := fun _ _ ⟨ρ, _, S, h⟩ => let ⟨φ', h'⟩ := h.foldAt he hp hw; ⟨ρ, φ', S, h'⟩
theorem Weak.unfoldAt (C : Cx) (hw : ∀ b, C.M.wr b) {st st' : St} {b i j n : Nat} {p : Prop} (he : st.unfoldAt b i j n = some (p, st')) (hp : p) : Weak C st st' := fun _ _ ⟨_, _, S, h⟩ => let ⟨ρ', φ', h'⟩ := h.unfoldAt he hp hw; ⟨ρ', φ', S, h'⟩
theorem Weak.congr (C : Cx) {st st' : St} (hn : st'.n = st.n) (hg : ∀ t, st'.get t = st.get t) (hb : ∀ b, st'.blk b = st.blk b) (hd : st'.df = st.df) : Weak C st st' := fun _ _ ⟨ρ, φ, S, h⟩ => ⟨ρ, φ, S, h.congr hn hg hb hd⟩
theorem Weak.to {C : Cx} {st : St} {n : Nat} {sl : List (Nat × SV)} {bl : List (Nat × Bk)} {df : List Dfd} (hn : st.n = n) (h1 : slOk st sl) (h3 : blOk st bl) (hd : st.df = df := by rfl) : Weak C st ⟨n, sl, bl, df⟩ := fun _ _ ⟨ρ, φ, S, h⟩ => ⟨ρ, φ, S, h.to hn h1 h3 hd⟩

theorem NK.mono {K' : St → Prop} (h : ∀ st, K st → K' st) {a : Act} {w : World} (hk : NK C K a w) : NK C K' a w := let ⟨st, h1, h2⟩ := hk; ⟨st, h st h1, h2⟩
theorem LQ.mono {Q' : SQ} (h : ∀ e st, Q e st → Q' e st) (e : Exit) (a : Act) (w : World) (hq : LQ C Q e a w) : LQ C Q' e a w := by
  cases e with
  | outgrown => exact hq
  | panic _ => exact hq
  | _ => obtain ⟨st, h1, h2⟩ := hq; exact ⟨st, h _ st h1, h2⟩

/-! ## Code -/

def SQ.then (K : St → Prop) (Q : SQ) : SQ
  | .normal, s => K s
  | e, s => Q e s
def SQ.inBlock (id : Nat) (Q : SQ) : SQ
  | .exit id', s => if id' = id then Q .normal s else Q (.exit id') s
  | e, s => Q e s

theorem Swp.mono {c : Code} {Q' : SQ} (h : Swp C c st Q) (hq : ∀ e st, Q e st → Q' e st) : Swp C c st Q' := fun a w hh => wpm (h a w hh) (LQ.mono hq)
theorem Swp.weak {c : Code} {st' : St} (hw : Weak C st st') (h : Swp C c st' Q) : Swp C c st Q := fun a w hh => h a w (hw a w hh)
theorem Swp.skip (h : Q .normal st) : Swp C .skip st Q := fun _ _ hh => Go.wp_skip ⟨st, h, hh⟩
theorem Swp.label {i : Nat} (h : Q .normal st) : Swp C (.label i) st Q := fun _ _ hh => Go.wp_label ⟨st, h, hh⟩
theorem Swp.exit {i : Nat} (h : Q (.exit i) st) : Swp C (.exit i) st Q := fun _ _ hh => Go.wp_exit ⟨st, h, hh⟩
theorem Swp.ret (h : Q .ret st) : Swp C .ret st Q := fun _ _ hh => Go.wp_ret ⟨st, h, hh⟩
theorem Swp.seq {x y : Code} (h : Swp C x st (SQ.then (fun s => Swp C y s Q) Q)) : Swp C (.seq x y) st Q := fun a w hh => Go.wp_seq (wpm (h a w hh) fun e a w hq => by
  cases e with
  | normal => obtain ⟨s, h1, h2⟩ := hq; exact h1 a w h2
  | _ => exact hq)
theorem Swp.cond {c : Operand} {x y : Code} {b : Bool} (he : st.ev c = .pl (.bool b)) (h1 : b = true → Swp C x st Q) (h2 : b = false → Swp C y st Q) : Swp C (.cond c x y) st Q := fun a w hh => by
  obtain ⟨ρ, φ, S, h⟩ := hh
  have hr := h.ev c
  rw [he] at hr
  exact Go.wp_cond_split hr.pl_eq (fun e => h1 e a w ⟨ρ, φ, S, h⟩) (fun e => h2 e a w ⟨ρ, φ, S, h⟩)
theorem Swp.block {id : Nat} {c : Code} (h : Swp C c st (SQ.inBlock id Q)) : Swp C (.block id c) st Q := fun a w hh => Go.wp_block (wpm (h a w hh) fun e a w hq => by
  cases e with
  | exit i =>
    obtain ⟨s, h1, h2⟩ := hq
    simp only [SQ.inBlock] at h1
    simp only [Exit.inBlock]
    split <;> rename_i e
    · rw [if_pos e] at h1; exact ⟨s, h1, h2⟩
    · rw [if_neg e] at h1; exact ⟨s, h1, h2⟩
  | _ => exact hq)

/-- A loop: a relation between a number that falls and the state. -/
theorem Swp.loop {c : Code} (I : Nat → St → Prop) (n : Nat) (h0 : I n st) (h : ∀ n st, I n st → Swp C c st (SQ.then (fun s => ∃ m, m < n ∧ ∃ s', Weak C s s' ∧ I m s') Q)) : Swp C (.loop c) st Q := fun a w hh =>
  wp_loop_ghost (fun n a w => ∃ s, I n s ∧ Hd C s a w) n ⟨st, h0, hh⟩ fun n a w ⟨s, h1, h2⟩ => wpm (h n s h1 a w h2) fun e a w hq => by
    cases e with
    | normal =>
      obtain ⟨s1, ⟨m, hm, s', hw, hi⟩, hs⟩ := hq
      exact ⟨m, hm, s', hi, hw a w hs⟩
    | _ => exact hq

theorem Swp.region {id : Nat} {l : List Oper} (h : Sl C l.toArray l st (Q .normal)) : Swp C (.region id l.toArray false) st Q := fun a w hh => wp_region_lit (h _ a w (fun _ _ hk => hk) (LQ.pq C Q) hh)

/-! ## Rows of operations -/

theorem Sl.nil (h : K st) : Sl C ops [] st K := fun _ a w hq _ hh => hq a w ⟨st, h, hh⟩
theorem Sl.cons (h : So C ops o st fun s => Sl C ops l s K) : Sl C ops (o :: l) st K := fun Q a w hq hp hh => wpList_step fun N hN => h Q a w N (fun a w ⟨_, h1, h2⟩ => hN a w (h1 Q a w hq hp h2)) hp hh
theorem Sl.weak {st' : St} (hw : Weak C st st') (h : Sl C ops l st' K) : Sl C ops l st K := fun Q a w hq hp hh => h Q a w hq hp (hw a w hh)

theorem So.op (hg : o.guard = none) (h : Sop C o st K) : So C ops o st K := fun Q a w N hN hp hh => by
  have : Region.wanted o (yielded ops a.tmps) = true := by unfold Region.wanted; rw [hg]
  rw [if_pos this]
  exact Oper.wp_mono hN (h Q a w hp hh)

/-! ## Guards -/

/-- The guard's bool: known, or known where it was asked. -/
def gVal : SV → Option (Bool × Bool)
  | .pl (.bool g) => some (true, g)
  | .cn c (.pl (.bool g)) => some (c, g)
  | _ => none
def gWant (want : Bool) (c g : Bool) : Bool := match want with
  | true => c && g
  | false => c && !g

theorem wanted_of {j d : Nat} {want c g : Bool} {a : Act} {w : World} {oj : Oper} {ρ : Nat → Option Loc} {φ : Nat → Nat → Prop} {S : Nat → Prop} (h : Sim C.w0 C.M C.S0 ρ φ S st a w) (hg : o.guard = some (j, want)) (hj : ops[j]? = some oj) (hd : oj.dst = some d) (hdn : d < st.n) (hv : gVal (st.get d) = some (c, g)) :
    Region.wanted o (yielded ops a.tmps) = gWant want c g := by
  have hr := h.slot d
  have hsz : d < a.tmps.size := by rw [h.size]; exact hdn
  have hy : yielded ops a.tmps j = match a.tmps.getD d undef with | .bool b => some b | _ => none := by
    unfold yielded
    rw [hj]
    simp only [Option.bind_some, hd]
    rw [Array.getElem?_eq_getElem hsz, Array.getD_eq_getD_getElem?, Array.getElem?_eq_getElem hsz]
    simp only [Option.getD_some]
    cases a.tmps[d] <;> rfl
  unfold Region.wanted
  rw [hg]
  simp only [hy]
  unfold gVal at hv
  split at hv <;> try (cases hv; done)
  · rename_i e
    obtain ⟨rfl, rfl⟩ := Prod.mk.inj (Option.some.inj hv)
    rw [e] at hr
    rw [hr.pl_eq]
    cases want <;> rename_i g' <;> cases g' <;> rfl
  · rename_i e
    obtain ⟨rfl, rfl⟩ := Prod.mk.inj (Option.some.inj hv)
    rw [e] at hr
    rename_i c' g'
    generalize a.tmps.getD d undef = v at hr
    cases hr with
    | per h => cases h
    | cn _ _ _ h h0 =>
      cases c' with
      | true => rw [(h rfl).pl_eq]; cases want <;> cases g' <;> rfl
      | false => rw [h0 rfl]; cases want <;> cases g' <;> rfl

/-- An operation under a guard, both ways. -/
theorem So.guard {j d : Nat} {want c g : Bool} {oj : Oper} (hg : o.guard = some (j, want)) (hj : ops[j]? = some oj) (hd : oj.dst = some d) (hdn : d < st.n) (hv : gVal (st.get d) = some (c, g)) (hdst : dOk st.n o.dst)
    (h1 : gWant want c g = true → Sop C o st K) (h2 : gWant want c g = false → K (st.put o.dst (.cn false .dead))) : So C ops o st K := fun Q a w N hN hp hh => by
  obtain ⟨ρ, φ, S, h⟩ := hh
  rw [wanted_of h hg hj hd hdn hv]
  split
  · rename_i e
    exact Oper.wp_mono hN (h1 e Q a w hp ⟨ρ, φ, S, h⟩)
  · rename_i e
    exact hN _ _ ⟨_, h2 (by simpa using e), ρ, φ, S, h.put hdst (.cn _ _ _ (fun e => by cases e) (fun _ => rfl))⟩

/-- A pure operation under a guard: what it gives is known where it was carried out. -/
theorem So.guardPure {T : Nat → Option TI} (hT : TOk C.P T) {j d : Nat} {want c g : Bool} {oj : Oper} {side : Prop} {sv : SV} (hg : o.guard = some (j, want)) (hj : ops[j]? = some oj) (hd : oj.dst = some d) (hdn : d < st.n) (hv : gVal (st.get d) = some (c, g)) (hdst : dOk st.n o.dst)
    (he : pev T st (fun x => (st.ev x).assume (gWant want c g)) o.op = some (side, sv)) (hs : gWant want c g = true → side) (hK : K (st.put o.dst (.cn (gWant want c g) sv))) : So C ops o st K := fun Q a w N hN hp hh => by
  obtain ⟨ρ, φ, S, h⟩ := hh
  rw [wanted_of h hg hj hd hdn hv]
  split
  · rename_i e
    obtain ⟨u, h1, h2⟩ := pev_ok (P := C.P) hT h (fun x => (h.ev x).assume e) he (hs e)
    exact wp_value h1 (hN _ _ ⟨_, hK, ρ, φ, S, h.put hdst (.cn _ _ _ (fun _ => h2) (fun e' => by rw [e] at e'; cases e'))⟩)
  · rename_i e
    exact hN _ _ ⟨_, hK, ρ, φ, S, h.put hdst (.cn _ _ _ (fun e' => absurd e' e) (fun _ => rfl))⟩

/-! ## Operations -/

theorem nk_nx {K : St → Prop} : Nx C.w0 C.M C.S0 K = NK C K := rfl

theorem Sop.pure {T : Nat → Option TI} (hT : TOk C.P T) {side : Prop} {sv : SV} (he : pev T st st.ev o.op = some (side, sv)) (hs : side) (hd : dOk st.n o.dst) (hK : K (st.put o.dst sv)) : Sop C o st K := fun _ _ _ _ ⟨_, _, _, h⟩ => wp_pure hT h (fun x => h.ev x) he hs hd hK

/-- The operations that make memory or write it. -/
def xop (T : Nat → Option TI) (wr : Nat → Prop) (st : St) (dst : Option Nat) : Op → Option (Prop × St)
  | .alloc t => match dst with
    | some d => xAlloc T st t d
    | none => none
  | .box _ x => match dst with
    | some d => xBox st (st.ev x) d
    | none => none
  | .store t x v => xStore T wr st t (st.ev x) (st.ev v) dst
  | .makeSlice t l c => match dst with
    | some d => xMake T st t (st.ev l) (st.ev c) d
    | none => none
  | .buildSlice t len parts => match dst with
    | some d => xBuildSlice T st t len (parts.toList.map fun p => (p.1, st.ev p.2)) d
    | none => none
  | .call c => match dst, c.callee, c.args.toList, c.argTypes.toList with
    | some d, .builtin .append, [s, x], [t, tx] => xAppend T wr st t tx (st.ev s) (st.ev x) d
    | _, _, _, _ => none
  | _ => none

theorem xop_ok {T : Nat → Option TI} (hT : TOk C.P T) {side : Prop} {st' : St} (he : xop T C.M.wr st o.dst o.op = some (side, st')) (hs : side) (hK : K st') : Sop C o st K := fun Q a w _ ⟨ρ, φ, S, h⟩ => by
  unfold xop at he
  split at he
  · rename_i t hop
    split at he <;> try (cases he; done)
    rename_i d hd
    exact xAlloc_ok hT h hop hd he hs hK
  · rename_i t x hop
    split at he <;> try (cases he; done)
    rename_i d hd
    exact xBox_ok h hop hd he hs hK
  · rename_i t x v hop
    exact xStore_ok hT h hop he hs hK
  · rename_i t l c hop
    split at he <;> try (cases he; done)
    rename_i d hd
    exact xMake_ok hT h hop hd he hs hK
  · rename_i t len parts hop
    split at he <;> try (cases he; done)
    rename_i d hd
    exact xBuildSlice_ok hT h hop hd he hs hK
  · rename_i c hop
    split at he <;> try (cases he; done)
    rename_i d s x t tx hd hc ha ht
    exact xAppend_ok hT h hop hc ha ht hd he hs hK
  · cases he

attribute [irreducible] Sl So Sop Swp Weak

end Go.Vcg
/- Contracts; what is handed to a call. -/
namespace Go.Vcg

variable {w0 : World} {M : Perm} {S0 : Nat → Prop} {ρ : Nat → Option Loc} {φ : Nat → Nat → Prop} {S : Nat → Prop} {st : St} {a : Act} {w : World} {P : Program} {T : Nat → Option TI} {C : Cx} {K : St → Prop} {o : Oper}

/-- How a call ends. -/
inductive Out where
  | ret (s : SV)
  | pan (chain : List PanicEntry)

abbrev Pins := List (Nat × Bk)
def pk (ps : Pins) (b : Nat) : Option Bk := ps.lookup b

/-- What belongs to named blocks. -/
def ownsAny (ρ : Nat → Option Loc) (φ : Nat → Nat → Prop) (B : Nat → Option Bk) (x : Nat) : Prop := ∃ b, B b ≠ none ∧ owns ρ φ b x

structure MRet (S' : Nat → Prop) (ρ' : Nat → Option Loc) (φ' : Nat → Nat → Prop) (B' : Nat → Option Bk) (X : Nat → Prop) (w w' : World) (v : Value) (s : SV) : Prop where
  ex : ∃ F : Nat → Prop, RepO S' w' v s F ∧ ∀ x, F x → (X x ∨ w.heap.size ≤ x) ∧ x < w'.heap.size ∧ ¬ S' x ∧ ¬ ownsAny ρ' φ' B' x

/-- What a call leaves. -/
structure MPost (S : Nat → Prop) (w : World) (ρ : Nat → Option Loc) (φ : Nat → Nat → Prop) (pins : Pins) (sh : Bool) (e : Ending) (w' : World) (o : Out) (pins' : Pins) (ρ' : Nat → Option Loc) (φ' : Nat → Nat → Prop) (S' : Nat → Prop) : Prop where
  grow : w.heap.size ≤ w'.heap.size
  keep : ∀ i, i < w.heap.size → ¬ ownsAny ρ φ (pk pins) i → w'.heap[i]? = w.heap[i]?
  heap : HOk ρ' φ' S' w' (pk pins')
  same : ∀ b, pk pins' b ≠ none → pk pins b ≠ none ∧ ρ' b = ρ b
  part : ∀ x, ownsAny ρ' φ' (pk pins') x → ownsAny ρ φ (pk pins) x ∨ w.heap.size ≤ x
  perm : ∀ i, S' i → (sh = true ∧ S i) ∨ w.heap.size ≤ i ∨ ownsAny ρ φ (pk pins) i
  slt : ∀ i, S' i → i < w'.heap.size
  wide : IOk w w' ∧ ∀ x, rowSize w x ≤ rowSize w' x
  out : match o with
    | .ret s => ∃ v, e = .returned v ∧ MRet S' ρ' φ' (pk pins') (ownsAny ρ φ (pk pins)) w w' v s
    | .pan ch => e = .panicked ch

/-- A contract: pins: the named blocks that are handed over to be written; sh: what comes back may share memory with the arguments. -/
def MSpec (P : Program) (f : Nat) (pins : Pins) (args : List SV) (sh : Bool) (post : Pins → Out → Prop) : Prop :=
  ∀ (w : World) (S : Nat → Prop) (ρ : Nat → Option Loc) (φ : Nat → Nat → Prop) (vals : List Value), (∀ i, S i → i < w.heap.size) → HOk ρ φ S w (pk pins) → (∀ b, pk pins b ≠ none → isPin b) → vals.length = args.length →
    (∀ (i : Nat) (v : Value) (s : SV), vals[i]? = some v → args[i]? = some s → Rep ρ S w v s) →
    Calls P f vals.toArray w fun e w' => ∃ o pins' ρ' φ' S', post pins' o ∧ MPost S w ρ φ pins sh e w' o pins' ρ' φ' S'

/-- Contracts of functions that write nothing that is there. -/
def FSpec (P : Program) (f : Nat) (args : List SV) (sh : Bool) (r : SV) : Prop := MSpec P f [] args sh fun ps o => ps = [] ∧ o = .ret r

/-! ## Names are turned, several at once -/

def SV.rn0 (r : Nat → Option Nat) : SV → SV
  | .sl b i n => match r b with
    | some b' => .sl b' i n
    | none => .dead
  | .sa b i o k n => match r b with
    | some b' => .sa b' i o k n
    | none => .dead
  | .pt b i o => match r b with
    | some b' => .pt b' i o
    | none => .dead
  | .mr b => match r b with
    | some b' => .mr b'
    | none => .dead
  | .ifc _ _ => .dead
  | .fn _ _ _ => .dead
  | .ag _ => .dead
  | .tu _ => .dead
  | .cn _ _ => .dead
  | s => s
def SV.rn1 (r : Nat → Option Nat) : SV → SV
  | .ifc t s => .ifc t (s.rn0 r)
  | .fn f a b => .fn f (a.map (SV.rn0 r)) (b.map (SV.rn0 r))
  | s => s.rn0 r
def rnRows (r : Nat → Option Nat) (rows : Rows) : Rows := rows.map fun x => x.map (SV.rn1 r)
def rnE (r : Nat → Option Nat) (es : List (Value × SV)) : List (Value × SV) := es.map fun e => (e.1, e.2.rn1 r)
def Bk.rn (r : Nat → Option Nat) : Bk → Bk
  | .c k rows => .c k (rnRows r rows)
  | .m es => .m (rnE r es)

section
variable {ρ' : Nat → Option Loc} {S' : Nat → Prop} {r : Nat → Option Nat}
theorem Rep.rn0 (hr : ∀ b b', r b = some b' → ρ' b' = ρ b) (hS : ∀ i, S i → S' i) {v : Value} {s : SV} (h : Rep ρ S w v s) : Rep ρ' S' w v (s.rn0 r) := by
  cases s with
  | sl b i n =>
    rw [SV.rn0]
    split
    · rename_i b' e
      cases h with
      | sl _ _ _ cap l hb hc hi hz => exact .sl b' i n cap l ((hr b b' e).trans hb) hc hi hz
      | sl0 ad => exact .sl0 ad b' i
      | per h => cases h
    · exact .dead v
  | sa b i o k n =>
    rw [SV.rn0]
    split
    · rename_i b' e
      cases h with
      | sa _ _ _ _ _ cap l hb hc hi ho => exact .sa b' i o k n cap l ((hr b b' e).trans hb) hc hi ho
      | per h => cases h
    · exact .dead v
  | pt b i o =>
    rw [SV.rn0]
    split
    · rename_i b' e
      cases h with
      | pt _ _ _ l hb => exact .pt b' i o l ((hr b b' e).trans hb)
      | per h => cases h
    · exact .dead v
  | mr b =>
    rw [SV.rn0]
    split
    · rename_i b' e
      cases h with
      | mr _ l hb => exact .mr b' l ((hr b b' e).trans hb)
      | per h => cases h
    · exact .dead v
  | ifc _ _ => exact .dead v
  | fn _ _ _ => exact .dead v
  | ag _ => exact .dead v
  | tu _ => exact .dead v
  | cn _ _ => exact .dead v
  | _ => cases h with | per h => exact .per (h.mono hS fun _ _ => rfl)
theorem Rep.rn1 (hr : ∀ b b', r b = some b' → ρ' b' = ρ b) (hS : ∀ i, S i → S' i) {v : Value} {s : SV} (h : Rep ρ S w v s) : Rep ρ' S' w v (s.rn1 r) := by
  cases s with
  | ifc t s =>
    cases h with
    | ifc _ h => exact .ifc t (h.rn0 hr hS)
    | per h => cases h with
      | ifc _ h => exact .ifc t (Rep.rn0 (ρ := ρ) hr hS (.per h))
  | fn f x y =>
    cases h with
    | fn _ va vb _ _ ha hb h1 h2 => exact .fn f va vb _ _ (by simpa using ha) (by simpa using hb) (relmap (fun v c h => h.rn0 hr hS) h1) (relmap (fun v c h => h.rn0 hr hS) h2)
    | per h => cases h with
      | fn _ va vb _ _ ha hb h1 h2 => exact .fn f va vb _ _ (by simpa using ha) (by simpa using hb) (relmap (fun v c h => Rep.rn0 (ρ := ρ) hr hS (.per h)) h1) (relmap (fun v c h => Rep.rn0 (ρ := ρ) hr hS (.per h)) h2)
  | _ => exact h.rn0 hr hS
theorem CRep.rn1 (hr : ∀ b b', r b = some b' → ρ' b' = ρ b) (hS : ∀ i, S i → S' i) (hb : ∀ i, S i → i < w.heap.size) {F : Nat → Prop} {v : Value} {c : SV} (h : CRep ρ S w v c F) : CRep ρ' S' w v (c.rn1 r) F := by
  rcases h with h | h
  · exact .inl (h.rn1 hr hS)
  · have hm : ∀ {v c}, RepO S w v c F → RepO S' w v c F := fun h => h.mono hS (Nat.le_refl _) (fun _ _ _ => rfl) hb
    cases c with
    | ifc t s =>
      cases h with
      | per h => exact .inl (Rep.rn1 (ρ := ρ) hr hS (.per h))
      | ifc _ h =>
        rw [SV.rn1]
        cases s with
        | ifc _ _ => exact .inl (.ifc t (.dead _))
        | fn _ _ _ => exact .inl (.ifc t (.dead _))
        | ag _ => exact .inl (.ifc t (.dead _))
        | tu _ => exact .inl (.ifc t (.dead _))
        | cn _ _ => exact .inl (.ifc t (.dead _))
        | sl _ _ _ => cases h with | per h => cases h
        | sa _ _ _ _ _ => cases h with | per h => cases h
        | pt _ _ _ => cases h with | per h => cases h
        | mr _ => cases h with | per h => cases h
        | _ => exact .inr (.ifc t (hm h))
    | fn f a b => cases h with | per h => exact .inl (Rep.rn1 (ρ := ρ) hr hS (.per h))
    | ag _ => exact .inl (.dead _)
    | tu _ => exact .inl (.dead _)
    | cn _ _ => exact .inl (.dead _)
    | sl _ _ _ => cases h with | per h => cases h
    | sa _ _ _ _ _ => cases h with | per h => cases h
    | pt _ _ _ => cases h with | per h => cases h
    | mr _ => cases h with | per h => cases h
    | _ => exact .inr (hm h)
theorem BkOk.rn (hr : ∀ b b', r b = some b' → ρ' b' = ρ b) (hS : ∀ i, S i → S' i) (hb : ∀ i, S i → i < w.heap.size) {F : Nat → Prop} {b b' : Nat} {k : Bk} (h : BkOk ρ S w F b k) (hbb : ρ' b' = ρ b) : BkOk ρ' S' w F b' (k.rn r) := by
  cases k with
  | c k rows =>
    rcases h with ⟨h1, h2⟩ | ⟨l, h1, h2, h3⟩
    · exact .inl ⟨hbb.trans h1, by subst h2; rfl⟩
    · have hk : ∀ {i : Nat} {x : List SV}, (rnRows r rows)[i]? = some x → ∃ r', rows[i]? = some r' ∧ x = r'.map (SV.rn1 r) := fun {i x} h => by
        unfold rnRows at h
        rw [List.getElem?_map, Option.map_eq_some_iff] at h
        obtain ⟨r', h1, h2⟩ := h
        exact ⟨r', h1, h2.symm⟩
      refine .inr ⟨l, hbb.trans h1, h2, h3.free, fun i r g => ?_, by unfold rnRows; simpa using h3.long, ?_⟩
      · obtain ⟨r', g', rfl⟩ := hk g
        simpa using h3.len i r' g'
      · obtain ⟨G, e1, e2, e3⟩ := h3.cell
        refine ⟨G, e1, e2, fun i r j c g1 g2 => ?_⟩
        obtain ⟨r', g3, rfl⟩ := hk g1
        rw [List.getElem?_map, Option.map_eq_some_iff] at g2
        obtain ⟨c', g4, rfl⟩ := g2
        obtain ⟨v, f1, f2, f3⟩ := e3 i r' j c' g3 g4
        exact ⟨v, f1, f2, f3.rn1 hr hS hb⟩
  | m es =>
    obtain ⟨l, h1, h2⟩ := h
    obtain ⟨ents, clk, vs, G, e0, e1, e2, e3, e4, e5⟩ := h2.ex
    refine ⟨l, hbb.trans h1, ents, clk, vs, G, e0, ?_, by unfold rnE; simpa using e2, e3, e4, fun i v e g1 g2 => ?_⟩
    · unfold rnE; rw [List.map_map]; exact e1
    · unfold rnE at g2
      rw [List.getElem?_map, Option.map_eq_some_iff] at g2
      obtain ⟨c', g2, rfl⟩ := g2
      exact (e5 i v c' g1 g2).rn1 hr hS hb
end

/-! ## What is lent -/

/-- A value as one sees it who may not write: cells of its own memory, frozen. -/
def lend0 (B : Nat → Option Bk) : SV → SV
  | .sl b i n => match B b with
    | some k => frzRef k (.sl b i n)
    | none => .dead
  | .sa b i o k' n => match B b with
    | some k => frzRef k (.sa b i o k' n)
    | none => .dead
  | .pt b i o => match B b with
    | some k => frzRef k (.pt b i o)
    | none => .dead
  | .mr b => match B b with
    | some k => frzRef k (.mr b)
    | none => .dead
  | .nl => .pd []
  | s => s.frz
def lendRows (B : Nat → Option Bk) (rows : Rows) : Rows := rows.map fun r => r.map (lend0 B)
/-- One step further: a pointer to a variable, a slice, whose cells name other blocks. -/
def lend1 (B : Nat → Option Bk) : SV → SV
  | .pt b i o => match B b with
    | some (.c _ rows) => .bp ((rows.getD i []).map (lend0 B)) o
    | _ => .dead
  | .sl b i n => match B b with
    | some (.c _ rows) => .pd (lendRows B ((rows.drop i).take n))
    | _ => .dead
  | s => lend0 B s

def argL (B : Nat → Option Bk) (r : Nat → Option Nat) : SV → SV
  | .sl b i n => match r b with
    | some p => .sl p i n
    | none => lend1 B (.sl b i n)
  | .sa b i o k n => match r b with
    | some p => .sa p i o k n
    | none => lend1 B (.sa b i o k n)
  | .pt b i o => match r b with
    | some p => .pt p i o
    | none => lend1 B (.pt b i o)
  | .mr b => match r b with
    | some p => .mr p
    | none => lend1 B (.mr b)
  | s => lend1 B s
def arg1 (B : Nat → Option Bk) (r : Nat → Option Nat) : SV → SV
  | .ifc t s => .ifc t (argL B r s)
  | .fn f a b => .fn f (a.map (argL B r)) (b.map (argL B r))
  | s => argL B r s
/-- What is handed over for a value. -/
def argSV (B : Nat → Option Bk) (r : Nat → Option Nat) : SV → SV
  | .ag cs => .ag (cs.map (arg1 B r))
  | s => arg1 B r s

section
variable {Sc : Nat → Prop} {ρc : Nat → Option Loc} {B : Nat → Option Bk} {r : Nat → Option Nat}

theorem lend0_ok (hh : HOk ρ φ S w B) (hS : ∀ i, S i → Sc i) (hO : ∀ b x, B b ≠ none → owns ρ φ b x → Sc x) {F : Nat → Prop} (hF : ∀ x, F x → Sc x) {v : Value} {s : SV} (h : CRep ρ S w v s F) : RepP Sc w v (lend0 B s) := by
  have hR : ∀ {b : Nat} {k : Bk} {s : SV}, B b = some k → s.Names b → Rep ρ S w v s → RepP Sc w v (frzRef k s) := fun {b k s} hb hn hr => by
    have hne : B b ≠ none := by rw [hb]; simp
    exact frzRef_ok (hh.blk b k hb) hS (fun x hx => hO b x hne (.inr hx)) (fun l hl => hO b _ hne (.inl ⟨l, hl, rfl⟩)) hn hr
  cases s with
  | sl b i n =>
    rw [lend0]
    split
    · rename_i k e; exact hR e (.sl ..) (h.elim id fun h => by cases h with | per h => exact .per h)
    · exact .dead v
  | sa b i o k' n =>
    rw [lend0]
    split
    · rename_i k e; exact hR e (.sa ..) (h.elim id fun h => by cases h with | per h => exact .per h)
    · exact .dead v
  | pt b i o =>
    rw [lend0]
    split
    · rename_i k e; exact hR e (.pt ..) (h.elim id fun h => by cases h with | per h => exact .per h)
    · exact .dead v
  | mr b =>
    rw [lend0]
    split
    · rename_i k e; exact hR e (.mr ..) (h.elim id fun h => by cases h with | per h => exact .per h)
    · exact .dead v
  | nl =>
    have : v = .slice none 0 0 := by
      rcases h with h | h
      · exact h.nl_eq
      · cases h with | per h => cases h; rfl
    subst this
    exact .pd0 none 0
  | _ => exact h.frz hS hF

theorem lend1_ok (hh : HOk ρ φ S w B) (hS : ∀ i, S i → Sc i) (hO : ∀ b x, B b ≠ none → owns ρ φ b x → Sc x) {v : Value} {s : SV} (h : Rep ρ S w v s) : RepP Sc w v (lend1 B s) := by
  have h0 : ∀ {s : SV}, Rep ρ S w v s → RepP Sc w v (lend0 B s) := fun h => lend0_ok (F := fun _ => False) hh hS hO (fun _ hx => hx.elim) (.inl h)
  cases s with
  | pt b i o =>
    rw [lend1]
    split
    · rename_i k rows e
      cases h with
      | per h => cases h
      | pt _ _ _ l hl =>
        have hne : B b ≠ none := by rw [e]; simp
        rcases hh.blk b _ e with ⟨h1, _⟩ | ⟨l', h1, h2, h3⟩
        · rw [hl] at h1; cases h1
        · rw [hl] at h1; obtain rfl := Option.some.inj h1
          obtain ⟨G, e1, e2, e3⟩ := h3.cell
          have hr : ∀ (j : Nat) (c : SV), ((rows.getD i []).map (lend0 B))[j]? = some c → ∃ c' r, rows[i]? = some r ∧ r[j]? = some c' ∧ c = lend0 B c' := fun j c g => by
            rw [List.getElem?_map, Option.map_eq_some_iff] at g
            obtain ⟨c', g1, g2⟩ := g
            rw [List.getD_eq_getElem?_getD] at g1
            cases e : rows[i]? with
            | none => rw [e] at g1; simp at g1
            | some r => rw [e] at g1; exact ⟨c', r, rfl, g1, g2.symm⟩
          refine RepP.bp l.blk (l.base + i * l.esz) o _ (fun j => (w.cell? (l.addr i j)).getD undef) (hO b _ hne (.inl ⟨l, hl, rfl⟩)) (fun j c g => ?_) (fun j c g => ?_)
          · obtain ⟨c', r, g1, g2, rfl⟩ := hr j c g
            obtain ⟨v, f1, f2, _⟩ := e3 i r j c' g1 g2
            have : w.cell? ⟨l.blk, l.base + i * l.esz + j, none⟩ = some v := f1
            rw [this, show w.cell? (l.addr i j) = some v from f1]
            exact ⟨rfl, f2⟩
          · obtain ⟨c', r, g1, g2, rfl⟩ := hr j c g
            obtain ⟨v, f1, _, f3⟩ := e3 i r j c' g1 g2
            rw [show w.cell? (l.addr i j) = some v from f1]
            exact lend0_ok hh hS hO (fun x hx => hO b x hne (.inr (e1 _ _ x hx))) f3
    · exact .dead v
  | sl b i n =>
    rw [lend1]
    split
    · rename_i k rows e
      have hne : B b ≠ none := by rw [e]; simp
      cases h with
      | per h => cases h
      | sl0 ad _ _ => simp only [List.take_zero, lendRows, List.map_nil]; exact .pd0 ad 0
      | sl _ _ _ cap l hl hc hi hz =>
        rcases hh.blk b _ e with ⟨h1, _⟩ | ⟨l', h1, h2, h3⟩
        · rw [hl] at h1; cases h1
        · rw [hl] at h1; obtain rfl := Option.some.inj h1
          obtain ⟨G, e1, e2, e3⟩ := h3.cell
          have hlen : ((rows.drop i).take n).length = n := by rw [List.length_take, List.length_drop, h3.long]; omega
          have hrow : ∀ (i' : Nat) (r : List SV), (lendRows B ((rows.drop i).take n))[i']? = some r → ∃ r', rows[i + i']? = some r' ∧ r = r'.map (lend0 B) := fun i' r g => by
            unfold lendRows at g
            rw [List.getElem?_map, Option.map_eq_some_iff] at g
            obtain ⟨r', g1, rfl⟩ := g
            rw [List.getElem?_take] at g1
            split at g1
            · rw [List.getElem?_drop] at g1; exact ⟨r', g1, rfl⟩
            · cases g1
          have key := RepP.pd (S := Sc) (w := w) l.blk (l.base + i * l.esz) l.esz cap (lendRows B ((rows.drop i).take n)) (fun i' j => (w.cell? (l.addr (i + i') j)).getD undef) (hO b _ hne (.inl ⟨l, hl, rfl⟩)) (by unfold lendRows; rw [List.length_map, hlen]; exact hc) (fun i' r g => by
              obtain ⟨r', g1, rfl⟩ := hrow i' r g
              rw [List.length_map]
              exact h3.len _ r' g1) (fun i' r j c g gj => by
              obtain ⟨r', g1, rfl⟩ := hrow i' r g
              rw [List.getElem?_map, Option.map_eq_some_iff] at gj
              obtain ⟨c', g2, rfl⟩ := gj
              obtain ⟨v, f1, f2, _⟩ := e3 _ r' j c' g1 g2
              have : w.cell? ⟨l.blk, l.base + i * l.esz + i' * l.esz + j, none⟩ = some v := by rw [← f1]; unfold Loc.addr; rw [Nat.add_mul]; congr 2; omega
              rw [this, show w.cell? (l.addr (i + i') j) = some v from f1]
              exact ⟨rfl, f2⟩) (fun i' r j c g gj => by
              obtain ⟨r', g1, rfl⟩ := hrow i' r g
              rw [List.getElem?_map, Option.map_eq_some_iff] at gj
              obtain ⟨c', g2, rfl⟩ := gj
              obtain ⟨v, f1, f2, f3⟩ := e3 _ r' j c' g1 g2
              rw [show w.cell? (l.addr (i + i') j) = some v from f1]
              exact lend0_ok hh hS hO (fun x hx => hO b x hne (.inr (e1 _ _ x hx))) f3)
          have hll : (lendRows B ((rows.drop i).take n)).length = n := by unfold lendRows; rw [List.length_map, hlen]
          rw [hll] at key
          exact key
    · exact .dead v
  | _ => exact h0 h

theorem argL_ok (hh : HOk ρ φ S w B) (hS : ∀ i, S i → Sc i) (hO : ∀ b x, B b ≠ none → owns ρ φ b x → Sc x) (hr : ∀ b b', r b = some b' → ρc b' = ρ b) {v : Value} {s : SV} (h : Rep ρ S w v s) : Rep ρc Sc w v (argL B r s) := by
  have h1 : ∀ {s : SV}, Rep ρ S w v s → Rep ρc Sc w v (lend1 B s) := fun h => .per (lend1_ok hh hS hO h)
  have h2 : ∀ {s : SV}, Rep ρ S w v s → Rep ρc Sc w v (s.rn0 r) := fun h => h.rn0 hr hS
  cases s with
  | sl b i n =>
    have := h2 h
    rw [SV.rn0] at this
    rw [argL]
    split
    · rename_i p e; rw [e] at this; exact this
    · exact h1 h
  | sa b i o k n =>
    have := h2 h
    rw [SV.rn0] at this
    rw [argL]
    split
    · rename_i p e; rw [e] at this; exact this
    · exact h1 h
  | pt b i o =>
    have := h2 h
    rw [SV.rn0] at this
    rw [argL]
    split
    · rename_i p e; rw [e] at this; exact this
    · exact h1 h
  | mr b =>
    have := h2 h
    rw [SV.rn0] at this
    rw [argL]
    split
    · rename_i p e; rw [e] at this; exact this
    · exact h1 h
  | _ => exact h1 h
theorem arg1_ok (hh : HOk ρ φ S w B) (hS : ∀ i, S i → Sc i) (hO : ∀ b x, B b ≠ none → owns ρ φ b x → Sc x) (hr : ∀ b b', r b = some b' → ρc b' = ρ b) {v : Value} {s : SV} (h : Rep ρ S w v s) : Rep ρc Sc w v (arg1 B r s) := by
  have hL : ∀ {v s}, Rep ρ S w v s → Rep ρc Sc w v (argL B r s) := fun h => argL_ok hh hS hO hr h
  cases s with
  | ifc t s =>
    cases h with
    | ifc _ h => exact .ifc t (hL h)
    | per h => cases h with
      | ifc _ h => exact .ifc t (hL (.per h))
  | fn f x y =>
    cases h with
    | fn _ va vb _ _ ha hb h1 h2 => exact .fn f va vb _ _ (by simpa using ha) (by simpa using hb) (relmap (fun v c h => hL h) h1) (relmap (fun v c h => hL h) h2)
    | per h => cases h with
      | fn _ va vb _ _ ha hb h1 h2 => exact .fn f va vb _ _ (by simpa using ha) (by simpa using hb) (relmap (fun v c h => hL (.per h)) h1) (relmap (fun v c h => hL (.per h)) h2)
  | _ => exact hL h
theorem argSV_ok (hh : HOk ρ φ S w B) (hS : ∀ i, S i → Sc i) (hO : ∀ b x, B b ≠ none → owns ρ φ b x → Sc x) (hr : ∀ b b', r b = some b' → ρc b' = ρ b) {v : Value} {s : SV} (h : Rep ρ S w v s) : Rep ρc Sc w v (argSV B r s) := by
  cases s with
  | ag cs =>
    obtain ⟨vs, rfl, hl, h⟩ := h.ag_inv
    exact .ag vs _ (by simpa using hl) (relmap (fun v c h => arg1_ok hh hS hO hr h) h)
  | _ => exact arg1_ok hh hS hO hr h
end

end Go.Vcg
/- Results come in; a call under a contract. -/
namespace Go.Vcg

variable {w0 : World} {M : Perm} {S0 : Nat → Prop} {ρ : Nat → Option Loc} {φ : Nat → Nat → Prop} {S : Nat → Prop} {st : St} {a : Act} {w : World} {P : Program} {T : Nat → Option TI} {C : Cx} {K : St → Prop} {o : Oper}

theorem RepP.noNames {v : Value} {s : SV} (h : RepP S w v s) (b : Nat) : ¬ s.Names b := by
  induction h with
  | ifc t _ ih => intro g; cases g with | ifc _ _ _ g => exact ih g
  | fn f va vb a b ha hb _ _ ih1 ih2 =>
    intro g
    cases g with
    | fna _ _ _ c _ hc g =>
      obtain ⟨i, hi, rfl⟩ := List.getElem_of_mem hc
      exact ih1 i _ _ (List.getElem?_eq_getElem (by rw [ha]; exact hi)) (List.getElem?_eq_getElem hi) g
    | fnb _ _ _ c _ hc g =>
      obtain ⟨i, hi, rfl⟩ := List.getElem_of_mem hc
      exact ih2 i _ _ (List.getElem?_eq_getElem (by rw [hb]; exact hi)) (List.getElem?_eq_getElem hi) g
  | ag vs cs hl _ ih =>
    intro g
    cases g with
    | ag _ c _ hc g =>
      obtain ⟨i, hi, rfl⟩ := List.getElem_of_mem hc
      exact ih i _ _ (List.getElem?_eq_getElem (by rw [hl]; exact hi)) (List.getElem?_eq_getElem hi) g
  | tu vs cs hl _ ih =>
    intro g
    cases g with
    | tu _ c _ hc g =>
      obtain ⟨i, hi, rfl⟩ := List.getElem_of_mem hc
      exact ih i _ _ (List.getElem?_eq_getElem (by rw [hl]; exact hi)) (List.getElem?_eq_getElem hi) g
  | _ => intro g; cases g
theorem RepO.noNames {v : Value} {s : SV} {F : Nat → Prop} (h : RepO S w v s F) (b : Nat) : ¬ s.Names b := by
  induction h with
  | per h => exact h.noNames b
  | ifc t _ ih => intro g; cases g with | ifc _ _ _ g => exact ih g
  | ag vs cs G F h1 h2 hl _ ih =>
    intro g
    cases g with
    | ag _ c _ hc g =>
      obtain ⟨i, hi, rfl⟩ := List.getElem_of_mem hc
      exact ih i _ _ (List.getElem?_eq_getElem (by rw [hl]; exact hi)) (List.getElem?_eq_getElem hi) g
  | tu vs cs G F h1 h2 hl _ ih =>
    intro g
    cases g with
    | tu _ c _ hc g =>
      obtain ⟨i, hi, rfl⟩ := List.getElem_of_mem hc
      exact ih i _ _ (List.getElem?_eq_getElem (by rw [hl]; exact hi)) (List.getElem?_eq_getElem hi) g
  | _ => intro g; cases g
theorem SV.vis_names {s : SV} {b : Nat} (h : s.vis.Names b) : s.Names b := by
  cases s with
  | ifc t s =>
    cases h with
    | ifc _ _ _ h =>
      refine .ifc t s b ?_
      cases s <;> first | exact h | cases h
  | ow | bo | mo | ag | tu => cases h
  | _ => exact h

/-! ## A result gets names -/

def impC (n : Nat) (s : SV) : SV × List (Nat × Bk) := match openC n s with
  | some (s', B) => (s', [(n, B)])
  | none => (s.vis, [])
def impCs (n : Nat) : List SV → List SV × List (Nat × Bk)
  | [] => ([], [])
  | c :: cs => ((impC n c).1 :: (impCs (n + 1) cs).1, (impC n c).2 ++ (impCs (n + 1) cs).2)
def impR1 (n : Nat) : SV → SV × List (Nat × Bk)
  | .ag cs => (.ag (impCs n cs).1, (impCs n cs).2)
  | s => impC n s
def impRs (n : Nat) : List SV → List SV × List (Nat × Bk)
  | [] => ([], [])
  | x :: xs => ((impR1 n x).1 :: (impRs (n + 100) xs).1, (impR1 n x).2 ++ (impRs (n + 100) xs).2)
def impR (n : Nat) : SV → SV × List (Nat × Bk)
  | .tu xs => (.tu (impRs n xs).1, (impRs n xs).2)
  | s => impR1 n s
def St.addBks (st : St) : List (Nat × Bk) → St
  | [] => st
  | (n, B) :: l => St.addBks ((st.kill n).setBlk n B) l
theorem St.addBks_append (st : St) (l l' : List (Nat × Bk)) : st.addBks (l ++ l') = (st.addBks l).addBks l' := by
  induction l generalizing st with
  | nil => rfl
  | cons p l ih => exact ih _
theorem St.addBks_n (st : St) (l : List (Nat × Bk)) : (st.addBks l).n = st.n := by
  induction l generalizing st with
  | nil => rfl
  | cons p l ih => exact (ih _).trans rfl

def impOk1 : SV → Prop
  | .ag cs => cs.length ≤ 100
  | _ => True
def impOk : SV → Prop
  | .tu xs => ∀ x ∈ xs, impOk1 x
  | s => impOk1 s

/-- What may get names. -/
def NewF (w0 : World) (M : Perm) (ρ : Nat → Option Loc) (φ : Nat → Nat → Prop) (S : Nat → Prop) (st : St) (w : World) (F : Nat → Prop) : Prop := ∀ x, F x → ¬ S x ∧ x < w.heap.size ∧ (M x ∨ w0.heap.size ≤ x) ∧ ¬ ownsAny ρ φ st.blk x

/-- How it has come in: names from n to m. -/
structure Imp (w0 : World) (M : Perm) (S0 : Nat → Prop) (ρ : Nat → Option Loc) (φ : Nat → Nat → Prop) (S : Nat → Prop) (st st' : St) (a : Act) (w : World) (n m : Nat) (F : Nat → Prop) (ρ' : Nat → Option Loc) (φ' : Nat → Nat → Prop) : Prop where
  sim : Sim w0 M S0 ρ' φ' S st' a w
  oth : ∀ x, x < n ∨ m ≤ x → ρ' x = ρ x
  own : ∀ x, ownsAny ρ' φ' st'.blk x → ownsAny ρ φ st.blk x ∨ F x

theorem Sim.impC (h : Sim w0 M S0 ρ φ S st a w) {n : Nat} (hp : 2000000 ≤ n) {v : Value} {s : SV} {F : Nat → Prop} (hr : RepO S w v s F) (hF : NewF w0 M ρ φ S st w F) :
    ∃ ρ' φ', Imp w0 M S0 ρ φ S st (st.addBks (impC n s).2) a w n (n + 1) F ρ' φ' ∧ Rep ρ' S w v (impC n s).1 ∧ ∀ x, (impC n s).1.Names x → x = n := by
  unfold Go.Vcg.impC
  split
  · rename_i s' B he
    obtain ⟨lo, Fn, hO⟩ := open_ok hr he
    have hf := st.kill_free n
    have h1 := (h.kill n).rename hf lo Fn
    have hon : ∀ x, owns (fun x => if x = n then lo else ρ x) (fun x => if x = n then Fn else φ x) n x → F x := fun x hx => by
      rcases owns_same.mp hx with ⟨l, e1, e2⟩ | hx
      · exact e2 ▸ (hO.loc l e1).1
      · exact hO.sub x hx
    have h2 := h1.addBlk (k := B) hf.1 (fun g => by unfold isPin at g; omega) (by simp only [if_true]; exact (hO.ok _ (if_pos rfl)).1) (fun b x hb hx hx' => by
        have hbn : b ≠ n := fun e => hb (e ▸ hf.1)
        exact (hF x (hon x hx')).2.2.2 ⟨b, (blk_kill_has hb).2, (owns_ne hbn).mp hx⟩) (fun l e1 => by
        simp only [if_true] at e1 ⊢; exact (hO.loc l e1).2) (fun x hx => (hF x (hon x hx)).1) (fun x hx => (hF x (hon x hx)).2.1) (fun x hx => (hF x (hon x hx)).2.2.1)
    refine ⟨_, _, ⟨h2, fun x hx => if_neg (by omega), fun x ⟨b, hb, hx⟩ => ?_⟩, (hO.ok _ (if_pos rfl)).2, fun x hx => ?_⟩
    · have hb : ((st.kill n).setBlk n B).blk b ≠ none := hb
      rw [St.blk_setBlk] at hb
      by_cases e : b = n
      · subst e; exact .inr (hon x hx)
      · rw [if_neg e] at hb
        exact .inl ⟨b, (blk_kill_has hb).2, (owns_ne e).mp hx⟩
    · have hn0 : ∀ {c c' : SV} {B : Bk}, openC0 n c = some (c', B) → ∀ x, c'.Names x → x = n := fun {c c' B} he x hx => by
        cases c <;> (try (cases he; done)) <;> (simp only [openC0, Option.some.injEq, Prod.mk.injEq] at he; obtain ⟨rfl, _⟩ := he; cases hx; rfl)
      unfold openC at he
      split at he
      · split at he <;> try (cases he; done)
        rename_i h3
        simp only [Option.some.injEq, Prod.mk.injEq] at he
        obtain ⟨rfl, _⟩ := he
        cases hx with
        | ifc _ _ _ hx => exact hn0 h3 x hx
      · exact hn0 he x hx
  · exact ⟨ρ, φ, ⟨h, fun _ _ => rfl, fun x hx => .inl hx⟩, CRep.vis (F := F) (.inr hr), fun x hx => absurd (SV.vis_names hx) (hr.noNames x)⟩

theorem Sim.impCs (cs : List SV) : ∀ {ρ : Nat → Option Loc} {φ : Nat → Nat → Prop} {st : St} {vs : List Value} {n : Nat} {G : Nat → Nat → Prop}, Sim w0 M S0 ρ φ S st a w → 2000000 ≤ n → vs.length = cs.length → (∀ (i : Nat) (v : Value) (c : SV), vs[i]? = some v → cs[i]? = some c → RepO S w v c (G i)) →
    (∀ i j x, G i x → G j x → i = j) → (∀ i, NewF w0 M ρ φ S st w (G i)) →
    ∃ ρ' φ', Imp w0 M S0 ρ φ S st (st.addBks (impCs n cs).2) a w n (n + cs.length) (fun x => ∃ i, G i x) ρ' φ' ∧ (impCs n cs).1.length = cs.length ∧ (∀ (i : Nat) (v : Value) (c : SV), vs[i]? = some v → (impCs n cs).1[i]? = some c → Rep ρ' S w v c) ∧
      ∀ c ∈ (impCs n cs).1, ∀ x, c.Names x → n ≤ x ∧ x < n + cs.length := by
  induction cs with
  | nil => intro ρ φ st vs n G h _ hl _ _ _; exact ⟨ρ, φ, ⟨h, fun _ _ => rfl, fun x hx => .inl hx⟩, rfl, fun i v c _ h => by simp [Go.Vcg.impCs] at h, fun c hc => by simp [Go.Vcg.impCs] at hc⟩
  | cons c cs ih =>
    intro ρ φ st vs n G h hn hl hr hG hF
    cases vs with
    | nil => simp at hl
    | cons v vs =>
      obtain ⟨ρ1, φ1, h1, h2, h3⟩ := h.impC hn (hr 0 v c rfl rfl) (hF 0)
      obtain ⟨ρ2, φ2, g1, g2, g3, g4⟩ := ih (vs := vs) (n := n + 1) (G := fun i => G (i + 1)) h1.sim (by omega) (by simpa using hl) (fun i v c e1 e2 => hr (i + 1) v c (by simpa using e1) (by simpa using e2)) (fun i j x e1 e2 => by have := hG _ _ x e1 e2; omega) (fun i x hx => by
        obtain ⟨q1, q2, q3, q4⟩ := hF (i + 1) x hx
        refine ⟨q1, q2, q3, fun g => ?_⟩
        rcases h1.own x g with g | g
        · exact q4 g
        · have := hG _ _ x hx g; omega)
      refine ⟨ρ2, φ2, ⟨?_, fun x hx => ?_, fun x hx => ?_⟩, ?_, fun i u d e1 e2 => ?_, fun d hd x hx => ?_⟩
      · show Sim w0 M S0 ρ2 φ2 S (st.addBks ((Go.Vcg.impC n c).2 ++ (Go.Vcg.impCs (n + 1) cs).2)) a w
        rw [St.addBks_append]; exact g1.sim
      · simp only [List.length_cons] at hx
        rw [g1.oth x (by omega), h1.oth x (by omega)]
      · have hx : ownsAny ρ2 φ2 (st.addBks ((Go.Vcg.impC n c).2 ++ (Go.Vcg.impCs (n + 1) cs).2)).blk x := hx
        rw [St.addBks_append] at hx
        rcases g1.own x hx with g | ⟨i, g⟩
        · exact (h1.own x g).imp id fun g => ⟨0, g⟩
        · exact .inr ⟨i + 1, g⟩
      · simp [Go.Vcg.impCs, g2]
      · cases i with
        | zero =>
          simp only [List.getElem?_cons_zero, Option.some.injEq, Go.Vcg.impCs] at e1 e2
          subst e1; subst e2
          exact h2.mono (fun _ h => h) (fun _ _ => rfl) (fun x hx => g1.oth x (by have := h3 x hx; omega)) (fun _ => Nat.le_refl _)
        | succ i => exact g3 i u d (by simpa using e1) (by simpa [Go.Vcg.impCs] using e2)
      · simp only [Go.Vcg.impCs, List.mem_cons] at hd
        simp only [List.length_cons]
        rcases hd with rfl | hd
        · have := h3 x hx; omega
        · have := g4 d hd x hx; omega

theorem RepO.ag_inv {v : Value} {cs : List SV} {F : Nat → Prop} (h : RepO S w v (.ag cs) F) : ∃ (vs : List Value) (G : Nat → Nat → Prop), v = .agg vs.toArray ∧ vs.length = cs.length ∧ (∀ j x, G j x → F x) ∧ (∀ j j' x, G j x → G j' x → j = j') ∧ ∀ (i : Nat) (u : Value) (c : SV), vs[i]? = some u → cs[i]? = some c → RepO S w u c (G i) := by
  cases h with
  | ag vs _ G _ h1 h2 h3 h4 => exact ⟨vs, G, rfl, h3, h1, h2, h4⟩
  | per h => cases h with
    | ag vs _ hl h => exact ⟨vs, fun _ _ => False, rfl, hl, fun _ _ g => g.elim, fun _ _ _ g => g.elim, fun i u c h1 h2 => .per (h i u c h1 h2)⟩
theorem RepO.tu_inv {v : Value} {cs : List SV} {F : Nat → Prop} (h : RepO S w v (.tu cs) F) : ∃ (vs : List Value) (G : Nat → Nat → Prop), v = .tuple vs.toArray ∧ vs.length = cs.length ∧ (∀ j x, G j x → F x) ∧ (∀ j j' x, G j x → G j' x → j = j') ∧ ∀ (i : Nat) (u : Value) (c : SV), vs[i]? = some u → cs[i]? = some c → RepO S w u c (G i) := by
  cases h with
  | tu vs _ G _ h1 h2 h3 h4 => exact ⟨vs, G, rfl, h3, h1, h2, h4⟩
  | per h => cases h with
    | tu vs _ hl h => exact ⟨vs, fun _ _ => False, rfl, hl, fun _ _ g => g.elim, fun _ _ _ g => g.elim, fun i u c h1 h2 => .per (h i u c h1 h2)⟩

theorem Sim.impR1 (h : Sim w0 M S0 ρ φ S st a w) {n : Nat} (hp : 2000000 ≤ n) {v : Value} {s : SV} {F : Nat → Prop} (hr : RepO S w v s F) (hF : NewF w0 M ρ φ S st w F) (hs : impOk1 s) :
    ∃ ρ' φ', Imp w0 M S0 ρ φ S st (st.addBks (impR1 n s).2) a w n (n + 100) F ρ' φ' ∧ Rep ρ' S w v (impR1 n s).1 ∧ ∀ x, (impR1 n s).1.Names x → n ≤ x ∧ x < n + 100 := by
  have hone : ∃ ρ' φ', Imp w0 M S0 ρ φ S st (st.addBks (Go.Vcg.impC n s).2) a w n (n + 100) F ρ' φ' ∧ Rep ρ' S w v (Go.Vcg.impC n s).1 ∧ ∀ x, (Go.Vcg.impC n s).1.Names x → n ≤ x ∧ x < n + 100 := by
    obtain ⟨ρ', φ', h1, h2, h3⟩ := h.impC hp hr hF
    exact ⟨ρ', φ', ⟨h1.sim, fun x hx => h1.oth x (by omega), h1.own⟩, h2, fun x hx => by have := h3 x hx; omega⟩
  cases s with
  | ag cs =>
    obtain ⟨vs, G, rfl, hl, hG1, hG2, hc⟩ := hr.ag_inv
    have hs : cs.length ≤ 100 := hs
    obtain ⟨ρ', φ', h1, h2, h3, h4⟩ := Sim.impCs cs (n := n) h hp hl hc (fun i j x => hG2 i j x) (fun i x hx => hF x (hG1 i x hx))
    refine ⟨ρ', φ', ⟨h1.sim, fun x hx => h1.oth x (by omega), fun x hx => (h1.own x hx).imp id fun ⟨i, g⟩ => hG1 i x g⟩, .ag vs _ (by rw [h2]; exact hl) h3, fun x hx => ?_⟩
    cases hx with
    | ag _ c _ hc hx => have := h4 c hc x hx; omega
  | _ => exact hone

theorem Sim.impRs (xs : List SV) : ∀ {ρ : Nat → Option Loc} {φ : Nat → Nat → Prop} {st : St} {vs : List Value} {n : Nat} {G : Nat → Nat → Prop}, Sim w0 M S0 ρ φ S st a w → 2000000 ≤ n → vs.length = xs.length → (∀ (i : Nat) (v : Value) (c : SV), vs[i]? = some v → xs[i]? = some c → RepO S w v c (G i)) →
    (∀ i j x, G i x → G j x → i = j) → (∀ i, NewF w0 M ρ φ S st w (G i)) → (∀ x ∈ xs, impOk1 x) →
    ∃ ρ' φ', Imp w0 M S0 ρ φ S st (st.addBks (impRs n xs).2) a w n (n + 100 * xs.length) (fun x => ∃ i, G i x) ρ' φ' ∧ (impRs n xs).1.length = xs.length ∧ (∀ (i : Nat) (v : Value) (c : SV), vs[i]? = some v → (impRs n xs).1[i]? = some c → Rep ρ' S w v c) ∧
      ∀ c ∈ (impRs n xs).1, ∀ x, c.Names x → n ≤ x ∧ x < n + 100 * xs.length := by
  induction xs with
  | nil => intro ρ φ st vs n G h _ hl _ _ _ _; exact ⟨ρ, φ, ⟨h, fun _ _ => rfl, fun x hx => .inl hx⟩, rfl, fun i v c _ h => by simp [Go.Vcg.impRs] at h, fun c hc => by simp [Go.Vcg.impRs] at hc⟩
  | cons c cs ih =>
    intro ρ φ st vs n G h hn hl hr hG hF hs
    cases vs with
    | nil => simp at hl
    | cons v vs =>
      obtain ⟨ρ1, φ1, h1, h2, h3⟩ := h.impR1 hn (hr 0 v c rfl rfl) (hF 0) (hs c (by simp))
      obtain ⟨ρ2, φ2, g1, g2, g3, g4⟩ := ih (vs := vs) (n := n + 100) (G := fun i => G (i + 1)) h1.sim (by omega) (by simpa using hl) (fun i v c e1 e2 => hr (i + 1) v c (by simpa using e1) (by simpa using e2)) (fun i j x e1 e2 => by have := hG _ _ x e1 e2; omega) (fun i x hx => by
        obtain ⟨q1, q2, q3, q4⟩ := hF (i + 1) x hx
        refine ⟨q1, q2, q3, fun g => ?_⟩
        rcases h1.own x g with g | g
        · exact q4 g
        · have := hG _ _ x hx g; omega) (fun x hx => hs x (by simp [hx]))
      refine ⟨ρ2, φ2, ⟨?_, fun x hx => ?_, fun x hx => ?_⟩, ?_, fun i u d e1 e2 => ?_, fun d hd x hx => ?_⟩
      · show Sim w0 M S0 ρ2 φ2 S (st.addBks ((Go.Vcg.impR1 n c).2 ++ (Go.Vcg.impRs (n + 100) cs).2)) a w
        rw [St.addBks_append]; exact g1.sim
      · rw [List.length_cons, Nat.mul_succ] at hx
        rw [g1.oth x (by omega), h1.oth x (by omega)]
      · have hx : ownsAny ρ2 φ2 (st.addBks ((Go.Vcg.impR1 n c).2 ++ (Go.Vcg.impRs (n + 100) cs).2)).blk x := hx
        rw [St.addBks_append] at hx
        rcases g1.own x hx with g | ⟨i, g⟩
        · exact (h1.own x g).imp id fun g => ⟨0, g⟩
        · exact .inr ⟨i + 1, g⟩
      · simp [Go.Vcg.impRs, g2]
      · cases i with
        | zero =>
          simp only [List.getElem?_cons_zero, Option.some.injEq, Go.Vcg.impRs] at e1 e2
          subst e1; subst e2
          exact h2.mono (fun _ h => h) (fun _ _ => rfl) (fun x hx => g1.oth x (by have := h3 x hx; omega)) (fun _ => Nat.le_refl _)
        | succ i => exact g3 i u d (by simpa using e1) (by simpa [Go.Vcg.impRs] using e2)
      · simp only [Go.Vcg.impRs, List.mem_cons] at hd
        rw [List.length_cons, Nat.mul_succ]
        rcases hd with rfl | hd
        · have := h3 x hx; omega
        · have := g4 d hd x hx; omega

theorem Sim.impR (h : Sim w0 M S0 ρ φ S st a w) {n : Nat} (hp : 2000000 ≤ n) {v : Value} {s : SV} {F : Nat → Prop} (hr : RepO S w v s F) (hF : NewF w0 M ρ φ S st w F) (hs : impOk s) :
    ∃ ρ' φ', Sim w0 M S0 ρ' φ' S (st.addBks (impR n s).2) a w ∧ Rep ρ' S w v (impR n s).1 := by
  have hone : impOk1 s → ∃ ρ' φ', Sim w0 M S0 ρ' φ' S (st.addBks (Go.Vcg.impR1 n s).2) a w ∧ Rep ρ' S w v (Go.Vcg.impR1 n s).1 := fun hs => by
    obtain ⟨ρ', φ', h1, h2, _⟩ := h.impR1 hp hr hF hs
    exact ⟨ρ', φ', h1.sim, h2⟩
  cases s with
  | tu xs =>
    obtain ⟨vs, G, rfl, hl, hG1, hG2, hc⟩ := hr.tu_inv
    obtain ⟨ρ', φ', h1, h2, h3, _⟩ := Sim.impRs xs (n := n) h hp hl hc (fun i j x => hG2 i j x) (fun i x hx => hF x (hG1 i x hx)) hs
    exact ⟨ρ', φ', h1.sim, .tu vs _ (by rw [h2]; exact hl) h3⟩
  | _ => exact hone hs

def nmR (d : Nat) : Nat := 10000000 + 100000 * d
/-- The result of a call comes into slot d. -/
def bindR (st : St) (d : Option Nat) (s : SV) : St := match d with
  | some d => (st.addBks (impR (nmR d) s).2).set d (impR (nmR d) s).1
  | none => st

theorem Sim.bind (h : Sim w0 M S0 ρ φ S st a w) {d : Option Nat} (hd : dOk st.n d) {v : Value} {s : SV} {F : Nat → Prop} (hr : RepO S w v s F) (hF : NewF w0 M ρ φ S st w F) (hs : impOk s) : Holds w0 M S0 (bindR st d s) (a.put d v) w := by
  cases d with
  | none => exact ⟨ρ, φ, S, h⟩
  | some d =>
    obtain ⟨ρ', φ', h1, h2⟩ := h.impR (n := nmR d) (by unfold nmR; omega) hr hF hs
    exact ⟨ρ', φ', S, h1.setSlot (by rw [St.addBks_n]; exact hd) h2⟩

end Go.Vcg
/- A call under a contract. -/
namespace Go.Vcg

variable {w0 : World} {M : Perm} {S0 : Nat → Prop} {ρ : Nat → Option Loc} {φ : Nat → Nat → Prop} {S : Nat → Prop} {st : St} {a : Act} {w : World} {P : Program} {T : Nat → Option TI} {C : Cx} {K : St → Prop} {o : Oper}

/-- A function with a body of Go's. -/
def CallOk (P : Program) (f : Nat) : Prop := ∃ fn : Func, P.funcs[f]? = some fn ∧ fn.body.isSome = true ∧ (fn.name == "runtime.NumGoroutine") = false

theorem run_callFunc {f : Nat} (h : CallOk P f) (args : Array Value) (w : World) : (callFunc f args).run P w = .ok (.enter f args) w := by
  obtain ⟨fn, h1, h2, h3⟩ := h
  have h4 : fn.body ≠ none := fun hb => by rw [hb] at h2; cases h2
  have h5 : ¬ fn.name = "runtime.NumGoroutine" := by simpa using h3
  simp [callFunc, h1, h5, h4]

/-! ## Names and pins -/

abbrev Bs := List (Nat × Nat)
/-- The pin of a name. -/
def toPin (bs : Bs) (b : Nat) : Option Nat := (bs.map fun q => (q.2, q.1)).lookup b
/-- The name of a pin. -/
def unPin (bs : Bs) (p : Nat) : Option Nat := bs.lookup p
def bsOk (bs : Bs) : Bool := decide (bs.map (·.1)).Nodup && decide (bs.map (·.2)).Nodup && bs.all fun q => decide (isPin q.1)

theorem lookup_mem {α : Type} {l : List (Nat × α)} {x : Nat} {y : α} (h : l.lookup x = some y) : (x, y) ∈ l := by
  induction l with
  | nil => simp at h
  | cons p l ih =>
    obtain ⟨t, s⟩ := p
    rw [lookup_cons_if] at h
    split at h
    · rename_i e; obtain rfl := Option.some.inj h; subst e; simp
    · exact List.mem_cons_of_mem _ (ih h)
theorem lookup_of_mem {α : Type} {l : List (Nat × α)} (hn : (l.map (·.1)).Nodup) {x : Nat} {y : α} (h : (x, y) ∈ l) : l.lookup x = some y := by
  induction l with
  | nil => simp at h
  | cons p l ih =>
    obtain ⟨t, s⟩ := p
    simp only [List.map_cons, List.nodup_cons] at hn
    rw [lookup_cons_if]
    rcases List.mem_cons.mp h with e | e
    · simp only [Prod.mk.injEq] at e
      obtain ⟨rfl, rfl⟩ := e
      rw [if_pos rfl]
    · have hxt : x ≠ t := fun g => hn.1 (g ▸ List.mem_map_of_mem (f := (·.1)) e)
      rw [if_neg hxt]
      exact ih hn.2 e
theorem bsOk_iff {bs : Bs} (h : bsOk bs = true) : (∀ p b, unPin bs p = some b ↔ toPin bs b = some p) ∧ ∀ p b, unPin bs p = some b → isPin p := by
  simp only [bsOk, Bool.and_eq_true, decide_eq_true_eq, List.all_eq_true] at h
  obtain ⟨⟨h1, h2⟩, h3⟩ := h
  have hm : ∀ p b, (p, b) ∈ bs ↔ (b, p) ∈ bs.map (fun q => (q.2, q.1)) := fun p b => by
    rw [List.mem_map]
    constructor
    · intro h; exact ⟨(p, b), h, rfl⟩
    · rintro ⟨q, h, e⟩
      simp only [Prod.mk.injEq] at e
      obtain ⟨rfl, rfl⟩ := e
      exact h
  refine ⟨fun p b => ⟨fun h => ?_, fun h => ?_⟩, fun p b h => h3 _ (lookup_mem h)⟩
  · refine lookup_of_mem ?_ ((hm p b).mp (lookup_mem h))
    rw [List.map_map]
    exact h2
  · exact lookup_of_mem h1 ((hm p b).mpr (lookup_mem h))

/-- The blocks that are handed over, under their pins. -/
def pinsOf (B : Nat → Option Bk) (r : Nat → Option Nat) : Bs → Option Pins
  | [] => some []
  | (p, b) :: l => match B b, pinsOf B r l with
    | some k, some ps => some ((p, k.rn r) :: ps)
    | _, _ => none
theorem pinsOf_pk {B : Nat → Option Bk} {r : Nat → Option Nat} : ∀ {bs : Bs} {pins : Pins}, pinsOf B r bs = some pins → ∀ p, (∀ k, pk pins p = some k → ∃ b k', unPin bs p = some b ∧ B b = some k' ∧ k = k'.rn r) ∧ (∀ b, unPin bs p = some b → pk pins p ≠ none) := by
  intro bs
  induction bs with
  | nil =>
    intro pins h p
    obtain rfl := Option.some.inj h
    exact ⟨fun k hk => by simp [pk] at hk, fun b hb => by simp [unPin] at hb⟩
  | cons q bs ih =>
    intro pins h p
    obtain ⟨p0, b0⟩ := q
    rw [pinsOf] at h
    split at h <;> try (cases h; done)
    rename_i k0 ps h1 h2
    obtain rfl := Option.some.inj h
    obtain ⟨g1, g2⟩ := ih h2 p
    unfold pk unPin
    rw [lookup_cons_if, lookup_cons_if]
    by_cases e : p = p0
    · rw [if_pos e, if_pos e]
      exact ⟨fun k hk => ⟨b0, k0, rfl, h1, (Option.some.inj hk).symm⟩, fun _ _ => by simp⟩
    · rw [if_neg e, if_neg e]
      exact ⟨g1, g2⟩

/-- What may be read during the call. -/
def lentB (st : St) (bs : Bs) (sh : Bool) (b : Nat) : Option Bk := if sh || (toPin bs b).isSome then none else st.blk b

/-- Behind the call: what was used up is forgotten; what is left has been told. -/
def usedUp (ps : Pins) : Bs → St → St
  | [], st => st
  | (p, b) :: l, st => usedUp ps l (if (pk ps p).isNone then st.kill b else st)
def leftOver (ps : Pins) (u : Nat → Option Nat) : Bs → St → St
  | [], st => st
  | (p, b) :: l, st => leftOver ps u l (match pk ps p with
    | some k => st.setBlk b (k.rn u)
    | none => st)
def backName (bs : Bs) (ps : Pins) (p : Nat) : Option Nat := if (pk ps p).isSome then unPin bs p else none
def backs (st : St) (bs : Bs) (ps : Pins) : St := leftOver ps (backName bs ps) bs (usedUp ps bs st)

theorem usedUp_n (ps : Pins) (bs : Bs) (st : St) : (usedUp ps bs st).n = st.n := by
  induction bs generalizing st with
  | nil => rfl
  | cons q bs ih =>
    obtain ⟨p, b⟩ := q
    rw [usedUp, ih]
    split <;> rfl
theorem leftOver_n (ps : Pins) (u : Nat → Option Nat) (bs : Bs) (st : St) : (leftOver ps u bs st).n = st.n := by
  induction bs generalizing st with
  | nil => rfl
  | cons q bs ih =>
    obtain ⟨p, b⟩ := q
    rw [leftOver, ih]
    split <;> rfl
theorem leftOver_sl (ps : Pins) (u : Nat → Option Nat) (bs : Bs) (st : St) (t : Nat) : (leftOver ps u bs st).get t = st.get t := by
  induction bs generalizing st with
  | nil => rfl
  | cons q bs ih =>
    obtain ⟨p, b⟩ := q
    rw [leftOver, ih]
    split <;> rfl
theorem leftOver_df (ps : Pins) (u : Nat → Option Nat) (bs : Bs) (st : St) : (leftOver ps u bs st).df = st.df := by
  induction bs generalizing st with
  | nil => rfl
  | cons q bs ih =>
    obtain ⟨p, b⟩ := q
    rw [leftOver, ih]
    split <;> rfl
theorem leftOver_blk (ps : Pins) (u : Nat → Option Nat) {bs : Bs} (hn : (bs.map (·.2)).Nodup) (st : St) (b : Nat) :
    (leftOver ps u bs st).blk b = match (toPin bs b).bind (pk ps) with
      | some k => some (k.rn u)
      | none => st.blk b := by
  induction bs generalizing st with
  | nil => rfl
  | cons q bs ih =>
    obtain ⟨p0, b0⟩ := q
    simp only [List.map_cons, List.nodup_cons] at hn
    rw [leftOver, ih hn.2]
    have ht : toPin ((p0, b0) :: bs) b = if b = b0 then some p0 else toPin bs b := by
      unfold toPin
      rw [List.map_cons, lookup_cons_if]
    rw [ht]
    by_cases e : b = b0
    · subst e
      have : toPin bs b = none := by
        cases e : toPin bs b with
        | none => rfl
        | some p =>
          have := lookup_mem e
          rw [List.mem_map] at this
          obtain ⟨q, h1, h2⟩ := this
          simp only [Prod.mk.injEq] at h2
          exact absurd (List.mem_map_of_mem (f := (·.2)) h1) (by rw [h2.1]; exact hn.1)
      rw [this, if_pos rfl]
      simp only [Option.bind_none, Option.bind_some]
      cases e2 : pk ps p0 with
      | none => rfl
      | some k => simp only [St.blk_setBlk, if_true]
    · rw [if_neg e]
      cases e2 : (toPin bs b).bind (pk ps) with
      | some k => rfl
      | none =>
        simp only
        cases pk ps p0 with
        | none => rfl
        | some k => simp only [St.blk_setBlk, if_neg e]

theorem Sim.usedUp (ps : Pins) (bs : Bs) : ∀ {st : St}, Sim w0 M S0 ρ φ S st a w → Sim w0 M S0 ρ φ S (usedUp ps bs st) a w ∧ (∀ b, (Go.Vcg.usedUp ps bs st).blk b ≠ none → st.blk b ≠ none ∧ ∀ p, (p, b) ∈ bs → pk ps p ≠ none) := by
  induction bs with
  | nil => intro st h; exact ⟨h, fun b hb => ⟨hb, fun p hp => by simp at hp⟩⟩
  | cons q bs ih =>
    intro st h
    obtain ⟨p, b⟩ := q
    rw [Go.Vcg.usedUp]
    by_cases e : (pk ps p).isNone = true
    · rw [if_pos e]
      obtain ⟨h1, h2⟩ := ih (h.kill b)
      refine ⟨h1, fun x hx => ?_⟩
      obtain ⟨g1, g2⟩ := h2 x hx
      obtain ⟨g3, g4⟩ := blk_kill_has g1
      refine ⟨g4, fun p' hp' => ?_⟩
      rcases List.mem_cons.mp hp' with e' | e'
      · simp only [Prod.mk.injEq] at e'; exact absurd e'.2 g3
      · exact g2 p' e'
    · rw [if_neg e]
      obtain ⟨h1, h2⟩ := ih h
      refine ⟨h1, fun x hx => ?_⟩
      obtain ⟨g1, g2⟩ := h2 x hx
      refine ⟨g1, fun p' hp' => ?_⟩
      rcases List.mem_cons.mp hp' with e' | e'
      · simp only [Prod.mk.injEq] at e'
        obtain ⟨rfl, rfl⟩ := e'
        intro g
        rw [g] at e
        exact e rfl
      · exact g2 p' e'

/-- A call under a contract: what it resolves to, and with which values, is given. -/
theorem Sop.callG {c : Call} {f : Nat} {svs : List SV} (bs : Bs) {pins : Pins} {args : List SV} {sh : Bool} {post : Pins → Out → Prop} (hsp : MSpec C.P f pins args sh post) (ho : o.op = .call c)
    (hres : ∀ (ρ : Nat → Option Loc) (φ : Nat → Nat → Prop) (S : Nat → Prop) (a : Act) (w : World), Sim C.w0 C.M C.S0 ρ φ S st a w → ∃ vals : List Value, vals.length = svs.length ∧ (∀ (i : Nat) (v : Value) (s : SV), vals[i]? = some v → svs[i]? = some s → Rep ρ S w v s) ∧
      (do let d ← resolve a.eval c o.type; invoke d.target d.args : Sem Next).run C.P w = .ok (.enter f vals.toArray) w)
    (hbs : bsOk bs = true) (hw : ∀ q ∈ bs, C.M.wr q.2) (hp : pinsOf st.blk (toPin bs) bs = some pins) (hal : svs.length = args.length) (ha : ∀ (i : Nat) (s t : SV), svs[i]? = some s → args[i]? = some t → argSV (lentB st bs sh) (toPin bs) s = t ∨ (s = .nl ∧ t = .nl)) (hd : dOk st.n o.dst)
    (hK : ∀ ps o', post ps o' → match o' with
      | .ret s => impOk s ∧ K (bindR (backs st bs ps) o.dst s)
      | .pan ch => C.pan ch (backs st bs ps)) : Sop C o st K := by
  unfold Sop
  intro Q a w hPQ ⟨ρ, φ, S, h⟩
  obtain ⟨hup, hpin⟩ := bsOk_iff hbs
  have hnd : (bs.map (·.2)).Nodup := by
    simp only [bsOk, Bool.and_eq_true, decide_eq_true_eq] at hbs
    exact hbs.1.2
  -- what the callee sees
  let ρc : Nat → Option Loc := fun p => (unPin bs p).bind ρ
  let φc : Nat → Nat → Prop := fun p x => ∃ b, unPin bs p = some b ∧ φ b x
  let Sc : Nat → Prop := fun x => S x ∨ ∃ b, lentB st bs sh b ≠ none ∧ owns ρ φ b x
  have hlb : ∀ b, lentB st bs sh b ≠ none → sh = false ∧ toPin bs b = none ∧ st.blk b ≠ none := fun b hb => by
    unfold lentB at hb
    split at hb
    · exact absurd rfl hb
    · rename_i e
      simp only [Bool.or_eq_true, not_or, Bool.not_eq_true, Option.isSome_eq_false_iff, Option.isNone_iff_eq_none] at e
      exact ⟨e.1, e.2, hb⟩
  have hSS : ∀ i, S i → Sc i := fun i hi => .inl hi
  have hSlt : ∀ i, Sc i → i < w.heap.size := fun i hi => hi.elim (h.sb i) fun ⟨b, hb, hx⟩ => h.heap.lt b i (hlb b hb).2.2 hx
  have hpb : ∀ p, pk pins p ≠ none → ∃ b, unPin bs p = some b ∧ st.blk b ≠ none := fun p hp' => by
    obtain ⟨k, hk'⟩ := Option.ne_none_iff_exists'.mp hp'
    obtain ⟨b, k', h1, h2, _⟩ := (pinsOf_pk hp p).1 k hk'
    exact ⟨b, h1, by rw [h2]; simp⟩
  have hρc : ∀ {p b : Nat}, unPin bs p = some b → ρc p = ρ b := fun {p b} e => by show (unPin bs p).bind ρ = ρ b; rw [e]; rfl
  have hoc : ∀ {p b : Nat}, unPin bs p = some b → ∀ x, owns ρc φc p x → owns ρ φ b x := fun {p b} e x hx => by
    rcases hx with ⟨l, e1, e2⟩ | ⟨b', e1, e2⟩
    · exact .inl ⟨l, (hρc e) ▸ e1, e2⟩
    · rw [e] at e1; obtain rfl := Option.some.inj e1; exact .inr e2
  have hoc' : ∀ {p b : Nat}, unPin bs p = some b → ∀ x, owns ρ φ b x → owns ρc φc p x := fun {p b} e x hx => by
    rcases hx with ⟨l, e1, e2⟩ | hx
    · exact .inl ⟨l, (hρc e).trans e1, e2⟩
    · exact .inr ⟨b, e, hx⟩
  have hrn : ∀ b b', toPin bs b = some b' → ρc b' = ρ b := fun b b' e => hρc ((hup b' b).mpr e)
  have hheap : HOk ρc φc Sc w (pk pins) := by
    refine ⟨fun p k hk' => ?_, fun p p' x h1 h2 e1 e2 => ?_, fun p l h1 e1 e2 => ?_, fun p x h1 e1 e2 => ?_, fun p x h1 e1 => ?_⟩
    · obtain ⟨b, k', h1, h2, rfl⟩ := (pinsOf_pk hp p).1 k hk'
      have := (h.heap.blk b k' h2).rn (ρ' := ρc) (S' := Sc) (b' := p) hrn hSS h.sb (hρc h1)
      have hφ : φc p = φ b := by
        funext x
        apply propext
        constructor
        · rintro ⟨b', e1, e2⟩; rw [h1] at e1; obtain rfl := Option.some.inj e1; exact e2
        · intro hx; exact ⟨b, h1, hx⟩
      rw [hφ]; exact this
    · obtain ⟨b, f1, f2⟩ := hpb p h1
      obtain ⟨b', f3, f4⟩ := hpb p' h2
      have := h.heap.inj b b' x f2 f4 (hoc f1 x e1) (hoc f3 x e2)
      subst this
      have q1 := (hup p b).mp f1
      have q2 := (hup p' b).mp f3
      rw [q1] at q2
      exact Option.some.inj q2
    · obtain ⟨b, f1, f2⟩ := hpb p h1
      obtain ⟨b', g1, g2⟩ := e2
      rw [f1] at g1; obtain rfl := Option.some.inj g1
      exact h.heap.self b l f2 ((hρc f1) ▸ e1) g2
    · obtain ⟨b, f1, f2⟩ := hpb p h1
      rcases e2 with e2 | ⟨b', g1, g2⟩
      · exact h.heap.notS b x f2 (hoc f1 x e1) e2
      · obtain ⟨_, g3, g4⟩ := hlb b' g1
        have := h.heap.inj b b' x f2 g4 (hoc f1 x e1) g2
        subst this
        rw [(hup p b).mp f1] at g3; cases g3
    · obtain ⟨b, f1, f2⟩ := hpb p h1
      exact h.heap.lt b x f2 (hoc f1 x e1)
  have hlentH : HOk ρ φ S w (lentB st bs sh) := by
    refine ⟨fun b k hk' => ?_, fun b b' x h1 h2 => h.heap.inj b b' x (hlb b h1).2.2 (hlb b' h2).2.2, fun b l h1 => h.heap.self b l (hlb b h1).2.2, fun b x h1 => h.heap.notS b x (hlb b h1).2.2, fun b x h1 => h.heap.lt b x (hlb b h1).2.2⟩
    have : st.blk b = some k := by
      unfold lentB at hk'
      split at hk'
      · cases hk'
      · exact hk'
    exact h.heap.blk b k this
  obtain ⟨vals, hvl, hvr, hrun⟩ := hres ρ φ S a w h
  have hlen : vals.length = args.length := hvl.trans hal
  have hargs : ∀ (i : Nat) (v : Value) (s : SV), vals[i]? = some v → args[i]? = some s → Rep ρc Sc w v s := fun i v s h1 h2 => by
    have hi : i < svs.length := by rw [hal]; exact (List.getElem?_eq_some_iff.mp h2).1
    have h3 := hvr i v svs[i] h1 (List.getElem?_eq_getElem hi)
    rcases ha i svs[i] s (List.getElem?_eq_getElem hi) h2 with rfl | ⟨e1, rfl⟩
    · exact argSV_ok hlentH hSS (fun b x hb hx => .inr ⟨b, hb, hx⟩) hrn h3
    · rw [e1] at h3
      cases h3 with
      | per hp => cases hp; exact .per .nl
  have hcall := hsp w Sc ρc φc vals hSlt hheap (fun p hp' => by obtain ⟨b, h1, _⟩ := hpb p hp'; exact hpin p b h1) hlen hargs
  unfold Oper.wp execOp
  rw [ho]
  show Oper.upon C.P o a _ Q ((do let d ← resolve a.eval c o.type; invoke d.target d.args : Sem Next).run C.P w)
  rw [hrun, Oper.upon_enter]
  refine hcall.mono fun e w' he => ?_
  obtain ⟨o', ps, ρ', φ', S', hpost, hM⟩ := he
  have hKo := hK ps o' hpost
  -- what is there behind the call
  obtain ⟨h1, h1b⟩ := h.usedUp ps bs
  have hOwn : ∀ x, ownsAny ρc φc (pk pins) x → ∃ b p, unPin bs p = some b ∧ st.blk b ≠ none ∧ owns ρ φ b x := fun x ⟨p, hp1, hx⟩ => by
    obtain ⟨b, f1, f2⟩ := hpb p hp1
    exact ⟨b, p, f1, f2, hoc f1 x hx⟩
  have hwr : ∀ {b p : Nat}, unPin bs p = some b → C.M.wr b := fun {b p} e => hw (p, b) (lookup_mem e)
  have hold : ∀ i, i < w.heap.size → (∀ b p, unPin bs p = some b → st.blk b ≠ none → ¬ owns ρ φ b i) → w'.heap[i]? = w.heap[i]? := fun i hi hn => hM.keep i hi fun g => by
    obtain ⟨b, p, f1, f2, f3⟩ := hOwn i g
    exact hn b p f1 f2 f3
  have hS' : ∀ i, S i → w'.heap[i]? = w.heap[i]? := fun i hi => hold i (h.sb i hi) fun b p _ f2 f3 => h.heap.notS b i f2 f3 hi
  have hzz := hM.wide.2
  let S2 : Nat → Prop := fun i => S i ∨ S' i
  have hperm : ∀ i, S' i → S i ∨ w.heap.size ≤ i ∨ ∃ b p, unPin bs p = some b ∧ st.blk b ≠ none ∧ owns ρ φ b i := fun i hi => by
    rcases hM.perm i hi with ⟨e1, g⟩ | g | g
    · rcases g with g | ⟨b, hb, _⟩
      · exact .inl g
      · have := (hlb b hb).1; rw [e1] at this; cases this
    · exact .inr (.inl g)
    · exact .inr (.inr (hOwn i g))
  have hblk : ∀ b, (backs st bs ps).blk b = match (toPin bs b).bind (pk ps) with
      | some k => some (k.rn (backName bs ps))
      | none => (usedUp ps bs st).blk b := fun b => leftOver_blk ps _ hnd _ b
  -- the name's blocks
  have hcase : ∀ b, (backs st bs ps).blk b ≠ none → (∃ p k, toPin bs b = some p ∧ unPin bs p = some b ∧ pk ps p = some k ∧ (backs st bs ps).blk b = some (k.rn (backName bs ps)) ∧ st.blk b ≠ none) ∨ (toPin bs b = none ∧ (usedUp ps bs st).blk b ≠ none ∧ (backs st bs ps).blk b = (usedUp ps bs st).blk b ∧ st.blk b ≠ none) := fun b hb => by
    rw [hblk b] at hb
    cases e : toPin bs b with
    | none =>
      rw [e] at hb
      exact .inr ⟨rfl, hb, by rw [hblk b, e]; rfl, (h1b b hb).1⟩
    | some p =>
      rw [e] at hb
      have hun := (hup p b).mpr e
      simp only [Option.bind_some] at hb
      cases e2 : pk ps p with
      | none =>
        rw [e2] at hb
        exact absurd e2 ((h1b b hb).2 p (lookup_mem hun))
      | some k =>
        refine .inl ⟨p, k, rfl, hun, e2, by rw [hblk b, e]; simp only [Option.bind_some, e2], ?_⟩
        obtain ⟨b', f1, f2⟩ := hpb p (hM.same p (by rw [e2]; simp)).1
        rw [hun] at f1; obtain rfl := Option.some.inj f1
        exact f2
  let φ2 : Nat → Nat → Prop := fun b x => match toPin bs b with
    | some p => φ' p x
    | none => φ b x
  have ho2a : ∀ {b p k}, toPin bs b = some p → unPin bs p = some b → pk ps p = some k → ∀ x, owns ρ φ2 b x → owns ρ' φ' p x := fun {b p k} e1 e2 e3 x hx => by
    rcases hx with ⟨l, g1, g2⟩ | hx
    · exact .inl ⟨l, ((hM.same p (by rw [e3]; simp)).2.trans (hρc e2)).trans g1, g2⟩
    · simp only [φ2, e1] at hx; exact .inr hx
  have ho2b : ∀ {b}, toPin bs b = none → ∀ x, owns ρ φ2 b x → owns ρ φ b x := fun {b} e1 x hx => by
    rcases hx with hx | hx
    · exact .inl hx
    · simp only [φ2, e1] at hx; exact .inr hx
  have hpart : ∀ {p k x}, pk ps p = some k → owns ρ' φ' p x → (∃ b p', unPin bs p' = some b ∧ st.blk b ≠ none ∧ owns ρ φ b x) ∨ w.heap.size ≤ x := fun {p k x} e1 hx =>
    (hM.part x ⟨p, by rw [e1]; simp, hx⟩).imp (hOwn x) id
  have hnoOther : ∀ {b x}, toPin bs b = none → st.blk b ≠ none → owns ρ φ b x → ∀ b' p', unPin bs p' = some b' → st.blk b' ≠ none → ¬ owns ρ φ b' x := fun {b x} e1 e2 e3 b' p' f1 f2 f3 => by
    have := h.heap.inj b b' x e2 f2 e3 f3
    subst this
    rw [(hup p' b).mp f1] at e1; cases e1
  have h2 : Sim C.w0 C.M C.S0 ρ φ2 S2 (backs st bs ps) a w' := by
    refine ⟨h1.size.trans (leftOver_n ps _ bs _).symm, by rw [show (backs st bs ps).df = (usedUp ps bs st).df from leftOver_df ps _ bs _]; exact h1.defers, fun t => ?_, fun i j => by unfold St.dget; rw [show (backs st bs ps).df = (usedUp ps bs st).df from leftOver_df ps _ bs _]; exact (h1.dslot i j).mono (fun _ hi => .inl hi) hS' (fun _ _ => rfl) hzz, ⟨fun b k hb => ?_, fun b b' x q1 q2 e1 e2 => ?_, fun b l q1 e1 e2 => ?_, fun b x q1 e1 e2 => ?_, fun b x q1 e1 => ?_⟩, fun i hi => ?_, fun i hi => .inl (h.base i hi), fun i hi => ?_, Nat.le_trans h.grow hM.grow, fun i hi hm => ?_, fun b x q1 e1 => ?_, fun b q1 q2 => ?_, ?_, h.wide.1.trans hM.wide.1, fun x => Nat.le_trans (h.wide.2 x) (hzz x)⟩
    · rw [show (backs st bs ps).get t = (usedUp ps bs st).get t from leftOver_sl ps _ bs _ t]
      exact (h1.slot t).mono (fun _ hi => .inl hi) hS' (fun _ _ => rfl) hzz
    · rcases hcase b (by rw [hb]; simp) with ⟨p, k', e1, e2, e3, e4, e5⟩ | ⟨e1, e2, e3, e4⟩
      · rw [hb] at e4
        obtain rfl := Option.some.inj e4
        have := (hM.heap.blk p k' e3).rn (ρ' := ρ) (S' := S2) (b' := b) (r := backName bs ps) (fun p' b' g => by
          unfold backName at g
          split at g
          · rename_i hs
            have hne : pk ps p' ≠ none := fun e => by rw [e] at hs; cases hs
            exact ((hM.same p' hne).2.trans (hρc g)).symm
          · cases g) (fun i hi => .inr hi) hM.slt (((hM.same p (by rw [e3]; simp)).2.trans (hρc e2)).symm)
        have hφ : φ2 b = φ' p := by funext x; simp only [φ2, e1]
        rw [hφ]; exact this
      · rw [hb] at e3
        have hφ : φ2 b = φ b := by funext x; simp only [φ2, e1]
        rw [hφ]
        refine (h1.heap.blk b k e3.symm).mono rfl (fun _ hi => .inl hi) hM.grow (fun l hl => hold _ (h.heap.lt b _ e4 (.inl ⟨l, hl, rfl⟩)) (hnoOther e1 e4 (.inl ⟨l, hl, rfl⟩))) (fun i hi hlt => ?_) h.sb (fun _ _ => rfl) hzz (fun _ h => h)
        rcases hi with hi | hi
        · exact hS' i hi
        · exact hold i hlt (hnoOther e1 e4 (.inr hi))
    · rcases hcase b q1 with ⟨p, k, f1, f2, f3, f4, f5⟩ | ⟨f1, f2, f3, f4⟩ <;> rcases hcase b' q2 with ⟨p', k', g1, g2, g3, g4, g5⟩ | ⟨g1, g2, g3, g4⟩
      · have := hM.heap.inj p p' x (by rw [f3]; simp) (by rw [g3]; simp) (ho2a f1 f2 f3 x e1) (ho2a g1 g2 g3 x e2)
        subst this
        rw [f2] at g2; exact Option.some.inj g2
      · have hx := ho2b g1 x e2
        rcases hpart f3 (ho2a f1 f2 f3 x e1) with ⟨b0, p0, u1, u2, u3⟩ | u
        · exact absurd u3 (hnoOther g1 g4 hx b0 p0 u1 u2)
        · have := h.heap.lt b' x g4 hx; omega
      · have hx := ho2b f1 x e1
        rcases hpart g3 (ho2a g1 g2 g3 x e2) with ⟨b0, p0, u1, u2, u3⟩ | u
        · exact absurd u3 (hnoOther f1 f4 hx b0 p0 u1 u2)
        · have := h.heap.lt b x f4 hx; omega
      · exact h.heap.inj b b' x f4 g4 (ho2b f1 x e1) (ho2b g1 x e2)
    · rcases hcase b q1 with ⟨p, k, f1, f2, f3, f4, f5⟩ | ⟨f1, f2, f3, f4⟩
      · simp only [φ2, f1] at e2
        exact hM.heap.self p l (by rw [f3]; simp) (((hM.same p (by rw [f3]; simp)).2.trans (hρc f2)).trans e1) e2
      · simp only [φ2, f1] at e2
        exact h.heap.self b l f4 e1 e2
    · rcases hcase b q1 with ⟨p, k, f1, f2, f3, f4, f5⟩ | ⟨f1, f2, f3, f4⟩
      · have hx := ho2a f1 f2 f3 x e1
        rcases e2 with e2 | e2
        · rcases hpart f3 hx with ⟨b0, p0, u1, u2, u3⟩ | u
          · exact h.heap.notS b0 x u2 u3 e2
          · have := h.sb x e2; omega
        · exact hM.heap.notS p x (by rw [f3]; simp) hx e2
      · have hx := ho2b f1 x e1
        rcases e2 with e2 | e2
        · exact h.heap.notS b x f4 hx e2
        · rcases hperm x e2 with g | g | ⟨b0, p0, u1, u2, u3⟩
          · exact h.heap.notS b x f4 hx g
          · have := h.heap.lt b x f4 hx; omega
          · exact hnoOther f1 f4 hx b0 p0 u1 u2 u3
    · rcases hcase b q1 with ⟨p, k, f1, f2, f3, f4, f5⟩ | ⟨f1, f2, f3, f4⟩
      · exact hM.heap.lt p x (by rw [f3]; simp) (ho2a f1 f2 f3 x e1)
      · exact Nat.lt_of_lt_of_le (h.heap.lt b x f4 (ho2b f1 x e1)) hM.grow
    · rcases hi with hi | hi
      · exact Nat.lt_of_lt_of_le (h.sb i hi) hM.grow
      · exact hM.slt i hi
    · rcases hi with hi | hi
      · exact h.from_ i hi
      · rcases hperm i hi with g | g | ⟨b0, p0, u1, u2, u3⟩
        · exact h.from_ i g
        · exact .inr (.inr (.inl (Nat.le_trans h.grow g)))
        · rcases h.own b0 i u2 u3 with (g | g) | g
          · exact .inr (.inl g)
          · exact .inr (.inr (.inl g))
          · exact absurd (hwr u1) g.1
    · rw [hold i (Nat.lt_of_lt_of_le hi h.grow) fun b0 p0 u1 u2 u3 => ?_]
      · exact h.keep i hi hm
      · rcases h.own b0 i u2 u3 with (g | g) | g
        · exact hm g
        · omega
        · exact g.1 (hwr u1)
    · rcases hcase b q1 with ⟨p, k, f1, f2, f3, f4, f5⟩ | ⟨f1, f2, f3, f4⟩
      · rcases hpart f3 (ho2a f1 f2 f3 x e1) with ⟨b0, p0, u1, u2, u3⟩ | u
        · rcases h.own b0 x u2 u3 with g | g
          · exact .inl g
          · exact absurd (hwr u1) g.1
        · exact .inl (.inr (Nat.le_trans h.grow u))
      · exact h.own b x f4 (ho2b f1 x e1)
    · rcases hcase b q2 with ⟨p, k, f1, f2, f3, f4, f5⟩ | ⟨f1, f2, f3, f4⟩
      · exact h.pin b q1 f5
      · exact h.pin b q1 f4
    · rw [show (backs st bs ps).n = st.n from (leftOver_n ps _ bs _).trans (usedUp_n ps bs st)]; exact h.small
  have hn2 : (backs st bs ps).n = st.n := (leftOver_n ps _ bs _).trans (usedUp_n ps bs st)
  have hout := hM.out
  cases o' with
  | pan ch =>
    simp only at hout hKo
    subst hout
    exact hPQ ch a w' (NP.of hKo ⟨ρ, φ2, S2, h2⟩)
  | ret s =>
    simp only at hout hKo
    obtain ⟨v, rfl, F, hF1, hF2⟩ := hout
    refine ⟨_, hKo.2, h2.bind (by rw [hn2]; exact hd) (hF1.mono (fun i hi => .inr hi) (Nat.le_refl _) (fun _ _ _ => rfl) hM.slt) (fun x hx => ?_) hKo.1⟩
    obtain ⟨g1, g2, g3, g4⟩ := hF2 x hx
    refine ⟨fun g => ?_, g2, ?_, fun ⟨b, hb, hxb⟩ => ?_⟩
    · rcases g with g | g
      · rcases g1 with g1 | g1
        · obtain ⟨b0, p0, u1, u2, u3⟩ := hOwn x g1
          exact h.heap.notS b0 x u2 u3 g
        · have := h.sb x g; omega
      · exact g3 g
    · rcases g1 with g1 | g1
      · obtain ⟨b0, p0, u1, u2, u3⟩ := hOwn x g1
        exact (h.own b0 x u2 u3).resolve_right fun g => g.1 (hwr u1)
      · exact .inr (Nat.le_trans h.grow g1)
    · rcases hcase b hb with ⟨p, k, f1, f2, f3, f4, f5⟩ | ⟨f1, f2, f3, f4⟩
      · exact g4 ⟨p, by rw [f3]; simp, ho2a f1 f2 f3 x hxb⟩
      · have hx' := ho2b f1 x hxb
        rcases g1 with g1 | g1
        · obtain ⟨b0, p0, u1, u2, u3⟩ := hOwn x g1
          exact hnoOther f1 f4 hx' b0 p0 u1 u2 u3
        · have := h.heap.lt b x f4 hx'; omega

theorem argsOk {svs args : List SV} {f : SV → SV} (ha : svs.map f = args) : svs.length = args.length ∧ ∀ (i : Nat) (s t : SV), svs[i]? = some s → args[i]? = some t → f s = t ∨ (s = .nl ∧ t = .nl) := by
  subst ha
  refine ⟨by simp, fun i s t h1 h2 => .inl ?_⟩
  rw [List.getElem?_map, h1] at h2
  exact Option.some.inj h2
/-- A call under a contract. -/
theorem Sop.call {c : Call} {f : Nat} (bs : Bs) {pins : Pins} {args : List SV} {sh : Bool} {post : Pins → Out → Prop} (hsp : MSpec C.P f pins args sh post) (hk : CallOk C.P f) (ho : o.op = .call c) (hc : c.callee = .value (.func f))
    (hbs : bsOk bs = true) (hw : ∀ q ∈ bs, C.M.wr q.2) (hp : pinsOf st.blk (toPin bs) bs = some pins) (ha : (c.args.toList.map st.ev).map (argSV (lentB st bs sh) (toPin bs)) = args) (hd : dOk st.n o.dst)
    (hK : ∀ ps o', post ps o' → match o' with
      | .ret s => impOk s ∧ K (bindR (backs st bs ps) o.dst s)
      | .pan ch => C.pan ch (backs st bs ps)) : Sop C o st K := by
  refine Sop.callG bs hsp ho (fun ρ φ S a w h => ⟨c.args.toList.map a.eval, by simp, fun i v s h1 h2 => ?_, ?_⟩) hbs hw hp (argsOk ha).1 (argsOk ha).2 hd hK
  · rw [List.getElem?_map, Option.map_eq_some_iff] at h1 h2
    obtain ⟨x, h1, rfl⟩ := h1
    obtain ⟨y, h2, rfl⟩ := h2
    rw [h1] at h2
    obtain rfl := Option.some.inj h2
    exact h.ev x
  · have : c.args.map a.eval = (c.args.toList.map a.eval).toArray := by
      apply Array.ext'
      simp
    rw [← this]
    simp [resolve, hc, Act.eval, Deferred.ofValue, invoke, run_callFunc hk]
/-- As argSV, but nil stays nil. -/
def argN (f : SV → SV) : SV → SV
  | .nl => .nl
  | s => f s
theorem argsOkN {svs args : List SV} {f : SV → SV} (ha : svs.map (argN f) = args) : svs.length = args.length ∧ ∀ (i : Nat) (s t : SV), svs[i]? = some s → args[i]? = some t → f s = t ∨ (s = .nl ∧ t = .nl) := by
  subst ha
  refine ⟨by simp, fun i s t h1 h2 => ?_⟩
  rw [List.getElem?_map, h1] at h2
  have h2 := Option.some.inj h2
  by_cases e : s = .nl
  · subst e; exact .inr ⟨rfl, h2.symm⟩
  · refine .inl ?_
    rw [← h2]
    cases s <;> first | rfl | exact absurd rfl e
/-- A call under a contract; nil arguments stay nil. -/
theorem Sop.callN {c : Call} {f : Nat} (bs : Bs) {pins : Pins} {args : List SV} {sh : Bool} {post : Pins → Out → Prop} (hsp : MSpec C.P f pins args sh post) (hk : CallOk C.P f) (ho : o.op = .call c) (hc : c.callee = .value (.func f))
    (hbs : bsOk bs = true) (hw : ∀ q ∈ bs, C.M.wr q.2) (hp : pinsOf st.blk (toPin bs) bs = some pins) (ha : (c.args.toList.map st.ev).map (argN (argSV (lentB st bs sh) (toPin bs))) = args) (hd : dOk st.n o.dst)
    (hK : ∀ ps o', post ps o' → match o' with
      | .ret s => impOk s ∧ K (bindR (backs st bs ps) o.dst s)
      | .pan ch => C.pan ch (backs st bs ps)) : Sop C o st K := by
  refine Sop.callG bs hsp ho (fun ρ φ S a w h => ⟨c.args.toList.map a.eval, by simp, fun i v s h1 h2 => ?_, ?_⟩) hbs hw hp (argsOkN ha).1 (argsOkN ha).2 hd hK
  · rw [List.getElem?_map, Option.map_eq_some_iff] at h1 h2
    obtain ⟨x, h1, rfl⟩ := h1
    obtain ⟨y, h2, rfl⟩ := h2
    rw [h1] at h2
    obtain rfl := Option.some.inj h2
    exact h.ev x
  · have : c.args.map a.eval = (c.args.toList.map a.eval).toArray := by
      apply Array.ext'
      simp
    rw [← this]
    simp [resolve, hc, Act.eval, Deferred.ofValue, invoke, run_callFunc hk]
/-- What a function value stands for: the function, what is bound ahead of the arguments and behind them. -/
def fnOf : SV → Option (Nat × List SV × List SV)
  | .pl (.func (.func f) ⟨[]⟩ ⟨[]⟩) => some (f, [], [])
  | .fn (.func f) a b => some (f, a, b)
  | _ => none
theorem fnOf_ok {ρ : Nat → Option Loc} {S : Nat → Prop} {w : World} {v : Value} {s : SV} {f : Nat} {xs ys : List SV} (h : Rep ρ S w v s) (he : fnOf s = some (f, xs, ys)) : ∃ va vb : List Value, v = .func (.func f) va.toArray vb.toArray ∧ va.length = xs.length ∧ vb.length = ys.length ∧
    (∀ (i : Nat) (v : Value) (c : SV), va[i]? = some v → xs[i]? = some c → Rep ρ S w v c) ∧ (∀ (i : Nat) (v : Value) (c : SV), vb[i]? = some v → ys[i]? = some c → Rep ρ S w v c) := by
  unfold fnOf at he
  split at he
  · obtain ⟨rfl, rfl, rfl⟩ := by simpa only [Option.some.injEq, Prod.mk.injEq] using he
    cases h with
    | per h =>
      cases h
      exact ⟨[], [], rfl, rfl, rfl, fun i v c h => by simp at h, fun i v c h => by simp at h⟩
  · obtain ⟨rfl, rfl, rfl⟩ := by simpa only [Option.some.injEq, Prod.mk.injEq] using he
    cases h with
    | per h =>
      cases h with
      | fn _ va vb _ _ ha hb h1 h2 => exact ⟨va, vb, rfl, ha, hb, fun i v c e1 e2 => .per (h1 i v c e1 e2), fun i v c e1 e2 => .per (h2 i v c e1 e2)⟩
    | fn _ va vb _ _ ha hb h1 h2 => exact ⟨va, vb, rfl, ha, hb, h1, h2⟩
  · cases he
/-- A call of a function value under a contract. -/
theorem Sop.callV {c : Call} {f : Nat} {x : Operand} {xs ys : List SV} (bs : Bs) {pins : Pins} {args : List SV} {sh : Bool} {post : Pins → Out → Prop} (hsp : MSpec C.P f pins args sh post) (hk : CallOk C.P f) (ho : o.op = .call c) (hc : c.callee = .value x) (hx : fnOf (st.ev x) = some (f, xs, ys))
    (hbs : bsOk bs = true) (hw : ∀ q ∈ bs, C.M.wr q.2) (hp : pinsOf st.blk (toPin bs) bs = some pins) (ha : (xs ++ c.args.toList.map st.ev ++ ys).map (argSV (lentB st bs sh) (toPin bs)) = args) (hd : dOk st.n o.dst)
    (hK : ∀ ps o', post ps o' → match o' with
      | .ret s => impOk s ∧ K (bindR (backs st bs ps) o.dst s)
      | .pan ch => C.pan ch (backs st bs ps)) : Sop C o st K := by
  refine Sop.callG bs hsp ho (fun ρ φ S a w h => ?_) hbs hw hp (argsOk ha).1 (argsOk ha).2 hd hK
  obtain ⟨va, vb, hv, hla, hlb, h1, h2⟩ := fnOf_ok (h.ev x) hx
  have hm : ∀ (i : Nat) (v : Value) (s : SV), (c.args.toList.map a.eval)[i]? = some v → (c.args.toList.map st.ev)[i]? = some s → Rep ρ S w v s := fun i v s h1 h2 => by
    rw [List.getElem?_map, Option.map_eq_some_iff] at h1 h2
    obtain ⟨x, h1, rfl⟩ := h1
    obtain ⟨y, h2, rfl⟩ := h2
    rw [h1] at h2
    obtain rfl := Option.some.inj h2
    exact h.ev x
  have happ : ∀ {l1 l2 : List Value} {r1 r2 : List SV}, l1.length = r1.length → (∀ (i : Nat) (v : Value) (s : SV), l1[i]? = some v → r1[i]? = some s → Rep ρ S w v s) → (∀ (i : Nat) (v : Value) (s : SV), l2[i]? = some v → r2[i]? = some s → Rep ρ S w v s) →
      ∀ (i : Nat) (v : Value) (s : SV), (l1 ++ l2)[i]? = some v → (r1 ++ r2)[i]? = some s → Rep ρ S w v s := fun {l1 l2 r1 r2} hl g1 g2 i v s e1 e2 => by
    by_cases hi : i < l1.length
    · rw [List.getElem?_append_left hi] at e1
      rw [List.getElem?_append_left (by omega)] at e2
      exact g1 i v s e1 e2
    · rw [List.getElem?_append_right (by omega)] at e1
      rw [List.getElem?_append_right (by omega), ← hl] at e2
      exact g2 (i - l1.length) v s e1 e2
  refine ⟨va ++ c.args.toList.map a.eval ++ vb, by simp [hla, hlb], happ (by simp [hla]) (happ hla h1 hm) h2, ?_⟩
  have e1 : va.toArray ++ c.args.map a.eval ++ vb.toArray = (va ++ c.args.toList.map a.eval ++ vb).toArray := by
    apply Array.ext'
    simp
  rw [← e1]
  simp [resolve, hc, hv, Deferred.ofValue, invoke, run_callFunc hk]
end Go.Vcg
/- A function's contract, from its code. -/
namespace Go.Vcg

variable {w0 : World} {M : Perm} {S0 : Nat → Prop} {ρ : Nat → Option Loc} {φ : Nat → Nat → Prop} {S : Nat → Prop} {st : St} {a : Act} {w : World} {P : Program} {T : Nat → Option TI} {C : Cx} {K : St → Prop} {o : Oper}

/-! ## What shares nothing with the arguments -/

mutual
def SV.shut : SV → Bool
  | .pl _ => true
  | .nl => true
  | .dead => true
  | .pd rows => rows.isEmpty
  | .ow _ rows => shutRows rows
  | .bo row => shutL row
  | .mo es => shutE es
  | .ifc _ s => s.shut
  | .fn _ a b => shutL a && shutL b
  | .ag cs => shutL cs
  | .tu cs => shutL cs
  | _ => false
def shutL : List SV → Bool
  | [] => true
  | s :: ss => s.shut && shutL ss
def shutRows : List (List SV) → Bool
  | [] => true
  | r :: rs => shutL r && shutRows rs
def shutE : List (Value × SV) → Bool
  | [] => true
  | (_, s) :: es => s.shut && shutE es
end
theorem shutL_eq (ss : List SV) : shutL ss = ss.all SV.shut := by
  induction ss with
  | nil => simp [shutL]
  | cons s ss ih => simp [shutL, ih]
theorem shutRows_eq (rows : Rows) : shutRows rows = rows.all fun r => r.all SV.shut := by
  induction rows with
  | nil => simp [shutRows]
  | cons s ss ih => simp [shutRows, ih, shutL_eq]
theorem shutE_eq (es : List (Value × SV)) : shutE es = es.all fun e => e.2.shut := by
  induction es with
  | nil => simp [shutE]
  | cons s ss ih => obtain ⟨k, s⟩ := s; simp [shutE, ih]
theorem all_get {α : Type} {l : List α} {f : α → Bool} (h : l.all f = true) {i : Nat} {x : α} (hx : l[i]? = some x) : f x = true := List.all_eq_true.mp h x (List.mem_of_getElem? hx)

theorem RepP.shut {S' : Nat → Prop} {v : Value} {s : SV} (h : RepP S w v s) (hs : s.shut = true) : RepP S' w v s := by
  induction h with
  | pl v => exact .pl v
  | nl => exact .nl
  | pd0 a c => exact .pd0 a c
  | pd blk off esz cap rows f hS hc hl hm hr _ =>
    rw [SV.shut] at hs
    have : rows = [] := by simpa using hs
    subst this
    exact .pd0 _ _
  | bp | pm => simp [SV.shut] at hs
  | ifc t _ ih => rw [SV.shut] at hs; exact .ifc t (ih hs)
  | fn f va vb a b ha hb _ _ ih1 ih2 =>
    rw [SV.shut, shutL_eq, shutL_eq, Bool.and_eq_true] at hs
    exact .fn f va vb a b ha hb (fun i v c h1 h2 => ih1 i v c h1 h2 (all_get hs.1 h2)) (fun i v c h1 h2 => ih2 i v c h1 h2 (all_get hs.2 h2))
  | ag vs cs hl _ ih => rw [SV.shut, shutL_eq] at hs; exact .ag vs cs hl fun i v c h1 h2 => ih i v c h1 h2 (all_get hs h2)
  | tu vs cs hl _ ih => rw [SV.shut, shutL_eq] at hs; exact .tu vs cs hl fun i v c h1 h2 => ih i v c h1 h2 (all_get hs h2)
  | dead v => exact .dead v
theorem RepO.shut {S' F : Nat → Prop} {v : Value} {s : SV} (h : RepO S w v s F) (hs : s.shut = true) : RepO S' w v s F := by
  induction h with
  | per h => exact .per (h.shut hs)
  | ow0 a k F => exact .ow0 a k F
  | ow blk off k cap rows f G F h1 h2 h3 h4 h5 h6 h7 h8 h9 _ ih =>
    rw [SV.shut, shutRows_eq] at hs
    exact .ow blk off k cap rows f G F h1 h2 h3 h4 h5 h6 h7 h8 h9 fun i r j c g1 g2 => ih i r j c g1 g2 (all_get (all_get hs g1) g2)
  | bo blk off row f G F h1 h2 h3 h4 h5 h6 _ ih =>
    rw [SV.shut, shutL_eq] at hs
    exact .bo blk off row f G F h1 h2 h3 h4 h5 h6 fun j c g => ih j c g (all_get hs g)
  | mo blk clk ents es vs G F h1 h2 h3 h4 h5 h6 _ ih =>
    rw [SV.shut, shutE_eq] at hs
    exact .mo blk clk ents es vs G F h1 h2 h3 h4 h5 h6 fun i v e g1 g2 => ih i v e g1 g2 (all_get hs g2)
  | ifc t _ ih => rw [SV.shut] at hs; exact .ifc t (ih hs)
  | ag vs cs G F h1 h2 h3 _ ih => rw [SV.shut, shutL_eq] at hs; exact .ag vs cs G F h1 h2 h3 fun i v c g1 g2 => ih i v c g1 g2 (all_get hs g2)
  | tu vs cs G F h1 h2 h3 _ ih => rw [SV.shut, shutL_eq] at hs; exact .tu vs cs G F h1 h2 h3 fun i v c g1 g2 => ih i v c g1 g2 (all_get hs g2)

/-- References. -/
def SV.ref0 : SV → Bool
  | .sl _ _ _ | .sa _ _ _ _ _ | .pt _ _ _ | .mr _ => true
  | _ => false
def SV.shutC (c : SV) : Bool := c.shut || match c with
  | .ifc _ s => s.ref0
  | s => s.ref0
def shutCE (es : List (Value × SV)) : Bool := es.all fun e => e.2.shutC
def Bk.shut : Bk → Bool
  | .c _ rows => shutRows rows || rows.all fun r => r.all SV.shutC
  | .m es => shutE es || shutCE es
theorem Rep.ref0 {S' : Nat → Prop} {v : Value} {s : SV} (h : Rep ρ S w v s) (hs : s.ref0 = true) : Rep ρ S' w v s := by
  cases h with
  | per h => cases h <;> cases hs
  | sl b i n cap l hb hc hi hz => exact .sl b i n cap l hb hc hi hz
  | sl0 a b i => exact .sl0 a b i
  | sa b i o k n cap l hb hc hi ho => exact .sa b i o k n cap l hb hc hi ho
  | pt b i o l hb => exact .pt b i o l hb
  | mr b l hb => exact .mr b l hb
  | _ => cases hs
theorem Rep.shut {S' : Nat → Prop} {v : Value} {s : SV} (h : Rep ρ S w v s) (hs : s.shut = true) : Rep ρ S' w v s := by
  induction h with
  | per h => exact .per (h.shut hs)
  | sl | sl0 | sa | pt | mr | cn => simp [SV.shut] at hs
  | ifc t _ ih => rw [SV.shut] at hs; exact .ifc t (ih hs)
  | fn f va vb a b ha hb _ _ ih1 ih2 =>
    rw [SV.shut, shutL_eq, shutL_eq, Bool.and_eq_true] at hs
    exact .fn f va vb a b ha hb (fun i v c h1 h2 => ih1 i v c h1 h2 (all_get hs.1 h2)) (fun i v c h1 h2 => ih2 i v c h1 h2 (all_get hs.2 h2))
  | ag vs cs hl _ ih => rw [SV.shut, shutL_eq] at hs; exact .ag vs cs hl fun i v c h1 h2 => ih i v c h1 h2 (all_get hs h2)
  | tu vs cs hl _ ih => rw [SV.shut, shutL_eq] at hs; exact .tu vs cs hl fun i v c h1 h2 => ih i v c h1 h2 (all_get hs h2)
theorem CRep.shutC {S' F : Nat → Prop} {v : Value} {c : SV} (h : CRep ρ S w v c F) (hs : c.shutC = true) : CRep ρ S' w v c F := by
  unfold SV.shutC at hs
  rw [Bool.or_eq_true] at hs
  rcases hs with hs | hs
  · rcases h with h | h
    · exact .inl (h.shut hs)
    · exact .inr (h.shut hs)
  · split at hs
    · rename_i t s
      rcases h with h | h
      · cases h with
        | ifc _ h => exact .inl (.ifc t (h.ref0 hs))
        | per h => cases h with
          | ifc _ h => exact .inl (.ifc t (Rep.ref0 (ρ := ρ) (.per h) hs))
      · cases h with
        | per h => cases h with
          | ifc _ h => exact .inl (.ifc t (Rep.ref0 (ρ := ρ) (.per h) hs))
        | ifc _ h => cases h with
          | per h => exact .inl (.ifc t (Rep.ref0 (ρ := ρ) (.per h) hs))
          | _ => cases hs
    · rcases h with h | h
      · exact .inl (h.ref0 hs)
      · cases h with
        | per h => exact .inl (Rep.ref0 (ρ := ρ) (.per h) hs)
        | _ => cases hs
theorem BkOk.shut {S' F : Nat → Prop} {b : Nat} {k : Bk} (h : BkOk ρ S w F b k) (hs : k.shut = true) : BkOk ρ S' w F b k := by
  have hall : ∀ c : SV, c.shut = true → c.shutC = true := fun c h => by unfold SV.shutC; rw [h]; rfl
  cases k with
  | c k rows =>
    rcases h with ⟨h1, h2⟩ | ⟨l, h1, h2, h3⟩
    · exact .inl ⟨h1, h2⟩
    · obtain ⟨G, e1, e2, e3⟩ := h3.cell
      refine .inr ⟨l, h1, h2, h3.free, h3.len, h3.long, G, e1, e2, fun i r j c g1 g2 => ?_⟩
      obtain ⟨v, f1, f2, f3⟩ := e3 i r j c g1 g2
      refine ⟨v, f1, f2, f3.shutC ?_⟩
      unfold Bk.shut at hs
      rw [Bool.or_eq_true] at hs
      rcases hs with hs | hs
      · rw [shutRows_eq] at hs; exact hall _ (all_get (all_get hs g1) g2)
      · exact all_get (all_get hs g1) g2
  | m es =>
    obtain ⟨l, h1, h2⟩ := h
    obtain ⟨ents, clk, vs, G, e0, e1, e2, e3, e4, e5⟩ := h2.ex
    refine ⟨l, h1, ents, clk, vs, G, e0, e1, e2, e3, e4, fun i v e g1 g2 => (e5 i v e g1 g2).shutC ?_⟩
    unfold Bk.shut at hs
    rw [Bool.or_eq_true] at hs
    rcases hs with hs | hs
    · rw [shutE_eq] at hs; exact hall _ (all_get hs g2)
    · exact all_get hs g2

/-! ## Results go out -/

/-- A value of the state serves as this cell of the result; what must hold; the names that are used up. -/
def exC (B : Nat → Option Bk) (s t : SV) : Option (Prop × List Nat) := match s, t with
  | .nl, .ow _ rows => some (rows = [], [])
  | .nl, .pd rows => some (rows = [], [])
  | s, t => match foldRef B s with
    | some (p, s', n) => some (p ∧ s' = t, [n])
    | none => some (s.clo = true ∧ s = t, [])
def exL (B : Nat → Option Bk) : List SV → List SV → Option (Prop × List Nat)
  | [], [] => some (True, [])
  | s :: ss, t :: ts => match exC B s t, exL B ss ts with
    | some (p, ns), some (q, ms) => some (p ∧ q, ns ++ ms)
    | _, _ => none
  | _, _ => none
def SV.isPl : SV → Bool
  | .pl _ => true
  | _ => false
theorem SV.isPl_cloP {s : SV} (h : s.isPl = true) : s.cloP = true := by cases s <;> first | rfl | cases h
def ex1 (B : Nat → Option Bk) (s t : SV) : Option (Prop × List Nat) := match s, t with
  | .ag cs, .ag ds => if cs.all SV.isPl then some (cs = ds, []) else exL B cs ds
  | s, t => exC B s t
def exLs (B : Nat → Option Bk) : List SV → List SV → Option (Prop × List Nat)
  | [], [] => some (True, [])
  | s :: ss, t :: ts => match ex1 B s t, exLs B ss ts with
    | some (p, ns), some (q, ms) => some (p ∧ q, ns ++ ms)
    | _, _ => none
  | _, _ => none
def exRes (B : Nat → Option Bk) (ss : List SV) (t : SV) : Option (Prop × List Nat) := match ss with
  | [s] => ex1 B s t
  | ss => match t with
    | .tu ts => exLs B ss ts
    | _ => none

/-- The names' blocks. -/
def ownL (ρ : Nat → Option Loc) (φ : Nat → Nat → Prop) (ns : List Nat) (x : Nat) : Prop := ∃ n ∈ ns, owns ρ φ n x

theorem Rep.clo {v : Value} {s : SV} (h : Rep ρ S w v s) (hc : s.clo = true) : RepP S w v s := by
  have := CRep.toO (F := fun _ => False) (.inl h) hc
  cases h with
  | per h => exact h
  | ifc t h => exact .ifc t (h.clo0 hc)
  | fn f va vb x y ha hb h1 h2 =>
    simp only [SV.clo, Bool.and_eq_true, List.all_eq_true] at hc
    exact .fn f va vb x y ha hb (fun i v c g1 g2 => (h1 i v c g1 g2).cloP (hc.1 c (List.mem_of_getElem? g2))) (fun i v c g1 g2 => (h2 i v c g1 g2).cloP (hc.2 c (List.mem_of_getElem? g2)))
  | _ => cases hc

theorem exC_ok (h : Sim w0 M S0 ρ φ S st a w) {v : Value} {s t : SV} {p : Prop} {ns : List Nat} (hr : Rep ρ S w v s) (he : exC st.blk s t = some (p, ns)) (hp : p) : RepO S w v t (ownL ρ φ ns) ∧ ∀ n ∈ ns, st.blk n ≠ none := by
  unfold exC at he
  split at he
  · obtain ⟨rfl, rfl⟩ := Prod.mk.inj (Option.some.inj he)
    subst hp
    rw [hr.nl_eq]
    exact ⟨.ow0 none _ _, fun n hn => by simp at hn⟩
  · obtain ⟨rfl, rfl⟩ := Prod.mk.inj (Option.some.inj he)
    subst hp
    rw [hr.nl_eq]
    exact ⟨.per (.pd0 none 0), fun n hn => by simp at hn⟩
  · split at he
    · rename_i p' s' n h1
      obtain ⟨rfl, rfl⟩ := Prod.mk.inj (Option.some.inj he)
      obtain ⟨hp, rfl⟩ := hp
      obtain ⟨g1, g2⟩ := foldRef_ok h hr h1 hp
      exact ⟨g2.sub fun x hx => ⟨n, by simp, hx⟩, fun m hm => by simp at hm; subst hm; exact g1⟩
    · obtain ⟨rfl, rfl⟩ := Prod.mk.inj (Option.some.inj he)
      obtain ⟨hp, rfl⟩ := hp
      exact ⟨.per (hr.clo hp), fun n hn => by simp at hn⟩

theorem ownL_disj (h : Sim w0 M S0 ρ φ S st a w) {ns ms : List Nat} (h1 : ∀ n ∈ ns, st.blk n ≠ none) (h2 : ∀ n ∈ ms, st.blk n ≠ none) (hd : ∀ n ∈ ns, n ∉ ms) {x : Nat} (hx : ownL ρ φ ns x) (hy : ownL ρ φ ms x) : False := by
  obtain ⟨n, hn, hx⟩ := hx
  obtain ⟨m, hm, hy⟩ := hy
  have := h.heap.inj n m x (h1 n hn) (h2 m hm) hx hy
  subst this
  exact hd n hn hm

theorem exL_gen (h : Sim w0 M S0 ρ φ S st a w) {E : SV → SV → Option (Prop × List Nat)} {EL : List SV → List SV → Option (Prop × List Nat)} (hE0 : ∀ ts, EL [] ts = match ts with
    | [] => some (True, [])
    | _ => none) (hE1 : ∀ s ss ts, EL (s :: ss) ts = match ts with
    | [] => none
    | t :: ts => match E s t, EL ss ts with
      | some (p, ns), some (q, ms) => some (p ∧ q, ns ++ ms)
      | _, _ => none)
    (hE : ∀ {v : Value} {s t : SV} {p : Prop} {ns : List Nat}, Rep ρ S w v s → E s t = some (p, ns) → p → ns.Nodup → RepO S w v t (ownL ρ φ ns) ∧ ∀ n ∈ ns, st.blk n ≠ none) :
    ∀ {vs : List Value} {ss ts : List SV} {p : Prop} {ns : List Nat}, vs.length = ss.length → (∀ (i : Nat) (v : Value) (s : SV), vs[i]? = some v → ss[i]? = some s → Rep ρ S w v s) → EL ss ts = some (p, ns) → p → ns.Nodup →
      vs.length = ts.length ∧ (∀ n ∈ ns, st.blk n ≠ none) ∧ ∃ G : Nat → Nat → Prop, (∀ i x, G i x → ownL ρ φ ns x) ∧ (∀ i j x, G i x → G j x → i = j) ∧ ∀ (i : Nat) (v : Value) (t : SV), vs[i]? = some v → ts[i]? = some t → RepO S w v t (G i) := by
  intro vs ss
  induction ss generalizing vs with
  | nil =>
    intro ts p ns hl hr he hp _
    rw [hE0] at he
    cases ts with
    | nil =>
      obtain ⟨rfl, rfl⟩ := Prod.mk.inj (Option.some.inj he)
      exact ⟨hl, fun n hn => by simp at hn, fun _ _ => False, fun _ _ g => g.elim, fun _ _ _ g => g.elim, fun i v t _ h2 => by simp at h2⟩
    | cons => cases he
  | cons s ss ih =>
    intro ts p ns hl hr he hp hnd
    rw [hE1] at he
    cases ts with
    | nil => cases he
    | cons t ts =>
      simp only at he
      split at he <;> try (cases he; done)
      rename_i p1 ns1 p2 ns2 h1 h2
      obtain ⟨rfl, rfl⟩ := Prod.mk.inj (Option.some.inj he)
      cases vs with
      | nil => simp at hl
      | cons v vs =>
        rw [List.nodup_append] at hnd
        obtain ⟨g1, g2⟩ := hE (hr 0 v s rfl rfl) h1 hp.1 hnd.1
        obtain ⟨k1, k2, G, k3, k4, k5⟩ := ih (vs := vs) (by simpa using hl) (fun i v s e1 e2 => hr (i + 1) v s (by simpa using e1) (by simpa using e2)) h2 hp.2 hnd.2.1
        have hdis : ∀ {x}, ownL ρ φ ns1 x → ownL ρ φ ns2 x → False := fun hx hy => ownL_disj h g2 k2 (fun n hn hm => hnd.2.2 n hn n hm rfl) hx hy
        refine ⟨by simp [k1], fun n hn => (List.mem_append.mp hn).elim (g2 n) (k2 n), fun i => match i with
          | 0 => ownL ρ φ ns1
          | i + 1 => G i, fun i x hx => ?_, fun i j x hx hy => ?_, fun i u t' e1 e2 => ?_⟩
        · cases i with
          | zero => obtain ⟨n, hn, hx⟩ := hx; exact ⟨n, List.mem_append_left _ hn, hx⟩
          | succ i => obtain ⟨n, hn, hx⟩ := k3 i x hx; exact ⟨n, List.mem_append_right _ hn, hx⟩
        · cases i with
          | zero => cases j with
            | zero => rfl
            | succ j => exact (hdis hx (k3 j x hy)).elim
          | succ i => cases j with
            | zero => exact (hdis hy (k3 i x hx)).elim
            | succ j => rw [k4 i j x hx hy]
        · cases i with
          | zero =>
            simp only [List.getElem?_cons_zero, Option.some.injEq] at e1 e2
            subst e1; subst e2
            exact g1
          | succ i => exact k5 i u t' (by simpa using e1) (by simpa using e2)

theorem ex1_ok (h : Sim w0 M S0 ρ φ S st a w) {v : Value} {s t : SV} {p : Prop} {ns : List Nat} (hr : Rep ρ S w v s) (he : ex1 st.blk s t = some (p, ns)) (hp : p) (hnd : ns.Nodup) : RepO S w v t (ownL ρ φ ns) ∧ ∀ n ∈ ns, st.blk n ≠ none := by
  unfold ex1 at he
  split at he
  · rename_i cs ds
    obtain ⟨vs, rfl, hl, hc⟩ := hr.ag_inv
    split at he
    · rename_i hcl
      obtain ⟨rfl, rfl⟩ := Prod.mk.inj (Option.some.inj he)
      subst hp
      exact ⟨.per (.ag vs cs hl fun i v c h1 h2 => (hc i v c h1 h2).cloP (SV.isPl_cloP (all_get hcl h2))), fun n hn => by simp at hn⟩
    · obtain ⟨k1, k2, G, k3, k4, k5⟩ := exL_gen h (E := exC st.blk) (EL := exL st.blk) (fun ts => by cases ts <;> rfl) (fun s ss ts => by cases ts <;> rfl) (fun hr he hp _ => exC_ok h hr he hp) hl hc he hp hnd
      exact ⟨.ag vs ds G _ (fun j x hx => k3 j x hx) (fun i j x => k4 i j x) k1 k5, k2⟩
  · exact exC_ok h hr he hp

/-! ## The results of a frame -/

def resSV (T : Nat → Option TI) (st : St) : List ResultVar → Option (Prop × List SV)
  | [] => some (True, [])
  | .tmp t :: rs => match resSV T st rs with
    | some (sd, ss) => some (sd, st.get t :: ss)
    | none => none
  | .cell x t :: rs => match pLoad T st t (st.get x), resSV T st rs with
    | some (sd, s), some (sd', ss) => some (sd ∧ sd', s :: ss)
    | _, _ => none

theorem resSV_ok (hT : TOk P T) (h : Sim w0 M S0 ρ φ S st a w) : ∀ {rs : List ResultVar} {side : Prop} {ss : List SV}, resSV T st rs = some (side, ss) → side →
    ∃ ws, (rs.mapM (m := Sem) fun | .tmp t => pure (a.tmps.getD t undef) | .cell x t => do loadVar t (← asAddr (a.tmps.getD x undef))).run P w = .ok ws w ∧ ws.length = ss.length ∧ ∀ (i : Nat) (v : Value) (s : SV), ws[i]? = some v → ss[i]? = some s → Rep ρ S w v s := by
  intro rs
  induction rs with
  | nil =>
    intro side ss he _
    obtain ⟨_, rfl⟩ := Prod.mk.inj (Option.some.inj he)
    exact ⟨[], by simp, rfl, fun i v s e => by simp at e⟩
  | cons x rs ih =>
    intro side ss he hs
    cases x with
    | tmp t =>
      unfold resSV at he
      split at he <;> try (cases he; done)
      rename_i sd ss' e1
      obtain ⟨rfl, rfl⟩ := Prod.mk.inj (Option.some.inj he)
      obtain ⟨ws, h1, h2, h3⟩ := ih e1 hs
      refine ⟨a.tmps.getD t undef :: ws, by simp only [List.mapM_cons, Sem.run_bind, Sem.run_pure, Result.andThen_ok, h1], by simp [h2], fun i v s g1 g2 => ?_⟩
      cases i with
      | zero =>
        simp only [List.getElem?_cons_zero, Option.some.injEq] at g1 g2
        subst g1; subst g2
        exact h.slot t
      | succ i => exact h3 i v s (by simpa using g1) (by simpa using g2)
    | cell x t =>
      unfold resSV at he
      split at he <;> try (cases he; done)
      rename_i sd s sd' ss' e0 e1
      obtain ⟨rfl, rfl⟩ := Prod.mk.inj (Option.some.inj he)
      obtain ⟨ws, h1, h2, h3⟩ := ih e1 hs.2
      obtain ⟨u, k1, k2⟩ := pLoad_ok (P := P) hT h (h.slot x) e0 hs.1
      have hx : ∃ ad, a.tmps.getD x undef = .pointer (some ad) := by
        have hr := h.slot x
        unfold pLoad at e0
        split at e0 <;> try (cases e0; done)
        rename_i hat
        obtain ⟨b, o', hb, _⟩ := h.at hr hat (by
          simp only [Option.some.injEq, Prod.mk.injEq] at e0
          have := hs.1
          rw [← e0.1] at this
          exact this.1)
        exact ⟨_, hb⟩
      obtain ⟨ad, hx⟩ := hx
      have hl : (loadVar t ad).run P w = .ok u w := by
        rw [hx] at k1
        simpa [Instr.loadAt, Instr.sureAddr] using k1
      have ha : (asAddr (a.tmps.getD x undef)).run P w = .ok ad w := by rw [hx]; simp [asAddr]
      refine ⟨u :: ws, by simp only [List.mapM_cons, Sem.run_bind, ha, Sem.run_pure, Result.andThen_ok, hl, h1], by simp [h2], fun i v s g1 g2 => ?_⟩
      cases i with
      | zero =>
        simp only [List.getElem?_cons_zero, Option.some.injEq] at g1 g2
        subst g1; subst g2
        exact k2
      | succ i => exact h3 i v s (by simpa using g1) (by simpa using g2)


/-- The pins are as told. -/
def pinsTold (st : St) (pins : Pins) (used : List Nat) : Pins → Prop
  | [] => True
  | (p, k) :: l => st.blk p = some k ∧ (pk pins p).isSome = true ∧ used.contains p = false ∧ pinsTold st pins used l
theorem pinsTold_at {pins : Pins} {used : List Nat} : ∀ {ps : Pins}, pinsTold st pins used ps → ∀ p k, pk ps p = some k → st.blk p = some k ∧ pk pins p ≠ none ∧ p ∉ used := by
  intro ps
  induction ps with
  | nil => intro _ p k h; simp [pk] at h
  | cons q ps ih =>
    intro h p k hk
    obtain ⟨p0, k0⟩ := q
    obtain ⟨h1, h2, h3, h4⟩ := h
    unfold pk at hk
    rw [lookup_cons_if] at hk
    split at hk
    · rename_i e
      obtain rfl := Option.some.inj hk
      subst e
      exact ⟨h1, (fun g => by rw [g] at h2; cases h2), by simpa using h3⟩
    · exact ih h4 p k hk

/-- What a state must show where the function returns. -/
def Leave (T : Nat → Option TI) (rs : List ResultVar) (pins : Pins) (sh : Bool) (post : Pins → Out → Prop) (st : St) : Prop :=
  ∃ side ss p ns t ps, resSV T st rs = some (side, ss) ∧ side ∧ exRes st.blk ss t = some (p, ns) ∧ p ∧ decide ns.Nodup = true ∧ pinsTold st pins ns ps ∧ (sh = false → t.shut = true ∧ (ps.all fun q => q.2.shut) = true) ∧ post ps (.ret t)

/-- The rights of a call. -/
def pinM (ρ : Nat → Option Loc) (φ : Nat → Nat → Prop) (pins : Pins) : Perm := ⟨ownsAny ρ φ (pk pins), ρ, fun _ => True, fun _ _ => False⟩

theorem results_run {fn : Func} {ws : List Value} (k1 : (fn.results.toList.mapM (m := Sem) fun | .tmp t => pure (a.tmps.getD t undef) | .cell x t => do loadVar t (← asAddr (a.tmps.getD x undef))).run P w = .ok ws w) :
    (results fn a.tmps).run P w = .ok (if hs : ws.length = 1 then ws[0] else .tuple ws.toArray) w := by
  have hm : ∀ X : Sem (List Value), X.run P w = .ok ws w → (List.toArray <$> X).run P w = .ok ws.toArray w := fun X hX => by
    show (X >>= fun vs => pure vs.toArray).run P w = _
    simp only [Sem.run_bind, hX, Result.andThen_ok, Sem.run_pure]
  unfold results
  rw [Array.mapM_eq_mapM_toList, Sem.run_bind]
  refine Eq.trans (congrArg (fun r => Result.andThen r _) (hm _ k1)) ?_
  rw [Result.andThen_ok, Sem.run_pure]
  rfl

/-- The world of a state, as a call leaves it. -/
theorem post_of {ρ0 : Nat → Option Loc} {φ0 : Nat → Nat → Prop} {pins ps : Pins} {sh : Bool} {ns : List Nat} (h : Sim w0 (pinM ρ0 φ0 pins) S0 ρ φ S st a w) (hpin : ∀ b, pk pins b ≠ none → isPin b) (ht : pinsTold st pins ns ps) (hs : sh = false → (ps.all fun q => q.2.shut) = true) {e : Ending} {o : Out}
    (ho : match o with
      | .ret s => ∃ v, e = .returned v ∧ MRet (fun i => sh = true ∧ S i) ρ φ (pk ps) (ownsAny ρ0 φ0 (pk pins)) w0 w v s
      | .pan ch => e = .panicked ch) : MPost S0 w0 ρ0 φ0 pins sh e w o ps ρ φ (fun i => sh = true ∧ S i) := by
  have hat := fun {p k} (e : pk ps p = some k) => pinsTold_at ht p k e
  have hne : ∀ b, pk ps b ≠ none → st.blk b ≠ none ∧ pk pins b ≠ none := fun b hb => by
    obtain ⟨k, hk⟩ := Option.ne_none_iff_exists'.mp hb
    obtain ⟨h1, h2, _⟩ := hat hk
    exact ⟨by rw [h1]; simp, h2⟩
  refine ⟨h.grow, fun i h1 h2 => h.keep i h1 h2, ⟨fun b k hk => ?_, fun b b' x h1 h2 => h.heap.inj b b' x (hne b h1).1 (hne b' h2).1, fun b l h1 => h.heap.self b l (hne b h1).1, fun b x h1 h2 h3 => h.heap.notS b x (hne b h1).1 h2 h3.2, fun b x h1 => h.heap.lt b x (hne b h1).1⟩,
    fun b hb => ⟨(hne b hb).2, h.pin b (hpin b (hne b hb).2) (hne b hb).1⟩, fun x ⟨b, hb, hx⟩ => ?_, fun i hi => ?_, fun i hi => h.sb i hi.2, h.wide, ho⟩
  · have hok := h.heap.blk b k (hat hk).1
    cases hsh : sh with
    | true =>
      have : (fun i => true = true ∧ S i) = S := funext fun i => propext ⟨fun g => g.2, fun g => ⟨rfl, g⟩⟩
      rw [this]; exact hok
    | false => exact hok.shut (List.all_eq_true.mp (hs hsh) (b, k) (lookup_mem hk))
  · exact (h.own b x (hne b hb).1 hx).elim id fun g => g.2.elim
  · rcases h.from_ i hi.2 with g | g | g | g
    · exact .inl ⟨hi.1, g⟩
    · exact .inr (.inr g)
    · exact .inr (.inl g)
    · obtain ⟨_, g⟩ := g; exact g.elim

theorem pinsTold_noSl {st : St} {pins ps : Pins} {ns : List Nat} (h : pinsTold st pins ns ps) : pinsTold st.noSl pins ns ps := by
  induction ps with
  | nil => exact trivial
  | cons q ps ih => obtain ⟨b, k⟩ := q; exact ⟨h.1, h.2.1, h.2.2.1, ih h.2.2.2⟩
theorem leave_ok (hT : TOk P T) {fn : Func} {ρ0 : Nat → Option Loc} {φ0 : Nat → Nat → Prop} {pins : Pins} {sh : Bool} {post : Pins → Out → Prop} (h : Sim w0 (pinM ρ0 φ0 pins) S0 ρ φ S st a w) (hpin : ∀ b, pk pins b ≠ none → isPin b) (hl : Leave T fn.results.toList pins sh post st) :
    ∃ v, (results fn a.tmps).run P w = .ok v w ∧ ∃ o ps, post ps o ∧ MPost S0 w0 ρ0 φ0 pins sh (.returned v) w o ps ρ φ (fun i => sh = true ∧ S i) := by
  obtain ⟨side, ss, p, ns, t, ps, h1, h2, h3, h4, h5, h6, h7, h8⟩ := hl
  obtain ⟨ws, k1, k2, k3⟩ := resSV_ok (P := P) hT h h1 h2
  have hrun := results_run k1
  have hnd : ns.Nodup := by simpa using h5
  have key : ∃ v, (if hs : ws.length = 1 then ws[0] else .tuple ws.toArray) = v ∧ RepO S w v t (ownL ρ φ ns) ∧ ∀ n ∈ ns, st.blk n ≠ none := by
    refine ⟨_, rfl, ?_⟩
    unfold exRes at h3
    split at h3
    · rename_i s
      have hl1 : ws.length = 1 := by rw [k2]; rfl
      rw [dif_pos hl1]
      exact ex1_ok h (k3 0 _ s (List.getElem?_eq_getElem (by omega)) rfl) h3 h4 hnd
    · rename_i hns
      split at h3 <;> try (cases h3; done)
      rename_i ts
      have hl1 : ¬ ws.length = 1 := fun e => by
        rw [k2] at e
        obtain ⟨s, rfl⟩ := List.length_eq_one_iff.mp e
        exact hns s rfl
      rw [dif_neg hl1]
      obtain ⟨q1, q2, G, q3, q4, q5⟩ := exL_gen h (E := ex1 st.blk) (EL := exLs st.blk) (fun ts => by cases ts <;> rfl) (fun s ss ts => by cases ts <;> rfl) (fun hr he hp hnd => ex1_ok h hr he hp hnd) k2 k3 h3 h4 hnd
      exact ⟨.tu ws ts G _ (fun j x hx => q3 j x hx) (fun i j x => q4 i j x) q1 q5, q2⟩
  obtain ⟨v, e1, e2, e3⟩ := key
  rw [e1] at hrun
  refine ⟨v, hrun, .ret t, ps, h8, post_of h hpin h6 (fun e => (h7 e).2) ⟨v, rfl, ownL ρ φ ns, ?_, fun x ⟨n, hn, hx⟩ => ⟨?_, h.heap.lt n x (e3 n hn) hx, fun g => h.heap.notS n x (e3 n hn) hx g.2, fun ⟨b, hb, hxb⟩ => ?_⟩⟩⟩
  · cases hsh : sh with
    | true =>
      have : (fun i => true = true ∧ S i) = S := funext fun i => propext ⟨fun g => g.2, fun g => ⟨rfl, g⟩⟩
      rw [this]; exact e2
    | false => exact e2.shut (h7 hsh).1
  · exact (h.own n x (e3 n hn) hx).elim id fun g => g.2.elim
  · obtain ⟨k, hk⟩ := Option.ne_none_iff_exists'.mp hb
    obtain ⟨g1, _, g3⟩ := pinsTold_at h6 b k hk
    have := h.heap.inj n b x (e3 n hn) (by rw [g1]; simp) hx hxb
    subst this
    exact g3 hn

/-! ## A contract from the code -/

def numb (i : Nat) : List SV → List (Nat × SV)
  | [] => []
  | s :: ss => (i, s) :: numb (i + 1) ss
theorem numb_lookup (ss : List SV) : ∀ (i t : Nat), (numb i ss).lookup t = if i ≤ t then ss[t - i]? else none := by
  induction ss with
  | nil => intro i t; simp [numb]
  | cons s ss ih =>
    intro i t
    rw [numb, lookup_cons_if, ih]
    by_cases h : t = i
    · subst h; simp
    · rw [if_neg h]
      by_cases h2 : i + 1 ≤ t
      · rw [if_pos h2, if_pos (by omega), show t - i = (t - (i + 1)) + 1 from by omega, List.getElem?_cons_succ]
      · rw [if_neg h2, if_neg (by omega)]

/-- The state at the beginning. -/
def St.start (n : Nat) (args : List SV) (pins : Pins) : St := ⟨n, numb 0 args, pins, []⟩

theorem Sim.start {vals : List Value} {args : List SV} {n : Nat} {pins : Pins} (hS : ∀ i, S i → i < w.heap.size) (hh : HOk ρ φ S w (pk pins)) (hl : vals.length = args.length) (hr : ∀ (i : Nat) (v : Value) (s : SV), vals[i]? = some v → args[i]? = some s → Rep ρ S w v s) (hn : args.length ≤ n) (hn' : n ≤ 1000000) :
    Sim w (pinM ρ φ pins) S ρ φ S (St.start n args pins) { tmps := vals.toArray ++ Array.replicate (n - vals.length) undef, defers := [] } w := by
  refine ⟨by simp [St.start]; omega, rfl, fun t => ?_, fun _ _ => .dead _, hh, hS, fun _ hi => hi, fun _ hi => .inl hi, Nat.le_refl _, fun _ _ _ => rfl, fun b x hb hx => .inl (.inl ⟨b, hb, hx⟩), fun _ _ _ => rfl, hn', .refl w, fun _ => Nat.le_refl _⟩
  have : (St.start n args pins).get t = (args[t]?).getD .dead := by
    unfold St.get St.start
    simp only [numb_lookup]
    simp
  rw [this]
  cases e : args[t]? with
  | none => exact .dead _
  | some s =>
    have ht : t < vals.length := by rw [hl]; exact (List.getElem?_eq_some_iff.mp e).1
    have e2 : vals[t]? = some vals[t] := List.getElem?_eq_getElem ht
    have : ({ tmps := vals.toArray ++ Array.replicate (n - vals.length) undef, defers := [] } : Act).tmps.getD t undef = vals[t] := by
      simp [Array.getD_eq_getD_getElem?, Array.getElem?_append, ht]
    rw [this]
    exact hr t _ s e2 e

/-- What is asked where the code ends. -/
def Ends (T : Nat → Option TI) (rs : List ResultVar) (pins : Pins) (sh : Bool) (post : Pins → Out → Prop) : SQ
  | .normal, st => st.df = [] ∧ Leave T rs pins sh post st
  | .ret, st => st.df = [] ∧ Leave T rs pins sh post st
  | _, _ => False

/-- What is asked where the code panics. -/
def panC (pins : Pins) (sh : Bool) (post : Pins → Out → Prop) (ch : List PanicEntry) (st : St) : Prop := st.df = [] ∧ ∃ ps, post ps (.pan ch) ∧ pinsTold st pins [] ps ∧ (sh = false → (ps.all fun q => q.2.shut) = true)
theorem noDefers {ds : List Deferred} {l : List Dfd} (h : ds.map dsh = l.map Dfd.sh) (hl : l = []) : ds = [] := by
  subst hl
  simpa using h

theorem MSpec.of_code (hT : TOk P T) {f : Nat} {fn : Func} {c : Code} {pins : Pins} {args : List SV} {sh : Bool} {post : Pins → Out → Prop} {n : Nat} (hf : P.funcs[f]? = some fn) (hb : fn.body = some c) (hnt : fn.ntmps = n) {rs : List ResultVar} (hrs : fn.results.toList = rs) (hn : args.length ≤ n) (hn' : n ≤ 1000000)
    (h : ∀ (w0 : World) (S0 : Nat → Prop) (ρ0 : Nat → Option Loc) (φ0 : Nat → Nat → Prop), Swp ⟨P, w0, pinM ρ0 φ0 pins, S0, panC pins sh post⟩ c (St.start n args pins) (Ends T rs pins sh post)) : MSpec P f pins args sh post := by
  intro w S ρ φ vals hS hh hpin hl hr
  subst hnt hrs
  refine calls_of_wp hf hb ?_
  rw [List.size_toArray]
  have hsim := Sim.start hS hh hl hr hn hn'
  have hw := h w S ρ φ
  unfold Swp at hw
  refine wpm (hw _ w ⟨_, _, _, hsim⟩) fun e a' w' hq => ?_
  have key : ∀ st', (st'.df = [] ∧ Leave T fn.results.toList pins sh post st') → Holds w (pinM ρ φ pins) S st' a' w' → a'.defers = [] ∧ ∃ v, (results fn a'.tmps).run P w' = .ok v w' ∧ ∃ o pins' ρ' φ' S', post pins' o ∧ MPost S w ρ φ pins sh (.returned v) w' o pins' ρ' φ' S' := by
    rintro st' ⟨hdf, hlv⟩ ⟨ρ', φ', S', h'⟩
    obtain ⟨v, g1, o, ps, g2, g3⟩ := leave_ok (P := P) hT h' hpin hlv
    exact ⟨noDefers h'.defers hdf, v, g1, o, ps, ρ', φ', _, g2, g3⟩
  cases e with
  | normal => obtain ⟨st', h1, h2⟩ := hq; exact key st' h1 h2
  | ret => obtain ⟨st', h1, h2⟩ := hq; exact key st' h1 h2
  | exit i => obtain ⟨st', h1, h2⟩ := hq; exact h1.elim
  | goto i => obtain ⟨st', h1, h2⟩ := hq; exact h1.elim
  | panic ch =>
    obtain ⟨st', ⟨hdf, ps, h1, h2, h3⟩, ρ', φ', S', h'⟩ := hq
    exact ⟨noDefers h'.defers hdf, .pan ch, ps, ρ', φ', _, h1, post_of (ps := ps) (ns := []) h' hpin (pinsTold_noSl h2) h3 rfl⟩
  | outgrown => exact hq.elim

end Go.Vcg
/- Code, with what is to follow written out as a list; the operations; the return; what the walk looks up. -/
namespace Go.Vcg

variable {C : Cx} {st : St} {Q : SQ} {K : St → Prop} {ops : Array Oper} {o : Oper} {l : List Oper}

/-- What is to follow: code; the end of a block; the end of a loop's round. -/
inductive Kont where
  | code (c : Code)
  | blk (id : Nat)
  | fin (R : St → Prop)

def kq (C : Cx) (Q : SQ) : List Kont → SQ
  | [] => Q
  | .code c :: ks => SQ.then (fun s => Swp C c s (kq C Q ks)) (kq C Q ks)
  | .blk id :: ks => SQ.inBlock id (kq C Q ks)
  | .fin R :: ks => SQ.then R (kq C Q ks)

def Swk (C : Cx) (Q : SQ) (ks : List Kont) (c : Code) (st : St) : Prop := Swp C c st (kq C Q ks)
def Swn (C : Cx) (Q : SQ) (ks : List Kont) (st : St) : Prop := kq C Q ks .normal st
def Swe (C : Cx) (Q : SQ) (ks : List Kont) (id : Nat) (st : St) : Prop := kq C Q ks (.exit id) st

variable {ks : List Kont}

theorem N.nil (h : Q .normal st) : Swn C Q [] st := h
theorem N.code {c : Code} (h : Swk C Q ks c st) : Swn C Q (.code c :: ks) st := h
theorem N.blk {id : Nat} (h : Swn C Q ks st) : Swn C Q (.blk id :: ks) st := h
theorem N.fin {R : St → Prop} (h : R st) : Swn C Q (.fin R :: ks) st := h
theorem E.hit {id : Nat} (h : Swn C Q ks st) : Swe C Q (.blk id :: ks) id st := by
  show SQ.inBlock id (kq C Q ks) (.exit id) st
  simp only [SQ.inBlock, if_true]
  exact h
theorem E.miss {id id' : Nat} (hn : id ≠ id') (h : Swe C Q ks id st) : Swe C Q (.blk id' :: ks) id st := by
  show SQ.inBlock id' (kq C Q ks) (.exit id) st
  simp only [SQ.inBlock, if_neg hn]
  exact h
theorem E.code {c : Code} {id : Nat} (h : Swe C Q ks id st) : Swe C Q (.code c :: ks) id st := h
theorem E.fin {R : St → Prop} {id : Nat} (h : Swe C Q ks id st) : Swe C Q (.fin R :: ks) id st := h

theorem kq_ret (h : Q .ret st) : ∀ ks : List Kont, kq C Q ks .ret st := by
  intro ks
  induction ks with
  | nil => exact h
  | cons k ks ih => cases k <;> exact ih

theorem W.start {c : Code} (h : Swk C Q [] c st) : Swp C c st Q := h
theorem W.skip (h : Swn C Q ks st) : Swk C Q ks .skip st := Swp.skip h
theorem W.label {i : Nat} (h : Swn C Q ks st) : Swk C Q ks (.label i) st := Swp.label h
theorem W.seq {x y : Code} (h : Swk C Q (.code y :: ks) x st) : Swk C Q ks (.seq x y) st := Swp.seq h
theorem W.block {id : Nat} {c : Code} (h : Swk C Q (.blk id :: ks) c st) : Swk C Q ks (.block id c) st := Swp.block h
theorem W.exit {id : Nat} (h : Swe C Q ks id st) : Swk C Q ks (.exit id) st := Swp.exit h
theorem W.ret (h : Q .ret st) : Swk C Q ks .ret st := Swp.ret (kq_ret h ks)
theorem W.cond {c : Operand} {x y : Code} {b : Bool} (he : st.ev c = .pl (.bool b)) (h1 : b = true → Swk C Q ks x st) (h2 : b = false → Swk C Q ks y st) : Swk C Q ks (.cond c x y) st := Swp.cond he h1 h2
theorem W.weak {c : Code} {st' : St} (hw : Weak C st st') (h : Swk C Q ks c st') : Swk C Q ks c st := Swp.weak hw h
theorem W.region {id : Nat} {l : List Oper} (h : Sl C l.toArray l st (Swn C Q ks)) : Swk C Q ks (.region id l.toArray false) st := Swp.region h
theorem W.loop {c : Code} (I : Nat → St → Prop) (n : Nat) (st' : St) (hw : Weak C st st') (h0 : I n st') (h : ∀ n st, I n st → Swk C Q (.fin (fun s => ∃ m, m < n ∧ ∃ s', Weak C s s' ∧ I m s') :: ks) c st) : Swk C Q ks (.loop c) st :=
  Swp.weak hw (Swp.loop I n h0 h)

/-! ## Operations, one behind the other -/

section
variable {T : Nat → Option TI} {d ty : Nat} {op : Op} {pos : String} {af : Array Edge} {side : Prop} {sv : SV}

/-- pure operations -/
theorem O.p (hT : TOk C.P T) (he : pev T st st.ev op = some (side, sv)) (hd : d < st.n) (hs : side) (h : side → Sl C ops l (st.set d sv) K) : Sl C ops ({ dst := some d, op := op, type := ty, pos := pos, after := af, guard := none } :: l) st K :=
  Sl.cons (So.op rfl (Sop.pure hT he hs hd (h hs)))
/-- pure operations that want nothing -/
theorem O.p0 (hT : TOk C.P T) (he : pev T st st.ev op = some (True, sv)) (hd : d < st.n) (h : Sl C ops l (st.set d sv) K) : Sl C ops ({ dst := some d, op := op, type := ty, pos := pos, after := af, guard := none } :: l) st K := O.p hT he hd trivial fun _ => h
/-- pure operations under a guard -/
theorem O.g (hT : TOk C.P T) {j e : Nat} {want c g : Bool} {oj : Oper} (hj : ops[j]? = some oj) (hdj : oj.dst = some e) (hv : gVal (st.get e) = some (c, g)) (he : pev T st (fun x => (st.ev x).assume (gWant want c g)) op = some (side, sv)) (hn : e < st.n) (hd : d < st.n) (hs : gWant want c g = true → side)
    (h : (gWant want c g = true → side) → Sl C ops l (st.set d (.cn (gWant want c g) sv)) K) : Sl C ops ({ dst := some d, op := op, type := ty, pos := pos, after := af, guard := some (j, want) } :: l) st K :=
  Sl.cons (So.guardPure hT rfl hj hdj hn hv hd he hs (h hs))
theorem O.i {dst : Option Nat} (h : Sop C { dst := dst, op := op, type := ty, pos := pos, after := af, guard := none } st fun s => Sl C ops l s K) : Sl C ops ({ dst := dst, op := op, type := ty, pos := pos, after := af, guard := none } :: l) st K := Sl.cons (So.op rfl h)
theorem O.gi {j e : Nat} {want c g : Bool} {oj : Oper} (hj : ops[j]? = some oj) (hdj : oj.dst = some e) (hv : gVal (st.get e) = some (c, g)) (hn : e < st.n) (hd : d < st.n)
    (h1 : gWant want c g = true → Sop C { dst := some d, op := op, type := ty, pos := pos, after := af, guard := some (j, want) } st fun s => Sl C ops l s K) (h2 : gWant want c g = false → Sl C ops l (st.set d (.cn false .dead)) K) : Sl C ops ({ dst := some d, op := op, type := ty, pos := pos, after := af, guard := some (j, want) } :: l) st K := Sl.cons (So.guard rfl hj hdj hn hv hd h1 h2)

theorem O.x (hT : TOk C.P T) {dst : Option Nat} {st' : St} (he : xop T C.M.wr st dst op = some (side, st')) (hs : side) (h : side → Sl C ops l st' K) : Sl C ops ({ dst := dst, op := op, type := ty, pos := pos, after := af, guard := none } :: l) st K := Sl.cons (So.op rfl (xop_ok hT he hs (h hs)))
end

/-- A contract that tells all. -/
def TSpec (P : Program) (f : Nat) (pins : Pins) (args : List SV) (sh : Bool) (ps : Pins) (r : SV) : Prop := MSpec P f pins args sh fun ps' o => ps' = ps ∧ o = .ret r
theorem FSpec.t {P : Program} {f : Nat} {args : List SV} {sh : Bool} {r : SV} (h : FSpec P f args sh r) : TSpec P f [] args sh [] r := h

section
variable {ty : Nat} {pos : String} {af : Array Edge} {st' : St} {g : Option (Nat × Bool)}
/-- A call under such a contract: one operation. -/
theorem X.c {c : Call} {f : Nat} {d : Option Nat} (bs : Bs) {pins ps : Pins} {args : List SV} {sh : Bool} {r : SV} (hsp : TSpec C.P f pins args sh ps r) (hk : CallOk C.P f) (hc : c.callee = .value (.func f)) (hbs : bsOk bs = true) (hw : ∀ q ∈ bs, C.M.wr q.2)
    (hp : pinsOf st.blk (toPin bs) bs = some pins) (ha : (c.args.toList.map st.ev).map (argSV (lentB st bs sh) (toPin bs)) = args) (hd : dOk st.n d) (hi : impOk r) (hb : bindR (backs st bs ps) d r = st') (h : K st') :
    Sop C { dst := d, op := .call c, type := ty, pos := pos, after := af, guard := g } st K :=
  Sop.call bs hsp hk rfl hc hbs hw hp ha hd fun ps' o' ⟨e1, e2⟩ => by subst e1; subst e2; exact ⟨hi, by rw [show bindR (backs st bs ps') ({ dst := d, op := Op.call c, type := ty, pos := pos, after := af, guard := g } : Oper).dst r = st' from hb]; exact h⟩
theorem O.c {c : Call} {f : Nat} {d : Option Nat} (bs : Bs) {pins ps : Pins} {args : List SV} {sh : Bool} {r : SV} (hsp : TSpec C.P f pins args sh ps r) (hk : CallOk C.P f) (hc : c.callee = .value (.func f)) (hbs : bsOk bs = true) (hw : ∀ q ∈ bs, C.M.wr q.2)
    (hp : pinsOf st.blk (toPin bs) bs = some pins) (ha : (c.args.toList.map st.ev).map (argSV (lentB st bs sh) (toPin bs)) = args) (hd : dOk st.n d) (hi : impOk r) (hb : bindR (backs st bs ps) d r = st') (h : Sl C ops l st' K) :
    Sl C ops ({ dst := d, op := .call c, type := ty, pos := pos, after := af, guard := none } :: l) st K :=
  Sl.cons (So.op rfl (X.c bs hsp hk hc hbs hw hp ha hd hi hb h))
end

/-! ## The return -/

section
variable {T : Nat → Option TI} {rs : List ResultVar} {pins ps : Pins} {post : Pins → Out → Prop} {side p : Prop} {ss : List SV} {ns : List Nat} {t : SV}
theorem R.any {sh : Bool} (h8 : post ps (.ret t)) (h1 : resSV T st rs = some (side, ss)) (h2 : side) (h3 : exRes st.blk ss t = some (p, ns)) (h4 : p) (h5 : decide ns.Nodup = true) (h6 : pinsTold st pins ns ps) (h7 : sh = false → t.shut = true ∧ (ps.all fun q => q.2.shut) = true) (h0 : st.df = [] := by rfl) : Ends T rs pins sh post .ret st :=
  ⟨h0, ⟨side, ss, p, ns, t, ps, h1, h2, h3, h4, h5, h6, h7, h8⟩⟩
theorem R.told (h1 : resSV T st rs = some (side, ss)) (h2 : side) (h3 : exRes st.blk ss t = some (p, ns)) (h4 : p) (h5 : decide ns.Nodup = true) (h6 : pinsTold st pins ns ps) (h7 : t.shut = true) (h9 : (ps.all fun q => q.2.shut) = true) (h0 : st.df = [] := by rfl) : Ends T rs pins false (fun ps' o => ps' = ps ∧ o = .ret t) .ret st :=
  R.any ⟨rfl, rfl⟩ h1 h2 h3 h4 h5 h6 (fun _ => ⟨h7, h9⟩) h0
theorem R.share (h1 : resSV T st rs = some (side, ss)) (h2 : side) (h3 : exRes st.blk ss t = some (p, ns)) (h4 : p) (h5 : decide ns.Nodup = true) (h6 : pinsTold st pins ns ps) (h0 : st.df = [] := by rfl) : Ends T rs pins true (fun ps' o => ps' = ps ∧ o = .ret t) .ret st :=
  R.any ⟨rfl, rfl⟩ h1 h2 h3 h4 h5 h6 (fun e => by cases e) h0
end

/-! ## Steps that only say otherwise what holds -/

section
variable {ks : List Kont} {c : Code} {st' : St} {p : Prop}
theorem W.virt (t d k : Nat) (h : Swk C Q ks c (st.virt t d k)) : Swk C Q ks c st := W.weak (Weak.virt C st t d k) h
theorem W.virtAt (b i j d k : Nat) (h : Swk C Q ks c (st.virtAt b i j d k)) : Swk C Q ks c st := W.weak (Weak.virtAt C st b i j d k) h
theorem W.frz (b : Nat) (h : Swk C Q ks c (st.frz b)) : Swk C Q ks c st := W.weak (Weak.frz C st b) h
theorem W.ren (hw : ∀ b, C.M.wr b) (d d' : Nat) (h : Swk C Q ks c (st.ren d d')) : Swk C Q ks c st := W.weak (Weak.ren C hw st d d') h
theorem W.fold (hw : ∀ b, C.M.wr b) (b i j : Nat) (he : st.foldAt b i j = some (p, st')) (hp : p) (h : Swk C Q ks c st') : Swk C Q ks c st := W.weak (Weak.foldAt C hw he hp) h
theorem W.unfold (hw : ∀ b, C.M.wr b) (b i j n : Nat) (he : st.unfoldAt b i j n = some (p, st')) (hp : p) (h : Swk C Q ks c st') : Swk C Q ks c st := W.weak (Weak.unfoldAt C hw he hp) h
theorem K.virt (t d k : Nat) {st2 : St} (h : Weak C (st.virt t d k) st2) : Weak C st st2 := (Weak.virt C st t d k).trans h
theorem K.virtAt (b i j d k : Nat) {st2 : St} (h : Weak C (st.virtAt b i j d k) st2) : Weak C st st2 := (Weak.virtAt C st b i j d k).trans h
theorem K.frz (b : Nat) {st2 : St} (h : Weak C (st.frz b) st2) : Weak C st st2 := (Weak.frz C st b).trans h
theorem K.ren (hw : ∀ b, C.M.wr b) (d d' : Nat) {st2 : St} (h : Weak C (st.ren d d') st2) : Weak C st st2 := (Weak.ren C hw st d d').trans h
theorem K.fold (hw : ∀ b, C.M.wr b) (b i j : Nat) (he : st.foldAt b i j = some (p, st')) (hp : p) {st2 : St} (h : Weak C st' st2) : Weak C st st2 := (Weak.foldAt C hw he hp).trans h
theorem K.unfold (hw : ∀ b, C.M.wr b) (b i j n : Nat) (he : st.unfoldAt b i j n = some (p, st')) (hp : p) {st2 : St} (h : Weak C st' st2) : Weak C st st2 := (Weak.unfoldAt C hw he hp).trans h
theorem S.weak (hw : Weak C st st') (h : Sl C ops l st' K) : Sl C ops l st K := Sl.weak hw h
end
theorem pinM_wr (ρ : Nat → Option Loc) (φ : Nat → Nat → Prop) (pins : Pins) (b : Nat) : (pinM ρ φ pins).wr b := trivial

/-! ## What the walk looks up -/

theorem get_set_same (st : St) (t : Nat) (s : SV) : (st.set t s).get t = s := by rw [St.get_set, if_pos rfl]
theorem get_set_ne (st : St) (t u : Nat) (s : SV) (h : (u == t) = false) : (st.set t s).get u = st.get u := by rw [St.get_set, if_neg (by simpa using h)]
theorem get_setBlk (st : St) (b t : Nat) (r : Bk) : (st.setBlk b r).get t = st.get t := rfl
theorem blk_set (st : St) (t b : Nat) (s : SV) : (st.set t s).blk b = st.blk b := rfl
theorem n_set (st : St) (t : Nat) (s : SV) : (st.set t s).n = st.n := rfl
theorem n_setBlk (st : St) (b : Nat) (r : Bk) : (st.setBlk b r).n = st.n := rfl
theorem n_kill (st : St) (d : Nat) : (st.kill d).n = st.n := rfl
theorem blk_same (st : St) (b : Nat) (r : Bk) : (st.setBlk b r).blk b = some r := by rw [St.blk_setBlk, if_pos rfl]
theorem blk_ne (st : St) (b x : Nat) (r : Bk) (h : (x == b) = false) : (st.setBlk b r).blk x = st.blk x := by rw [St.blk_setBlk, if_neg (by simpa using h)]
theorem blk_kill_same (st : St) (d : Nat) : (st.kill d).blk d = none := by rw [St.blk_kill, if_pos rfl]
theorem blk_kill_other (st : St) (d x : Nat) (h : (x == d) = false) : (st.kill d).blk x = (st.blk x).map (Bk.kill d) := by rw [St.blk_kill, if_neg (by simpa using h)]
def nth : List SV → Nat → SV
  | [], _ => .dead
  | s :: _, 0 => s
  | _ :: ss, n + 1 => nth ss n
theorem get_start (n t : Nat) (args : List SV) (pins : Pins) : (St.start n args pins).get t = nth args t := by
  unfold St.get St.start
  simp only [numb_lookup]
  simp only [Nat.zero_le, if_true, Nat.sub_zero]
  induction args generalizing t with
  | nil => simp [nth]
  | cons s ss ih => cases t with
    | zero => simp [nth]
    | succ t => simpa [nth] using ih t
theorem n_start (n : Nat) (args : List SV) (pins : Pins) : (St.start n args pins).n = n := rfl
theorem blk_start (n b : Nat) (args : List SV) (pins : Pins) : (St.start n args pins).blk b = pk pins b := rfl
theorem pk_nil (b : Nat) : pk [] b = none := rfl
theorem pk_same (b : Nat) (k : Bk) (l : Pins) : pk ((b, k) :: l) b = some k := by unfold pk; rw [lookup_cons_if, if_pos rfl]
theorem pk_ne (b x : Nat) (k : Bk) (l : Pins) (h : (x == b) = false) : pk ((b, k) :: l) x = pk l x := by unfold pk; rw [lookup_cons_if, if_neg (by simpa using h)]
theorem get_lit_same (n t : Nat) (s : SV) (sl : List (Nat × SV)) (bl : List (Nat × Bk)) (df : List Dfd) : (St.mk n ((t, s) :: sl) bl df).get t = s := by
  unfold St.get; rw [lookup_cons_if, if_pos rfl]; rfl
theorem get_lit_ne (n t u : Nat) (s : SV) (sl : List (Nat × SV)) (bl : List (Nat × Bk)) (df : List Dfd) (h : (u == t) = false) : (St.mk n ((t, s) :: sl) bl df).get u = (St.mk n sl bl df).get u := by
  unfold St.get; rw [lookup_cons_if, if_neg (by simpa using h)]
theorem blk_lit_same (n b : Nat) (r : Bk) (sl : List (Nat × SV)) (bl : List (Nat × Bk)) (df : List Dfd) : (St.mk n sl ((b, r) :: bl) df).blk b = some r := by
  unfold St.blk; rw [lookup_cons_if, if_pos rfl]
theorem blk_lit_ne (n b u : Nat) (r : Bk) (sl : List (Nat × SV)) (bl : List (Nat × Bk)) (df : List Dfd) (h : (u == b) = false) : (St.mk n sl ((b, r) :: bl) df).blk u = (St.mk n sl bl df).blk u := by
  unfold St.blk; rw [lookup_cons_if, if_neg (by simpa using h)]
theorem blk_lit_nil (n u : Nat) (sl : List (Nat × SV)) (df : List Dfd) : (St.mk n sl [] df).blk u = none := rfl
theorem n_lit (n : Nat) (sl : List (Nat × SV)) (bl : List (Nat × Bk)) (df : List Dfd) : (St.mk n sl bl df).n = n := rfl
theorem toPin_nil (b : Nat) : toPin [] b = none := rfl
theorem toPin_same (p b : Nat) (l : Bs) : toPin ((p, b) :: l) b = some p := by unfold toPin; rw [List.map_cons, lookup_cons_if, if_pos rfl]
theorem toPin_ne (p b x : Nat) (l : Bs) (h : (x == b) = false) : toPin ((p, b) :: l) x = toPin l x := by unfold toPin; rw [List.map_cons, lookup_cons_if, if_neg (by simpa using h)]
theorem unPin_nil (b : Nat) : unPin [] b = none := rfl
theorem unPin_same (p b : Nat) (l : Bs) : unPin ((p, b) :: l) p = some b := by unfold unPin; rw [lookup_cons_if, if_pos rfl]
theorem unPin_ne (p b x : Nat) (l : Bs) (h : (x == p) = false) : unPin ((p, b) :: l) x = unPin l x := by unfold unPin; rw [lookup_cons_if, if_neg (by simpa using h)]
theorem lentB_nil (st : St) : lentB st [] false = st.blk := rfl
theorem lentB_sh (st : St) (bs : Bs) (b : Nat) : lentB st bs true b = none := rfl

attribute [go_sem] pev St.ev conSV nth get_set_same get_set_ne get_setBlk blk_set n_set n_setBlk n_kill blk_same blk_ne blk_kill_same blk_kill_other get_start n_start blk_start pk_nil pk_same pk_ne St.get_kill
  get_lit_same get_lit_ne blk_lit_same blk_lit_ne blk_lit_nil n_lit toPin_nil toPin_same toPin_ne unPin_nil unPin_same unPin_ne lentB_nil lentB_sh
  SV.kill SV.kill2 SV.kill1 SV.kill0 Bk.kill pLen pLoad cut TK.agg St.at pField pFieldAddr pIndexAddr pIndex pExtract SV.shift plBin pBin pBinE pEql plUn plMin pConvert pPick pNil pIface pFunc gVal gWant SV.assume cnIf SV.cells SV.one SV.vis SV.vis0
  xop xAlloc xBox xStore xMake xAppend xBuildSlice dOk St.put oldRows srcRows putAt fillSV pSlice bnd pBuild structPlace allKnown
  slOk blOk Leave resSV exRes ex1 exC exL exLs foldRef foldRef0 pinsTold SV.clo SV.clo0 SV.cloP SV.isPl
  pinsOf bindR impR impR1 impRs impCs impC openC openC0 St.addBks impOk impOk1 backs usedUp leftOver backName Bk.rn SV.rn1 SV.rn0 argSV arg1 argL lend1 lend0 frzRef SV.frz frzL frzRows frzE Bk.sb SV.sb SV.sb2 SV.sb1 SV.sb0 renRef St.virt St.virtAt St.frz St.ren St.foldAt St.unfoldAt
  SV.shut shutL shutRows shutE Bk.shut SV.shutC SV.ref0 SV.dup SV.dup0
  Int.toNat_natCast List.map_cons List.map_nil true_and and_true Nat.zero_add Nat.add_zero List.all_cons List.all_nil Bool.and_true Bool.true_and Value.oneCell' Nat.sub_zero Int.ofNat_zero List.getD_cons_zero List.getD_cons_succ List.length_cons List.length_nil if_true if_false ite_true ite_false Bool.false_eq_true Option.map_some Option.map_none List.foldl_nil List.foldl_cons eq_self List.set_cons_zero List.set_cons_succ Option.some.injEq
  List.append_nil List.cons_append List.nil_append List.nodup_cons List.nodup_nil Nat.le_refl List.not_mem_nil not_false_eq_true List.drop_zero List.length_replicate List.length_map List.take_length List.take_zero List.drop_succ_cons List.take_succ_cons Option.isSome_some Option.isSome_none Option.isNone_some Option.isNone_none Option.bind_some Option.bind_none Bool.or_true Bool.or_false Bool.true_or Bool.false_or
  List.contains_nil Bool.not_false Bool.not_true

attribute [irreducible] Swk Swn Swe

end Go.Vcg
/- Buffers and arrays of numbers; rows that are closed. -/
namespace Go.Vcg

/-! ## Closed rows stand still -/

theorem SV.cloP_clo0 {s : SV} (h : s.cloP = true) : s.clo0 = true := by cases s <;> first | rfl | cases h
theorem SV.clo0_kill0 {s : SV} (d : Nat) (h : s.clo0 = true) : s.kill0 d = s := by cases s <;> first | rfl | cases h
theorem SV.clo0_rn0 {s : SV} (r : Nat → Option Nat) (h : s.clo0 = true) : s.rn0 r = s := by cases s <;> first | rfl | cases h
theorem SV.clo0_sb0 {s : SV} (d : Nat) (g : SV → SV) (h : s.clo0 = true) : s.sb0 d g = s := by cases s <;> first | rfl | cases h
theorem map_self {f : SV → SV} {l : List SV} (h : ∀ c ∈ l, f c = c) : l.map f = l := by
  induction l with
  | nil => rfl
  | cons c l ih => rw [List.map_cons, h c (by simp), ih fun c hc => h c (by simp [hc])]
theorem SV.clo_kill1 {s : SV} (d : Nat) (h : s.clo = true) : s.kill1 d = s := by
  cases s with
  | ifc t s => rw [SV.kill1, SV.clo0_kill0 d h]
  | fn f a b =>
    simp only [SV.clo, Bool.and_eq_true, List.all_eq_true] at h
    rw [SV.kill1, map_self fun c hc => SV.clo0_kill0 d (SV.cloP_clo0 (h.1 c hc)), map_self fun c hc => SV.clo0_kill0 d (SV.cloP_clo0 (h.2 c hc))]
  | _ => first | rfl | cases h
theorem SV.clo_rn1 {s : SV} (r : Nat → Option Nat) (h : s.clo = true) : s.rn1 r = s := by
  cases s with
  | ifc t s => rw [SV.rn1, SV.clo0_rn0 r h]
  | fn f a b =>
    simp only [SV.clo, Bool.and_eq_true, List.all_eq_true] at h
    rw [SV.rn1, map_self fun c hc => SV.clo0_rn0 r (SV.cloP_clo0 (h.1 c hc)), map_self fun c hc => SV.clo0_rn0 r (SV.cloP_clo0 (h.2 c hc))]
  | _ => first | rfl | cases h
theorem SV.clo_sb1 {s : SV} (d : Nat) (g : SV → SV) (h : s.clo = true) : s.sb1 d g = s := by
  cases s with
  | ifc t s => rw [SV.sb1, SV.clo0_sb0 d g h]
  | fn f a b =>
    simp only [SV.clo, Bool.and_eq_true, List.all_eq_true] at h
    rw [SV.sb1, map_self fun c hc => SV.clo0_sb0 d g (SV.cloP_clo0 (h.1 c hc)), map_self fun c hc => SV.clo0_sb0 d g (SV.cloP_clo0 (h.2 c hc))]
  | _ => first | rfl | cases h
theorem rows_self {f : SV → SV} {rows : Rows} (h : ∀ r ∈ rows, ∀ c ∈ r, f c = c) : (rows.map fun r => r.map f) = rows := by
  induction rows with
  | nil => rfl
  | cons r rows ih => rw [List.map_cons, map_self (h r (by simp)), ih fun r hr => h r (by simp [hr])]
theorem cloRows_all {rows : Rows} (h : cloRows rows = true) : ∀ r ∈ rows, ∀ c ∈ r, c.clo = true := by
  simp only [cloRows, cloRow, List.all_eq_true] at h
  exact h
theorem killRows_clo {rows : Rows} (h : cloRows rows = true) (d : Nat) : killRows d rows = rows := rows_self fun r hr c hc => SV.clo_kill1 d (cloRows_all h r hr c hc)
theorem rnRows_clo {rows : Rows} (h : cloRows rows = true) (r : Nat → Option Nat) : rnRows r rows = rows := rows_self fun x hr c hc => SV.clo_rn1 r (cloRows_all h x hr c hc)
theorem sbRows_clo {rows : Rows} (h : cloRows rows = true) (d : Nat) (g : SV → SV) : sbRows d g rows = rows := rows_self fun x hr c hc => SV.clo_sb1 d g (cloRows_all h x hr c hc)
theorem killRow_clo {row : List SV} (h : cloRow row = true) (d : Nat) : row.map (SV.kill1 d) = row := map_self fun c hc => SV.clo_kill1 d (List.all_eq_true.mp h c hc)
theorem rnRow_clo {row : List SV} (h : cloRow row = true) (r : Nat → Option Nat) : row.map (SV.rn1 r) = row := map_self fun c hc => SV.clo_rn1 r (List.all_eq_true.mp h c hc)
theorem sbRow_clo {row : List SV} (h : cloRow row = true) (d : Nat) (g : SV → SV) : row.map (SV.sb1 d g) = row := map_self fun c hc => SV.clo_sb1 d g (List.all_eq_true.mp h c hc)

theorem killRows_nil (d : Nat) : killRows d [] = [] := rfl
theorem killRows_cons (d : Nat) (r : List SV) (rows : Rows) : killRows d (r :: rows) = r.map (SV.kill1 d) :: killRows d rows := rfl
theorem killRows_append (d : Nat) (a b : Rows) : killRows d (a ++ b) = killRows d a ++ killRows d b := List.map_append
theorem rnRows_nil (r : Nat → Option Nat) : rnRows r [] = [] := rfl
theorem rnRows_cons (f : Nat → Option Nat) (r : List SV) (rows : Rows) : rnRows f (r :: rows) = r.map (SV.rn1 f) :: rnRows f rows := rfl
theorem rnRows_append (f : Nat → Option Nat) (a b : Rows) : rnRows f (a ++ b) = rnRows f a ++ rnRows f b := List.map_append
theorem sbRows_nil (d : Nat) (g : SV → SV) : sbRows d g [] = [] := rfl
theorem sbRows_cons (d : Nat) (g : SV → SV) (r : List SV) (rows : Rows) : sbRows d g (r :: rows) = r.map (SV.sb1 d g) :: sbRows d g rows := rfl
theorem sbRows_append (d : Nat) (g : SV → SV) (a b : Rows) : sbRows d g (a ++ b) = sbRows d g a ++ sbRows d g b := List.map_append

/-! ## What holds of all cells, of rows made of rows -/

theorem cloRows_nil : cloRows [] = true := rfl
theorem cloRows_cons (r : List SV) (rows : Rows) : cloRows (r :: rows) = (cloRow r && cloRows rows) := rfl
theorem cloRow_nil : cloRow [] = true := rfl
theorem cloRow_cons (c : SV) (r : List SV) : cloRow (c :: r) = (c.clo && cloRow r) := rfl
theorem cloRow_append (a b : List SV) : cloRow (a ++ b) = (cloRow a && cloRow b) := List.all_append
theorem cloRows_append (a b : Rows) : cloRows (a ++ b) = (cloRows a && cloRows b) := List.all_append
theorem cloRows_take {rows : Rows} (h : cloRows rows = true) (n : Nat) : cloRows (rows.take n) = true := List.all_eq_true.mpr fun r hr => List.all_eq_true.mp h r (List.mem_of_mem_take hr)
theorem cloRows_drop {rows : Rows} (h : cloRows rows = true) (n : Nat) : cloRows (rows.drop n) = true := List.all_eq_true.mpr fun r hr => List.all_eq_true.mp h r (List.mem_of_mem_drop hr)
theorem cloRows_set {rows : Rows} {r : List SV} (h : cloRows rows = true) (hr : cloRow r = true) (n : Nat) : cloRows (rows.set n r) = true := List.all_eq_true.mpr fun x hx => (List.mem_or_eq_of_mem_set hx).elim (List.all_eq_true.mp h x) fun e => e ▸ hr
theorem cloRows_replicate {r : List SV} (h : cloRow r = true) (n : Nat) : cloRows (List.replicate n r) = true := List.all_eq_true.mpr fun x hx => by rw [(List.mem_replicate.mp hx).2]; exact h
theorem dupRows_nil : dupRows [] = true := rfl
theorem dupRows_cons (r : List SV) (rows : Rows) : dupRows (r :: rows) = (r.all SV.dup && dupRows rows) := rfl
theorem dupRows_append (a b : Rows) : dupRows (a ++ b) = (dupRows a && dupRows b) := List.all_append
theorem dupRows_take {rows : Rows} (h : dupRows rows = true) (n : Nat) : dupRows (rows.take n) = true := List.all_eq_true.mpr fun r hr => List.all_eq_true.mp h r (List.mem_of_mem_take hr)
theorem dupRows_drop {rows : Rows} (h : dupRows rows = true) (n : Nat) : dupRows (rows.drop n) = true := List.all_eq_true.mpr fun r hr => List.all_eq_true.mp h r (List.mem_of_mem_drop hr)
theorem shutRows_append (a b : Rows) : shutRows (a ++ b) = (shutRows a && shutRows b) := by simp only [shutRows_eq, List.all_append]
theorem shutRows_take {rows : Rows} (h : shutRows rows = true) (n : Nat) : shutRows (rows.take n) = true := by rw [shutRows_eq] at h ⊢; exact List.all_eq_true.mpr fun r hr => List.all_eq_true.mp h r (List.mem_of_mem_take hr)
theorem shutRows_drop {rows : Rows} (h : shutRows rows = true) (n : Nat) : shutRows (rows.drop n) = true := by rw [shutRows_eq] at h ⊢; exact List.all_eq_true.mpr fun r hr => List.all_eq_true.mp h r (List.mem_of_mem_drop hr)
theorem lend0_clo (B : Nat → Option Bk) {c : SV} (h : c.clo = true) : lend0 B c = c.frz := by
  cases c <;> first | rfl | (simp [SV.clo, SV.clo0] at h; done) | (simp [lend0, SV.frz])
theorem lendRows_clo {rows : Rows} (h : cloRows rows = true) (B : Nat → Option Bk) : lendRows B rows = frzRows rows := by
  rw [frzRows_eq]
  unfold lendRows
  refine List.map_congr_left fun r hr => ?_
  rw [frzL_eq]
  exact List.map_congr_left fun c hc => lend0_clo B (cloRows_all h r hr c hc)
theorem lendRows_nil (B : Nat → Option Bk) : lendRows B [] = [] := rfl
theorem lendRows_cons (B : Nat → Option Bk) (r : List SV) (rows : Rows) : lendRows B (r :: rows) = r.map (lend0 B) :: lendRows B rows := rfl
theorem frzRows_append (a b : Rows) : frzRows (a ++ b) = frzRows a ++ frzRows b := by simp only [frzRows_eq, List.map_append]
theorem frzRows_take (rows : Rows) (n : Nat) : frzRows (rows.take n) = (frzRows rows).take n := by simp only [frzRows_eq, List.map_take]
theorem frzRows_drop (rows : Rows) (n : Nat) : frzRows (rows.drop n) = (frzRows rows).drop n := by simp only [frzRows_eq, List.map_drop]
theorem frzL_append (a b : List SV) : frzL (a ++ b) = frzL a ++ frzL b := by simp only [frzL_eq, List.map_append]
theorem RowsLen_nil (k : Nat) : RowsLen [] k = True := eq_true fun r hr => by simp at hr
theorem RowsLen_append (a b : Rows) (k : Nat) : RowsLen (a ++ b) k = (RowsLen a k ∧ RowsLen b k) := by
  refine propext ⟨fun h => ⟨fun r hr => h r (List.mem_append_left _ hr), fun r hr => h r (List.mem_append_right _ hr)⟩, fun h r hr => (List.mem_append.mp hr).elim (h.1 r) (h.2 r)⟩
theorem RowsLen_cons (r : List SV) (a : Rows) (k : Nat) : RowsLen (r :: a) k = (r.length = k ∧ RowsLen a k) := by
  refine propext ⟨fun h => ⟨h r (by simp), fun r hr => h r (by simp [hr])⟩, fun h x hx => (List.mem_cons.mp hx).elim (fun e => e ▸ h.1) (h.2 x)⟩
theorem RowsLen_take {a : Rows} {k : Nat} (h : RowsLen a k) (n : Nat) : RowsLen (a.take n) k := fun r hr => h r (List.mem_of_mem_take hr)
theorem RowsLen_drop {a : Rows} {k : Nat} (h : RowsLen a k) (n : Nat) : RowsLen (a.drop n) k := fun r hr => h r (List.mem_of_mem_drop hr)

/-! ## Buffers of numbers -/

theorem encI_length (k : IntKind) (xs : List Int) : (encI k xs).length = xs.length := by simp [encI]
theorem encI_getD (k : IntKind) (xs : List Int) (i : Nat) (h : i < xs.length) : (encI k xs).getD i [] = [.pl (.int k (xs.getD i 0))] := by
  simp [encI, List.getD_eq_getElem?_getD, h]
theorem encI_set (k : IntKind) (xs : List Int) (i : Nat) (x : Int) : (encI k xs).set i [.pl (.int k x)] = encI k (xs.set i x) := by simp [encI, List.map_set]
theorem encI_append (k : IntKind) (xs ys : List Int) : encI k xs ++ encI k ys = encI k (xs ++ ys) := by simp [encI]
theorem encI_app1 (k : IntKind) (xs : List Int) (y : Int) : encI k xs ++ [[.pl (.int k y)]] = encI k (xs ++ [y]) := by simp [encI]
theorem encI_one (k : IntKind) (x : Int) : [[SV.pl (.int k x)]] = encI k [x] := rfl
theorem encI_replicate (k : IntKind) (n : Nat) (x : Int) : List.replicate n [SV.pl (.int k x)] = encI k (List.replicate n x) := by simp [encI]
theorem encI_drop (k : IntKind) (n : Nat) (xs : List Int) : (encI k xs).drop n = encI k (xs.drop n) := by simp [encI]
theorem encI_take (k : IntKind) (n : Nat) (xs : List Int) : (encI k xs).take n = encI k (xs.take n) := by simp [encI]
theorem encI_inj (k : IntKind) (xs ys : List Int) : (encI k xs = encI k ys) = (xs = ys) := by
  refine propext ⟨fun h => ?_, fun h => by rw [h]⟩
  unfold encI at h
  exact (List.map_inj_right (fun x y e => by simpa using e)).mp h
theorem encI_isEmpty (k : IntKind) (xs : List Int) : (encI k xs).isEmpty = xs.isEmpty := by cases xs <;> rfl
theorem encI_rowsLen (k : IntKind) (xs : List Int) : RowsLen (encI k xs) 1 = True := by
  refine eq_true fun r hr => ?_
  obtain ⟨x, _, rfl⟩ := List.mem_map.mp hr
  rfl
theorem encI_nil (k : IntKind) : encI k [] = [] := rfl
theorem encI_clo (k : IntKind) (xs : List Int) : cloRows (encI k xs) = true := List.all_eq_true.mpr fun r hr => by obtain ⟨x, _, rfl⟩ := List.mem_map.mp hr; rfl
theorem encI_dup (k : IntKind) (xs : List Int) : dupRows (encI k xs) = true := List.all_eq_true.mpr fun r hr => by obtain ⟨x, _, rfl⟩ := List.mem_map.mp hr; rfl
theorem encI_shut (k : IntKind) (xs : List Int) : shutRows (encI k xs) = true := by rw [shutRows_eq]; exact List.all_eq_true.mpr fun r hr => by obtain ⟨x, _, rfl⟩ := List.mem_map.mp hr; simp [SV.shut]
theorem encI_frz (k : IntKind) (xs : List Int) : frzRows (encI k xs) = encI k xs := by
  rw [frzRows_eq]
  unfold encI
  rw [List.map_map]
  exact List.map_congr_left fun x _ => by simp [frzL, SV.frz]

/-! ## Arrays of numbers -/

theorem encA_length (k : IntKind) (xs : List Int) : (encA k xs).length = xs.length := by simp [encA]
theorem encA_getD (k : IntKind) (xs : List Int) (i : Nat) (h : i < xs.length) : (encA k xs).getD i .dead = .pl (.int k (xs.getD i 0)) := by
  simp [encA, List.getD_eq_getElem?_getD, h]
theorem encA_set (k : IntKind) (xs : List Int) (i : Nat) (x : Int) : (encA k xs).set i (.pl (.int k x)) = encA k (xs.set i x) := by simp [encA, List.map_set]
theorem encA_replicate (k : IntKind) (n : Nat) (x : Int) : List.replicate n (SV.pl (.int k x)) = encA k (List.replicate n x) := by simp [encA]
theorem encA_append (k : IntKind) (xs ys : List Int) : encA k xs ++ encA k ys = encA k (xs ++ ys) := by simp [encA]
theorem encA_inj (k : IntKind) (xs ys : List Int) : (encA k xs = encA k ys) = (xs = ys) := by
  refine propext ⟨fun h => ?_, fun h => by rw [h]⟩
  unfold encA at h
  exact (List.map_inj_right (fun x y e => by simpa using e)).mp h
theorem encA_all {f : SV → Bool} (k : IntKind) (xs : List Int) (h : ∀ x, f (.pl (.int k x)) = true) : (encA k xs).all f = true := List.all_eq_true.mpr fun c hc => by obtain ⟨x, _, rfl⟩ := List.mem_map.mp hc; exact h x
theorem encA_map {f : SV → SV} (k : IntKind) (xs : List Int) (h : ∀ x, f (.pl (.int k x)) = .pl (.int k x)) : (encA k xs).map f = encA k xs := map_self fun c hc => by obtain ⟨x, _, rfl⟩ := List.mem_map.mp hc; exact h x
theorem encA_one (k : IntKind) (xs : List Int) : (encA k xs).all SV.one = true := encA_all k xs fun _ => rfl
theorem encA_cloP (k : IntKind) (xs : List Int) : (encA k xs).all SV.cloP = true := encA_all k xs fun _ => rfl
theorem encA_isPl (k : IntKind) (xs : List Int) : (encA k xs).all SV.isPl = true := encA_all k xs fun _ => rfl
theorem encA_clo (k : IntKind) (xs : List Int) : cloRow (encA k xs) = true := encA_all k xs fun _ => rfl
theorem encA_dup (k : IntKind) (xs : List Int) : (encA k xs).all SV.dup = true := encA_all k xs fun _ => rfl
theorem encA_shut (k : IntKind) (xs : List Int) : shutL (encA k xs) = true := by rw [shutL_eq]; exact encA_all k xs fun _ => by simp [SV.shut]
theorem encA_frz (k : IntKind) (xs : List Int) : frzL (encA k xs) = encA k xs := by rw [frzL_eq]; exact encA_map k xs fun _ => by simp [SV.frz]
theorem encA_kill (k : IntKind) (xs : List Int) (d : Nat) : (encA k xs).map (SV.kill1 d) = encA k xs := encA_map k xs fun _ => rfl
theorem encA_vis (k : IntKind) (xs : List Int) : visL (encA k xs) = encA k xs := encA_map k xs fun _ => rfl
theorem encA_arg (k : IntKind) (xs : List Int) (B : Nat → Option Bk) (r : Nat → Option Nat) : (encA k xs).map (arg1 B r) = encA k xs := encA_map k xs fun _ => by simp [arg1, argL, lend1, lend0, SV.frz]
theorem encA_lend (k : IntKind) (xs : List Int) (B : Nat → Option Bk) : (encA k xs).map (lend0 B) = encA k xs := encA_map k xs fun _ => by simp [lend0, SV.frz]
theorem encA_drop (k : IntKind) (n : Nat) (xs : List Int) : (encA k xs).drop n = encA k (xs.drop n) := by simp [encA]
theorem encA_take (k : IntKind) (n : Nat) (xs : List Int) : (encA k xs).take n = encA k (xs.take n) := by simp [encA]
theorem conSV_replicate (k : IntKind) (n : Nat) (x : Int) : (List.replicate n (Value.int k x)).map conSV = encA k (List.replicate n x) := by
  simp [encA, conSV]
theorem all_oneCell_replicate (k : IntKind) (n : Nat) (x : Int) : (List.replicate n (Value.int k x)).all Value.oneCell' = true := by
  simp [Value.oneCell']
theorem impCs_A (k : IntKind) (xs : List Int) : ∀ n, impCs n (encA k xs) = (encA k xs, []) := by
  induction xs with
  | nil => intro n; rfl
  | cons x xs ih =>
    intro n
    show ((impC n (.pl (.int k x))).1 :: (impCs (n + 1) (encA k xs)).1, (impC n (.pl (.int k x))).2 ++ (impCs (n + 1) (encA k xs)).2) = _
    rw [ih]
    rfl
theorem visL_nil : visL [] = [] := rfl
theorem visL_cons (c : SV) (r : List SV) : visL (c :: r) = c.vis :: visL r := rfl
theorem visL_append (a b : List SV) : visL (a ++ b) = visL a ++ visL b := List.map_append
theorem visL_length (a : List SV) : (visL a).length = a.length := by simp [visL]
theorem chunks_A (k : IntKind) (xs : List Int) (n : Nat) (h : n ≤ xs.length) : chunks (encA k xs) 1 n = encI k (xs.take n) := by
  apply List.ext_getElem?
  intro i
  by_cases hi : i < n
  · have h1 : (chunks (encA k xs) 1 n)[i]? = some (((encA k xs).drop (i * 1)).take 1) := by
      unfold chunks
      rw [List.getElem?_map, List.getElem?_range hi]; rfl
    have hx : i < xs.length := by omega
    rw [h1]
    unfold encI encA
    rw [List.getElem?_map, List.getElem?_take, if_pos hi, List.getElem?_eq_getElem hx, Nat.mul_one, ← List.map_drop, List.drop_eq_getElem_cons hx]
    rfl
  · rw [List.getElem?_eq_none (by rw [chunks_length]; omega), List.getElem?_eq_none (by rw [encI_length, List.length_take]; omega)]

attribute [go_sem] killRows_clo rnRows_clo sbRows_clo killRow_clo rnRow_clo sbRow_clo killRows_nil killRows_cons killRows_append rnRows_nil rnRows_cons rnRows_append sbRows_nil sbRows_cons sbRows_append
  cloRows_nil cloRows_cons cloRow_nil cloRow_cons cloRow_append cloRows_append cloRows_take cloRows_drop cloRows_set cloRows_replicate dupRows_nil dupRows_cons dupRows_append dupRows_take dupRows_drop shutRows_append shutRows_take shutRows_drop frzRows_append frzRows_take frzRows_drop frzL_append
  RowsLen_nil RowsLen_append RowsLen_cons RowsLen_take RowsLen_drop
  encI_length encI_set encI_append encI_app1 encI_replicate encI_drop encI_take encI_inj encI_isEmpty encI_rowsLen encI_clo encI_dup encI_shut encI_frz
  encA_length encA_set encA_replicate encA_append encA_inj encA_one encA_cloP encA_clo encA_dup encA_shut encA_frz encA_kill encA_vis encA_arg encA_lend encA_drop encA_take conSV_replicate all_oneCell_replicate impCs_A visL_nil visL_cons visL_append visL_length

/-! ## The type table -/

inductive AllOk (P : Program) : List (Nat × TI) → Prop
  | nil : AllOk P []
  | cons {t : Nat} {ti : TI} {L : List (Nat × TI)} (h : TI.Ok P t ti) (hs : AllOk P L) : AllOk P ((t, ti) :: L)
theorem tok_of (L : List (Nat × TI)) (P : Program) (h : AllOk P L) : TOk P fun t => L.lookup t := fun t ti e => by
  have e : L.lookup t = some ti := e
  induction h with
  | nil => simp at e
  | cons h _ ih =>
    rw [lookup_cons_if] at e
    split at e
    · rename_i g
      obtain rfl := Option.some.inj e
      subst g
      exact h
    · exact ih e e

end Go.Vcg
/- Regions whose order the tape draws. -/
namespace Go.Vcg

/-! ## What is guarded stays -/

def Kp (G : Nat → Prop) (w w' : World) : Prop := w.heap.size ≤ w'.heap.size ∧ ∀ i, G i → w'.heap[i]? = w.heap[i]?
theorem Kp.refl (G : Nat → Prop) (w : World) : Kp G w w := ⟨Nat.le_refl _, fun _ _ => rfl⟩
theorem Kp.trans {G : Nat → Prop} {w w' w'' : World} (h : Kp G w w') (h' : Kp G w' w'') : Kp G w w'' := ⟨Nat.le_trans h.1 h'.1, fun i hi => (h'.2 i hi).trans (h.2 i hi)⟩
theorem Kp.sub {G G' : Nat → Prop} {w w' : World} (h : Kp G w w') (hG : ∀ x, G' x → G x) : Kp G' w w' := ⟨h.1, fun i hi => h.2 i (hG i hi)⟩

section
variable {P : Program} {md : Region.Mode} {ops : Array Oper} {Q : Exit → Act → World → Prop} {G G' : Nat → Nat → Prop}

/-- G j: what operation j leaves as it is. -/
def wpAnyF (P : Program) (md : Region.Mode) (ops : Array Oper) (Q : Exit → Act → World → Prop) (G : Nat → Nat → Prop) : Nat → Array Bool → Act → World → Prop
  | 0, listed, a, w => Region.ready md ops listed = [] ∧ Q .normal a w
  | fuel + 1, listed, a, w => (Region.ready md ops listed = [] → Q .normal a w) ∧
    ∀ i ∈ Region.ready md ops listed, wpOp P ops Q i (fun a' w' => Kp (G i) w w' ∧ wpAnyF P md ops Q G fuel (listed.setIfInBounds i true) a' w') a w

theorem wpAny_of_F : ∀ (fuel : Nat) (listed : Array Bool) (a : Act) (w : World), wpAnyF P md ops Q G fuel listed a w → wpAny P md ops Q fuel listed a w
  | 0, _, _, _, h => h
  | fuel + 1, _, _, _, h => ⟨h.1, fun i hi => wpOp_mono (fun a' w' h' => wpAny_of_F fuel _ a' w' h'.2) (h.2 i hi)⟩
theorem wpAnyF_mono (hG : ∀ j i, G' j i → G j i) : ∀ (fuel : Nat) (listed : Array Bool) (a : Act) (w : World), wpAnyF P md ops Q G fuel listed a w → wpAnyF P md ops Q G' fuel listed a w
  | 0, _, _, _, h => h
  | fuel + 1, _, _, _, h => ⟨h.1, fun i hi => wpOp_mono (fun a' w' h' => ⟨h'.1.sub (hG i), wpAnyF_mono hG fuel _ a' w' h'.2⟩) (h.2 i hi)⟩

theorem YieldsIf.later {Gi : Nat → Prop} {o : Oper} {v : Value} {a : Act} {w w' : World} (hk : Kp Gi w w') (h : YieldsIf P ops (Kp Gi w) o v a) : YieldsIf P ops (Kp Gi w') o v a :=
  h.imp (fun ⟨h1, h2⟩ => ⟨h1, fun w'' hw => h2 w'' (hk.trans hw)⟩) id

theorem wpAnyF_first {i : Nat} {oi : Oper} {v : Value} {Gi : Nat → Prop} {F : Nat → Bool} (hi : ops[i]? = some oi) (hsel : ∀ (j : Nat) (o : Oper) cs b, ops[j]? = some o → o.op ≠ .select cs b)
    (hQ : ∀ c a w, Q (.panic c) (a.put oi.dst v) w → Q (.panic c) a w) (hgi : ∀ x, G i x → G i x)
    (hF : ∀ (j : Nat) (oj : Oper), F j = true → j ≠ i → ops[j]? = some oj → ∃ e ∈ oj.after, Region.binds md e = true ∧ F e.on = true) :
    ∀ (fuel : Nat) (listed : Array Bool) (a : Act) (w : World),
      (∀ j, F j = true → listed.getD j true = false) →
      (∀ j oj, ops[j]? = some oj → j ≠ i → listed.getD j true = false → ((∀ e ∈ oj.after, Region.binds md e = true → e.on ≠ i) → oi.apart ops oj = true) ∧ (F j = false → ∀ x, Gi x → G j x)) →
      i ∈ Region.ready md ops listed → YieldsIf P ops (Kp Gi w) oi v a →
      wpAnyF P md ops Q G fuel (listed.setIfInBounds i true) (a.put oi.dst v) w → wpAnyF P md ops Q G (fuel + 1) listed a w := by
  intro fuel
  induction fuel with
  | zero =>
    intro listed a w _ _ hr hy H
    refine ⟨fun h => (by rw [h] at hr; cases hr), fun j hj => ?_⟩
    by_cases hji : j = i
    · subst hji; exact hy.wpOp hi (Kp.refl _ w) ⟨Kp.refl _ w, H⟩
    · have := ready_mono hj hji
      rw [H.1] at this
      cases this
  | succ fuel ih =>
    intro listed a w hun0 hfree hr hy H
    refine ⟨fun h => (by rw [h] at hr; cases hr), fun j hj => ?_⟩
    by_cases hji : j = i
    · subst hji; exact hy.wpOp hi (Kp.refl _ w) ⟨Kp.refl _ w, H⟩
    · have h1 := H.2 j (ready_mono hj hji)
      obtain ⟨hjun, oj, hoj, hall⟩ := mem_ready.1 hj
      have hnot : ∀ e ∈ oj.after, Region.binds md e = true → e.on ≠ i := fun e he hb heq => by
        have h1 := hall e he hb
        have h0 := (mem_ready.1 hr).1
        rw [heq] at h1
        rcases Nat.lt_or_ge i listed.size with h' | h'
        · simp [h'] at h0 h1; rw [h0] at h1; cases h1
        · simp [Array.getElem?_eq_none h'] at h1
      have hFj : F j = false := by
        cases hc : F j with
        | false => rfl
        | true =>
          obtain ⟨e, he, hb, hfe⟩ := hF j oj hc hji hoj
          have h1 := hall e he hb
          have h0 := hun0 e.on hfe
          rcases Nat.lt_or_ge e.on listed.size with h' | h'
          · simp [h'] at h0 h1; rw [h0] at h1; cases h1
          · simp [Array.getElem?_eq_none h'] at h1
      obtain ⟨hap0, hGj0⟩ := hfree j oj hoj hji hjun
      have hap := hap0 hnot
      have hGj := hGj0 hFj
      have h1' : wpOp P ops Q j (fun a' w' => Kp Gi w w' ∧ (Kp (G j) w w' ∧ wpAnyF P md ops Q G fuel ((listed.setIfInBounds i true).setIfInBounds j true) a' w')) (a.put oi.dst v) w := wpOp_mono (fun a' w' h => ⟨h.1.sub hGj, h⟩) h1
      have h2 := wpOp_putIf hoj hap (fun cs b => hsel i oi cs b hi) (fun cs b => hsel j oj cs b hoj) hQ hy h1'
      have hback : ∀ k, k ≠ j → (listed.setIfInBounds j true).getD k true = false → listed.getD k true = false := fun k hk hun => by
        rw [getD_set_ne true (Ne.symm hk)] at hun; exact hun
      have hun0' : ∀ k, F k = true → (listed.setIfInBounds j true).getD k true = false := fun k hk => by
        have hkj : k ≠ j := fun e => by rw [e, hFj] at hk; cases hk
        rw [getD_set_ne true (Ne.symm hkj)]
        exact hun0 k hk
      have hfree' : ∀ k ok, ops[k]? = some ok → k ≠ i → (listed.setIfInBounds j true).getD k true = false →
          ((∀ e ∈ ok.after, Region.binds md e = true → e.on ≠ i) → oi.apart ops ok = true) ∧ (F k = false → ∀ x, Gi x → G k x) := fun k ok hk hki hun => by
        refine hfree k ok hk hki ?_
        by_cases hjk : j = k
        · subst hjk; exact hjun
        · exact hback k (Ne.symm hjk) hun
      refine wpOp_mono (fun a' w' h3 => ⟨h3.2.2.1, ih (listed.setIfInBounds j true) a' w' hun0' hfree' (ready_mono hr (Ne.symm hji)) (YieldsIf.later h3.2.1 h3.1) ?_⟩) h2
      rw [Array.setIfInBounds_comm _ _ hji]
      exact h3.2.2.2
end

/-! ## The state, told from a later world on -/

variable {w0 : World} {M : Perm} {S0 : Nat → Prop} {ρ : Nat → Option Loc} {φ : Nat → Nat → Prop} {S : Nat → Prop} {st : St} {a : Act} {w : World} {P : Program} {T : Nat → Option TI} {K : St → Prop} {ops : Array Oper}

/-- The blocks of the names of W. -/
def wBlk (W : Nat → Bool) (ρ : Nat → Option Loc) (φ : Nat → Nat → Prop) (st : St) (i : Nat) : Prop := ∃ b, W b = true ∧ st.blk b ≠ none ∧ owns ρ φ b i
/-- The rights of one operation of a region; wri: it may write the names of W. -/
def reb (M : Perm) (w0 : World) (W : Nat → Bool) (wri : Bool) (ρ : Nat → Option Loc) (φ : Nat → Nat → Prop) (st : St) : Perm :=
  ⟨fun x => wri = true ∧ wBlk W ρ φ st x, M.pin, fun b => wri = true ∧ W b = true, fun b x => (wri = false → W b = true → wBlk W ρ φ st x) ∧ (M x ∨ w0.heap.size ≤ x ∨ ∃ b', M.ro b' x)⟩

theorem Sim.reb (h : Sim w0 M S0 ρ φ S st a w) (W : Nat → Bool) (wri : Bool) : Sim w (Vcg.reb M w0 W wri ρ φ st) S ρ φ S st a w := by
  refine ⟨h.size, h.defers, h.slot, h.dslot, h.heap, h.sb, fun _ hi => hi, fun _ hi => .inl hi, Nat.le_refl _, fun _ _ _ => rfl, fun b x h1 h2 => ?_, h.pin, h.small, .refl w, fun _ => Nat.le_refl _⟩
  have hro : M x ∨ w0.heap.size ≤ x ∨ ∃ b', M.ro b' x := by
    rcases h.own b x h1 h2 with (g | g) | g
    · exact .inl g
    · exact .inr (.inl g)
    · exact .inr (.inr ⟨b, g.2⟩)
  by_cases hb : wri = true ∧ W b = true
  · exact .inl (.inl ⟨hb.1, b, hb.2, h1, h2⟩)
  · exact .inr ⟨hb, fun e hbW => ⟨b, hbW, h1, h2⟩, hro⟩

theorem Sim.wBlk_own (h : Sim w0 M S0 ρ φ S st a w) {W : Nat → Bool} (hW : ∀ b, W b = true → M.wr b) {i : Nat} (hi : wBlk W ρ φ st i) : M i ∨ w0.heap.size ≤ i := by
  obtain ⟨b, hb, h1, h2⟩ := hi
  exact (h.own b i h1 h2).resolve_right fun g => g.1 (hW b hb)

theorem Sim.back {ρ' : Nat → Option Loc} {φ' : Nat → Nat → Prop} {S' : Nat → Prop} {st' : St} {a' : Act} {w' : World} (h : Sim w0 M S0 ρ φ S st a w) {W : Nat → Bool} {wri : Bool} (hW : ∀ b, W b = true → M.wr b) (hro : ∀ b b' i, M.wr b → ¬ M.ro b' i) (hall : ∀ b, M.wr b) (h' : Sim w (Vcg.reb M w0 W wri ρ φ st) S ρ' φ' S' st' a' w') : Sim w0 M S0 ρ' φ' S' st' a' w' := by
  refine ⟨h'.size, h'.defers, h'.slot, h'.dslot, h'.heap, h'.sb, fun i hi => h'.base i (h.base i hi), fun i hi => ?_, Nat.le_trans h.grow h'.grow, fun i hi hm => ?_, fun b x h1 h2 => ?_, h'.pin, h'.small, h.wide.1.trans h'.wide.1, fun x => Nat.le_trans (h.wide.2 x) (h'.wide.2 x)⟩
  · rcases h'.from_ i hi with g | g | g | ⟨b, _, g | g | g⟩
    · exact h.from_ i g
    · rcases h.wBlk_own hW g.2 with g | g
      · exact .inr (.inl g)
      · exact .inr (.inr (.inl g))
    · exact .inr (.inr (.inl (Nat.le_trans h.grow g)))
    · exact .inr (.inl g)
    · exact .inr (.inr (.inl g))
    · exact .inr (.inr (.inr g))
  · rw [h'.keep i (Nat.lt_of_lt_of_le hi h.grow) fun g => ?_]
    · exact h.keep i hi hm
    · rcases h.wBlk_own hW g.2 with g | g
      · exact hm g
      · omega
  · left
    rcases h'.own b x h1 h2 with (g | g) | ⟨_, _, g | g | ⟨b', g⟩⟩
    · exact h.wBlk_own hW g.2
    · exact .inr (Nat.le_trans h.grow g)
    · exact .inl g
    · exact .inr g
    · exact absurd g (hro b b' x (hall b))

/-! ## The walk of a drawn region -/

/-- The Cx of one operation of the region. -/
def RCx (P : Program) (W : Nat → Bool) (wri : Bool) (w0 : World) (may : Nat → Prop) (pin : Nat → Option Loc) (ro : Nat → Nat → Prop) (S0 : Nat → Prop) (pan : List PanicEntry → St → Prop) : Cx := ⟨P, w0, ⟨may, pin, fun b => wri = true ∧ W b = true, ro⟩, S0, pan⟩

/-- What operation j leaves as it is. -/
def kept (W : Nat → Bool) (ws : List Nat) (ρ : Nat → Option Loc) (φ : Nat → Nat → Prop) (st : St) (w : World) (j i : Nat) : Prop := i < w.heap.size ∧ (ws.contains j = true → ¬ wBlk W ρ φ st i)

/-- Whatever order is picked from here on; W: the names that the region may write; ws: the operations that may. -/
def RA (P : Program) (W : Nat → Bool) (ws : List Nat) (pan : List PanicEntry → St → Prop) (ops : Array Oper) (fuel : Nat) (listed : Array Bool) (st : St) (K : St → Prop) : Prop :=
  ∀ (w0 : World) (M : Perm) (S0 : Nat → Prop) (ρ : Nat → Option Loc) (φ : Nat → Nat → Prop) (S : Nat → Prop) (a : Act) (w : World) (Q : Exit → Act → World → Prop),
    Sim w0 M S0 ρ φ S st a w → (∀ b, M.wr b) → (∀ b i, ¬ M.ro b i) → (∀ a' w', Nx w0 M S0 K a' w' → Q .normal a' w') → (∀ ch a' w', (∃ st', pan ch st' ∧ Holds w0 M S0 st'.noSl a' w') → Q (.panic ch) a' w') → (∀ c a' d v w', Q (.panic c) (a'.put d v) w' → Q (.panic c) a' w') →
    wpAnyF P .any ops Q (kept W ws ρ φ st w) fuel listed a w

variable {W : Nat → Bool} {ws : List Nat} {pan : List PanicEntry → St → Prop}

theorem RA.done {listed : Array Bool} (hr : Region.ready .any ops listed = []) (hK : K st) : ∀ fuel, RA P W ws pan ops fuel listed st K
  | 0 => fun _ _ _ ρ φ S a w Q h _ _ hQ _ _ => ⟨hr, hQ a w ⟨st, hK, ρ, φ, S, h⟩⟩
  | _ + 1 => fun _ _ _ ρ φ S a w Q h _ _ hQ _ _ => ⟨fun _ => hQ a w ⟨st, hK, ρ, φ, S, h⟩, by rw [hr]; simp⟩

/-- What operation i reads, when it is taken first: everything that those leave which may come before it. -/
def readG (W : Nat → Bool) (all : Bool) (ρ : Nat → Option Loc) (φ : Nat → Nat → Prop) (st : St) (w : World) (i : Nat) : Prop := i < w.heap.size ∧ (all = false → ¬ wBlk W ρ φ st i)
/-- Those that can only come behind i, as far as it is seen going once through. -/
def foll (ops : Array Oper) (i : Nat) : List Nat := (List.range ops.size).foldl (fun F j => if j == i then F else match ops[j]? with
  | some oj => if oj.after.any fun e => Region.binds .any e && F.contains e.on then j :: F else F
  | none => F) [i]
/-- They have an edge each on one of them, and none is listed. -/
def follOk (ops : Array Oper) (listed : Array Bool) (i : Nat) (F : List Nat) : Bool := F.all fun j => !listed.getD j true && (j == i || match ops[j]? with
  | some oj => oj.after.any fun e => Region.binds .any e && F.contains e.on
  | none => true)
/-- None of those which may come before i writes. -/
def quiet (ops : Array Oper) (listed : Array Bool) (ws : List Nat) (i : Nat) : Bool := follOk ops listed i (foll ops i) && ws.all fun j => j == i || listed.getD j true || (foll ops i).contains j

/-- An operation that yields the same whatever the others do is taken first. -/
theorem RA.first {fuel i d : Nat} {listed : Array Bool} {o : Oper} {sv : SV} (all : Bool) (hall : all = true → quiet ops listed ws i = true) (ho : ops[i]? = some o) (hs : Region.noSelect ops = true) (hf : Region.free .any ops listed i = true) (hr : (Region.ready .any ops listed).contains i = true) (hd : o.dst = some d) (hdn : d < st.n)
    (hy : ∀ (w0 : World) (M : Perm) (S0 : Nat → Prop) (ρ : Nat → Option Loc) (φ : Nat → Nat → Prop) (S : Nat → Prop) (a : Act) (w : World), Sim w0 M S0 ρ φ S st a w → ∃ v, YieldsIf P ops (Kp (readG W all ρ φ st w) w) o v a ∧ Rep ρ S w v sv)
    (h : RA P W ws pan ops fuel (listed.setIfInBounds i true) (st.set d sv) K) : RA P W ws pan ops (fuel + 1) listed st K := by
  intro w0 M S0 ρ φ S a w Q hsim hW hro hQ hp hp2
  obtain ⟨v, h1, h2⟩ := hy w0 M S0 ρ φ S a w hsim
  have hr' : i ∈ Region.ready .any ops listed := by simpa using hr
  have hgo := fun (F : Nat → Bool) (hF1 : ∀ (j : Nat) (oj : Oper), F j = true → j ≠ i → ops[j]? = some oj → ∃ e ∈ oj.after, Region.binds .any e = true ∧ F e.on = true) (hF2 : ∀ j, F j = true → listed.getD j true = false)
      (hF3 : ∀ j, j ≠ i → listed.getD j true = false → F j = false → ws.contains j = true → all = false) =>
    wpAnyF_first (P := P) (Q := Q) (G := kept W ws ρ φ st w) (Gi := readG W all ρ φ st w) (F := F) ho (Region.noSelect_spec hs) (fun c a w hc => hp2 c a _ v w hc) (fun _ h => h) hF1 fuel listed a w hF2 (fun j oj hj hji hun => ⟨fun hno => Region.free_spec ho hf j oj hj hji hun hno, fun hFj x hx => ⟨hx.1, fun hjw => hx.2 (hF3 j hji hun hFj hjw)⟩⟩) hr' h1 (by
      rw [hd]
      exact h w0 M S0 ρ φ S _ w Q (hsim.setSlot hdn h2) hW hro hQ hp hp2)
  cases hal : all with
  | false =>
    subst hal
    refine hgo (fun j => j == i) (fun j oj hj hji => absurd (by simpa using hj) hji) (fun j hj => ?_) fun j _ _ _ _ => rfl
    obtain rfl : j = i := by simpa using hj
    have := (mem_ready.1 hr').1
    exact this
  | true =>
    subst hal
    have hq := hall rfl
    unfold quiet follOk at hq
    simp only [Bool.and_eq_true, List.all_eq_true, Bool.not_eq_true', Bool.or_eq_true, beq_iff_eq] at hq
    refine hgo (fun j => (foll ops i).contains j) (fun j oj hj hji hoj => ?_) (fun j hj => ?_) fun j hji hun hFj hjw => ?_
    · rcases (hq.1 j (by simpa using hj)).2 with g | g
      · exact absurd g hji
      · rw [hoj] at g
        simp only [Array.any_eq_true, Bool.and_eq_true] at g
        obtain ⟨q, hq1, g1, g2⟩ := g
        exact ⟨_, Array.getElem_mem hq1, g1, g2⟩
    · exact (hq.1 j (by simpa using hj)).1
    · rcases hq.2 j (by simpa using hjw) with (g | g) | g
      · exact absurd g hji
      · rw [hun] at g; cases g
      · rw [g] at hFj; cases hFj

/-! ### Loads: the block that an address names -/

def SV.safe (W : Nat → Bool) : SV → Bool
  | .pt b _ _ => !W b
  | .bp _ _ => true
  | _ => false

theorem Sim.not_wBlk (h : Sim w0 M S0 ρ φ S st a w) {b : Nat} {x : Nat} (hb : st.blk b ≠ none) (hx : owns ρ φ b x) (hn : W b = false) : ¬ wBlk W ρ φ st x := by
  rintro ⟨y, hy, h1, h2⟩
  have := h.heap.inj y b x h1 hb h2 hx
  subst this
  rw [hn] at hy; cases hy
theorem Sim.safe_at (h : Sim w0 M S0 ρ φ S st a w) {v : Value} {s : SV} (hr : Rep ρ S w v s) {q : Prop × List SV × Nat} (he : st.at s = some q) {all : Bool} (hs : all = false → s.safe W = true) {b o : Nat} (hv : v = .pointer (some ⟨b, o, none⟩)) : readG W all ρ φ st w b := by
  unfold St.at at he
  split at he
  · rename_i x i o'
    split at he <;> try (cases he; done)
    rename_i k rows hb
    cases hr with
    | per h => cases h
    | pt _ _ _ l hl =>
      have hb' : st.blk x ≠ none := by rw [hb]; simp
      simp only [Loc.addr, Value.pointer.injEq, Option.some.injEq, Addr.mk.injEq] at hv
      rw [← hv.1]
      exact ⟨h.heap.lt x _ hb' (.inl ⟨l, hl, rfl⟩), fun e => h.not_wBlk hb' (.inl ⟨l, hl, rfl⟩) (by have := hs e; simpa [SV.safe] using this)⟩
  · cases hr with
    | per h0 => cases h0 with
      | bp blk off _ _ f hS hm hrep =>
        simp only [Value.pointer.injEq, Option.some.injEq, Addr.mk.injEq] at hv
        rw [← hv.1]
        exact ⟨h.sb _ hS, fun _ ⟨x, hx, h1, h2⟩ => h.heap.notS x _ h1 h2 hS⟩
  · cases he

/-- What a pure operation yields, it yields in every world that keeps what is guarded. -/
theorem pev_kept (hT : TOk P T) (h : Sim w0 M S0 ρ φ S st a w) {all : Bool} {e : Operand → SV} (hev : ∀ x, Rep ρ S w (a.eval x) (e x)) {o : Oper} {sv : SV} {side : Prop} (he : pev T st e o.op = some (side, sv)) (hs : side)
    (hl : ∀ t x, o.op = .load t x → all = false → (e x).safe W = true) : ∃ u, (∀ w', Kp (readG W all ρ φ st w) w w' → (execOp a.eval o).run P w' = .ok (.value u) w') ∧ Rep ρ S w u sv := by
  cases hio : isLoad o.op with
  | false =>
    obtain ⟨u, h1, h2⟩ := pev_any (P := P) hT h hev he hs hio
    exact ⟨u, fun w' _ => h1 w', h2⟩
  | true =>
    unfold execOp
    generalize o.op = op at he hio hl
    cases op <;> try (cases hio; done)
    rename_i t x
    have hsafe := hl t x rfl
    have he' : pLoad T st t (e x) = some (side, sv) := he
    obtain ⟨b, ad, u, g1, g2, g3⟩ := pLoad_any (P := P) hT h (hev x) he' hs
    have hat : ∃ q, st.at (e x) = some q := by
      unfold pLoad at he'
      split at he' <;> try (cases he'; done)
      exact ⟨_, by assumption⟩
    obtain ⟨q, hq⟩ := hat
    have := h.safe_at (hev x) hq hsafe g1
    exact ⟨u, fun w' hk => by simp [g2 w' (hk.2 b this)], g3⟩

def nthO : List Oper → Nat → Option Oper
  | [], _ => none
  | o :: _, 0 => some o
  | _ :: l, n + 1 => nthO l n
theorem nthO_ok {l : List Oper} {i : Nat} {o : Oper} (h : nthO l i = some o) : l.toArray[i]? = some o := by
  rw [List.getElem?_toArray]
  induction l generalizing i with
  | nil => cases h
  | cons x l ih => cases i with
    | zero => exact h
    | succ i => exact ih h

section
variable {fuel i d : Nat} {listed : Array Bool} {o : Oper} {sv : SV} {side : Prop} {l : List Oper}

/-- a pure operation is taken first -/
theorem RA.p (all : Bool) (hall : all = true → quiet l.toArray listed ws i = true) (hT : TOk P T) (ho : nthO l i = some o) (hs : Region.noSelect l.toArray = true) (hf : Region.free .any l.toArray listed i = true) (hr : (Region.ready .any l.toArray listed).contains i = true) (hd : o.dst = some d) (hg : o.guard = none)
    (he : pev T st st.ev o.op = some (side, sv)) (hl : ∀ t x, o.op = .load t x → all = false → (st.ev x).safe W = true) (hdn : d < st.n) (hsd : side) (h : side → RA P W ws pan l.toArray fuel (listed.setIfInBounds i true) (st.set d sv) K) : RA P W ws pan l.toArray (fuel + 1) listed st K := by
  refine RA.first all hall (nthO_ok ho) hs hf hr hd hdn (fun w0 M S0 ρ φ S a w hsim => ?_) (h hsd)
  obtain ⟨u, h1, h2⟩ := pev_kept (P := P) (W := W) hT hsim (fun x => hsim.ev x) he hsd hl
  exact ⟨u, .inl ⟨by unfold Region.wanted; rw [hg], h1⟩, h2⟩

/-- a pure operation under a guard is taken first -/
theorem RA.g (all : Bool) (hall : all = true → quiet l.toArray listed ws i = true) (hT : TOk P T) {j x : Nat} {want c g : Bool} {oj : Oper} (ho : nthO l i = some o) (hs : Region.noSelect l.toArray = true) (hf : Region.free .any l.toArray listed i = true) (hr : (Region.ready .any l.toArray listed).contains i = true) (hd : o.dst = some d) (hg : o.guard = some (j, want))
    (hj : nthO l j = some oj) (hdj : oj.dst = some x) (hv : gVal (st.get x) = some (c, g)) (he : pev T st (fun y => (st.ev y).assume (gWant want c g)) o.op = some (side, sv)) (hl : ∀ t y, o.op = .load t y → all = false → ((st.ev y).assume (gWant want c g)).safe W = true) (hxn : x < st.n) (hdn : d < st.n)
    (hsd : gWant want c g = true → side) (h : (gWant want c g = true → side) → RA P W ws pan l.toArray fuel (listed.setIfInBounds i true) (st.set d (.cn (gWant want c g) sv)) K) : RA P W ws pan l.toArray (fuel + 1) listed st K := by
  refine RA.first all hall (nthO_ok ho) hs hf hr hd hdn (fun w0 M S0 ρ φ S a w hsim => ?_) (h hsd)
  have hw := wanted_of (C := ⟨P, w0, M, S0, pan⟩) (ops := l.toArray) (w := w) hsim hg (nthO_ok hj) hdj hxn hv
  cases e : gWant want c g with
  | true =>
    obtain ⟨u, h1, h2⟩ := pev_kept (P := P) (W := W) hT hsim (fun y => (hsim.ev y).assume e) he (hsd e) hl
    exact ⟨u, .inl ⟨hw.trans e, h1⟩, .cn _ _ _ (fun _ => h2) (fun e' => by cases e')⟩
  | false => exact ⟨undef, .inr ⟨hw.trans e, rfl⟩, .cn _ _ _ (fun e' => by cases e') (fun _ => rfl)⟩
end

/-- Every operation that may come up now. -/
def RAll (P : Program) (W : Nat → Bool) (ws : List Nat) (pan : List PanicEntry → St → Prop) (ops : Array Oper) (fuel : Nat) (listed : Array Bool) (st : St) (K : St → Prop) : List Nat → Prop
  | [] => True
  | i :: is => (∃ o, ops[i]? = some o ∧ ∀ w0 may pin ro S0, So (RCx P W (ws.contains i) w0 may pin ro S0 pan) ops o st fun st' => RA P W ws pan ops fuel (listed.setIfInBounds i true) st' K) ∧ RAll P W ws pan ops fuel listed st K is
theorem RAll.mem {fuel : Nat} {listed : Array Bool} : ∀ {is : List Nat}, RAll P W ws pan ops fuel listed st K is → ∀ i ∈ is, ∃ o, ops[i]? = some o ∧ ∀ w0 may pin ro S0, So (RCx P W (ws.contains i) w0 may pin ro S0 pan) ops o st fun st' => RA P W ws pan ops fuel (listed.setIfInBounds i true) st' K
  | _ :: _, h, i, hi => by
    rcases List.mem_cons.mp hi with rfl | hi
    · exact h.1
    · exact RAll.mem h.2 i hi

theorem RA.all {fuel : Nat} {listed : Array Bool} {is : List Nat} (hr : Region.ready .any ops listed = is) (hne : is ≠ []) (h : RAll P W ws pan ops fuel listed st K is) : RA P W ws pan ops (fuel + 1) listed st K := by
  intro w0 M S0 ρ φ S a w Q hsim hW hro hQ hp hp2
  refine ⟨fun h0 => absurd (hr ▸ h0) hne, fun i hi => ?_⟩
  rw [hr] at hi
  obtain ⟨o, ho, hso⟩ := h.mem i hi
  have hreb := hsim.reb W (ws.contains i)
  let M' := Vcg.reb M w0 W (ws.contains i) ρ φ st
  have hcont : ∀ a' w', NK (RCx P W (ws.contains i) w M'.may M.pin M'.ro S pan) (fun st' => RA P W ws pan ops fuel (listed.setIfInBounds i true) st' K) a' w' →
      Kp (kept W ws ρ φ st w i) w w' ∧ wpAnyF P .any ops Q (kept W ws ρ φ st w) fuel (listed.setIfInBounds i true) a' w' := by
    rintro a' w' ⟨st', hra, ρ', φ', S', h'⟩
    have h'' : Sim w M' S ρ' φ' S' st' a' w' := h'
    refine ⟨⟨h''.grow, fun x hx => h''.keep x hx.1 fun g => hx.2 g.1 g.2⟩, ?_⟩
    have := hra w0 M S0 ρ' φ' S' a' w' Q (hsim.back (fun b _ => hW b) (fun _ b' i _ => hro b' i) hW h'') hW hro hQ hp hp2
    refine wpAnyF_mono (fun j x hx => ⟨Nat.lt_of_lt_of_le hx.1 h''.grow, fun hj g => ?_⟩) _ _ _ _ this
    refine hx.2 hj ?_
    obtain ⟨b, hb, h1, h2⟩ := g
    rcases h''.own b x h1 h2 with (g | g) | ⟨g1, g2, _⟩
    · exact g.2
    · have := hx.1; omega
    · refine g2 ?_ hb
      cases e : ws.contains i with
      | false => rfl
      | true => exact absurd ⟨e, hb⟩ g1
  have hpq : PQ (RCx P W (ws.contains i) w M'.may M.pin M'.ro S pan) Q := fun ch a' w' ⟨st', h1, ρ', φ', S', h'⟩ => hp ch a' w' ⟨st', h1, ρ', φ', S', hsim.back (fun b _ => hW b) (fun _ b' i _ => hro b' i) hW h'⟩
  have hso' := hso w M'.may M.pin M'.ro S
  unfold So at hso'
  have := hso' Q a w _ hcont hpq ⟨ρ, φ, S, hreb⟩
  unfold wpOp
  rw [ho]
  dsimp only
  split
  · rename_i e
    rw [if_pos e] at this
    exact .inl this
  · rename_i e
    rw [if_neg e] at this
    exact this

/-- The region. -/
theorem W.draw {C : Cx} {Q : SQ} {ks : List Kont} {id : Nat} {l : List Oper} (W : Nat → Bool) (ws : List Nat) (hm : C.P.follows .mixedOrders = true) (hW : ∀ b, C.M.wr b) (hro : ∀ b i, ¬ C.M.ro b i)
    (h : RA C.P W ws C.pan l.toArray l.length (Array.replicate l.length false) st (Swn C Q ks)) : Swk C Q ks (.region id l.toArray true) st := by
  unfold Swk Swp
  intro a w ⟨ρ, φ, S, hs⟩
  refine wp_region_any hm ?_
  have := h C.w0 C.M C.S0 ρ φ S a _ (LQ C (kq C Q ks)) hs.drew hW hro (fun a' w' ⟨st', h1, h2⟩ => ⟨st', by unfold Swn at h1; exact h1, h2⟩) (fun ch a' w' h1 => h1) (fun c a' d v w' ⟨st', h1, ρ', φ', S', h2⟩ => ?_)
  · simpa using wpAny_of_F _ _ _ _ this
  · cases d with
    | none => exact ⟨st', h1, ρ', φ', S', h2⟩
    | some d =>
      refine ⟨st', h1, ρ', φ', S', ⟨?_, h2.defers, fun t => ?_, h2.dslot, h2.heap, h2.sb, h2.base, h2.from_, h2.grow, h2.keep, h2.own, h2.pin, h2.small, h2.wide⟩⟩
      · have := h2.size
        simpa [Act.put, St.set] using this
      · exact .dead _

section
variable {fuel i : Nat} {listed : Array Bool} {l : List Oper} {side : Prop} {st' : St}
theorem RA.one {o : Oper} (ho : nthO l i = some o) (hr : Region.ready .any l.toArray listed = [i]) (h : ∀ w0 may pin ro S0, So (RCx P W (ws.contains i) w0 may pin ro S0 pan) l.toArray o st fun st' => RA P W ws pan l.toArray fuel (listed.setIfInBounds i true) st' K) : RA P W ws pan l.toArray (fuel + 1) listed st K :=
  RA.all hr (by simp) ⟨⟨o, nthO_ok ho, h⟩, trivial⟩

/-- An operation that makes memory or writes it, where no other may come up. -/
theorem RA.x1 (hT : TOk P T) {o : Oper} (ho : nthO l i = some o) (hr : Region.ready .any l.toArray listed = [i]) (hg : o.guard = none) (he : xop T (fun b => ws.contains i = true ∧ W b = true) st o.dst o.op = some (side, st')) (hs : side) (h : side → RA P W ws pan l.toArray fuel (listed.setIfInBounds i true) st' K) : RA P W ws pan l.toArray (fuel + 1) listed st K :=
  RA.one ho hr fun w0 may pin ro S0 => So.op hg (xop_ok (C := RCx P W (ws.contains i) w0 may pin ro S0 pan) hT he hs (h hs))

/-- The same, one of several. -/
theorem RX.x {is : List Nat} (hT : TOk P T) {o : Oper} (ho : nthO l i = some o) (hg : o.guard = none) (he : xop T (fun b => ws.contains i = true ∧ W b = true) st o.dst o.op = some (side, st')) (hs : side) (h : side → RA P W ws pan l.toArray fuel (listed.setIfInBounds i true) st' K) (hr : RAll P W ws pan l.toArray fuel listed st K is) : RAll P W ws pan l.toArray fuel listed st K (i :: is) :=
  ⟨⟨o, nthO_ok ho, fun w0 may pin ro S0 => So.op hg (xop_ok (C := RCx P W (ws.contains i) w0 may pin ro S0 pan) hT he hs (h hs))⟩, hr⟩
theorem RX.p {is : List Nat} {sv : SV} {d : Nat} (hT : TOk P T) {o : Oper} (ho : nthO l i = some o) (hg : o.guard = none) (hd : o.dst = some d) (he : pev T st st.ev o.op = some (side, sv)) (hs : side) (hdn : d < st.n) (h : side → RA P W ws pan l.toArray fuel (listed.setIfInBounds i true) (st.set d sv) K) (hr : RAll P W ws pan l.toArray fuel listed st K is) : RAll P W ws pan l.toArray fuel listed st K (i :: is) :=
  ⟨⟨o, nthO_ok ho, fun w0 may pin ro S0 => So.op hg (Sop.pure (C := RCx P W (ws.contains i) w0 may pin ro S0 pan) hT he hs (by rw [hd]; exact hdn) (by rw [hd]; exact h hs))⟩, hr⟩
theorem RX.of {is : List Nat} {o : Oper} (ho : nthO l i = some o) (h : ∀ w0 may pin ro S0, So (RCx P W (ws.contains i) w0 may pin ro S0 pan) l.toArray o st fun st' => RA P W ws pan l.toArray fuel (listed.setIfInBounds i true) st' K) (hr : RAll P W ws pan l.toArray fuel listed st K is) : RAll P W ws pan l.toArray fuel listed st K (i :: is) := ⟨⟨o, nthO_ok ho, h⟩, hr⟩
theorem RX.nil : RAll P W ws pan l.toArray fuel listed st K [] := trivial

/-- A call, where no other may come up. -/
theorem RA.c1 {ty : Nat} {d : Option Nat} {pos : String} {af : Array Edge} {c : Call} {f : Nat} (bs : Bs) {pins ps : Pins} {args : List SV} {sh : Bool} {r : SV} (hsp : TSpec P f pins args sh ps r) (hk : CallOk P f)
    (ho : nthO l i = some { dst := d, op := .call c, type := ty, pos := pos, after := af, guard := none }) (hr : Region.ready .any l.toArray listed = [i]) (hc : c.callee = .value (.func f)) (hbs : bsOk bs = true) (hw : ∀ q ∈ bs, ws.contains i = true ∧ W q.2 = true)
    (hp : pinsOf st.blk (toPin bs) bs = some pins) (ha : (c.args.toList.map st.ev).map (argSV (lentB st bs sh) (toPin bs)) = args) (hd : dOk st.n d) (hi : impOk r) (hb : bindR (backs st bs ps) d r = st')
    (h : RA P W ws pan l.toArray fuel (listed.setIfInBounds i true) st' K) : RA P W ws pan l.toArray (fuel + 1) listed st K :=
  RA.one ho hr fun w0 may pin ro S0 => So.op rfl (X.c (C := RCx P W (ws.contains i) w0 may pin ro S0 pan) bs hsp hk hc hbs hw hp ha hd hi hb h)
theorem RX.c {is : List Nat} {ty : Nat} {d : Option Nat} {pos : String} {af : Array Edge} {c : Call} {f : Nat} (bs : Bs) {pins ps : Pins} {args : List SV} {sh : Bool} {r : SV} (hsp : TSpec P f pins args sh ps r) (hk : CallOk P f)
    (ho : nthO l i = some { dst := d, op := .call c, type := ty, pos := pos, after := af, guard := none }) (hc : c.callee = .value (.func f)) (hbs : bsOk bs = true) (hw : ∀ q ∈ bs, ws.contains i = true ∧ W q.2 = true)
    (hp : pinsOf st.blk (toPin bs) bs = some pins) (ha : (c.args.toList.map st.ev).map (argSV (lentB st bs sh) (toPin bs)) = args) (hd : dOk st.n d) (hi : impOk r) (hb : bindR (backs st bs ps) d r = st')
    (h : RA P W ws pan l.toArray fuel (listed.setIfInBounds i true) st' K) (hr : RAll P W ws pan l.toArray fuel listed st K is) : RAll P W ws pan l.toArray fuel listed st K (i :: is) :=
  ⟨⟨_, nthO_ok ho, fun w0 may pin ro S0 => So.op rfl (X.c (C := RCx P W (ws.contains i) w0 may pin ro S0 pan) bs hsp hk hc hbs hw hp ha hd hi hb h)⟩, hr⟩
end

attribute [go_sem] SV.safe
attribute [irreducible] RA RAll

end Go.Vcg
