/- Rows, laid flat; make; where the elements of append and copy come from. -/
import Derived.Test.YtekdhfppbahidaaU9
import Derived.Laws.MakeOwn
import Derived.Laws.AppendOwn
namespace Go.Vcg

variable {w0 : World} {M : Perm} {S0 : Nat → Prop} {ρ : Nat → Option Loc} {φ : Nat → Nat → Prop} {S : Nat → Prop} {st : St} {a : Act} {w : World} {P : Program} {T : Nat → Option TI}

/-- Buffers of numbers; arrays of numbers; the bytes of a text. -/
def encI (k : IntKind) (xs : List Int) : Rows := xs.map fun x => [.pl (.int k x)]
def encA (k : IntKind) (xs : List Int) : List SV := xs.map fun x => .pl (.int k x)
def bytesOf (s : ByteArray) : List Int := s.data.toList.map fun b => (b.toNat : Int)
def byteRows (s : ByteArray) : Rows := encI .u8 (bytesOf s)

/-- These values, one behind the other, are rows of so many cells. -/
structure Flat (ρ : Nat → Option Loc) (S : Nat → Prop) (w : World) (esz : Nat) (vs : List Value) (rows : Rows) (F : Nat → Prop) : Prop where
  len : vs.length = rows.length * esz
  row : ∀ (i : Nat) (r : List SV), rows[i]? = some r → r.length = esz
  one : ∀ v ∈ vs, v.oneCell' = true
  cell : ∃ G : Nat → Nat → Nat → Prop, (∀ i j x, G i j x → F x) ∧ (∀ i j i' j' x, G i j x → G i' j' x → i = i' ∧ j = j') ∧
    ∀ (i : Nat) (r : List SV) (j : Nat) (c : SV), rows[i]? = some r → r[j]? = some c → ∃ v, vs[i * esz + j]? = some v ∧ CRep ρ S w v c (G i j)

theorem Flat.plain {esz : Nat} {vs : List Value} {rows : Rows} {F : Nat → Prop} (h1 : vs.length = rows.length * esz) (h2 : ∀ (i : Nat) (r : List SV), rows[i]? = some r → r.length = esz) (h3 : ∀ v ∈ vs, v.oneCell' = true)
    (h4 : ∀ (i : Nat) (r : List SV) (j : Nat) (c : SV), rows[i]? = some r → r[j]? = some c → ∃ v, vs[i * esz + j]? = some v ∧ Rep ρ S w v c) : Flat ρ S w esz vs rows F :=
  ⟨h1, h2, h3, fun _ _ _ => False, fun _ _ _ g => g.elim, fun _ _ _ _ _ g => g.elim, fun i r j c g1 g2 => let ⟨v, e1, e2⟩ := h4 i r j c g1 g2; ⟨v, e1, .inl e2⟩⟩

theorem Flat.append {esz : Nat} {vs us : List Value} {r1 r2 : Rows} {F1 F2 F : Nat → Prop} (h1 : Flat ρ S w esz vs r1 F1) (h2 : Flat ρ S w esz us r2 F2) (hd : ∀ x, F1 x → ¬ F2 x) (hF : ∀ x, F1 x ∨ F2 x → F x) : Flat ρ S w esz (vs ++ us) (r1 ++ r2) F := by
  obtain ⟨G1, a1, a2, a3⟩ := h1.cell
  obtain ⟨G2, b1, b2, b3⟩ := h2.cell
  refine ⟨by simp [h1.len, h2.len, Nat.add_mul], fun i r hr => ?_, fun v hv => ?_, fun i j x => if i < r1.length then G1 i j x else G2 (i - r1.length) j x, fun i j x g => ?_, fun i j i' j' x g g' => ?_, fun i r j c hr hj => ?_⟩
  · rw [List.getElem?_append] at hr
    split at hr
    · exact h1.row i r hr
    · exact h2.row _ r hr
  · rcases List.mem_append.mp hv with hv | hv
    · exact h1.one v hv
    · exact h2.one v hv
  · dsimp only at g
    split at g
    · exact hF x (.inl (a1 _ _ x g))
    · exact hF x (.inr (b1 _ _ x g))
  · dsimp only at g g'
    split at g <;> split at g'
    · exact a2 _ _ _ _ x g g'
    · exact absurd (b1 _ _ x g') (hd x (a1 _ _ x g))
    · exact absurd (b1 _ _ x g) (hd x (a1 _ _ x g'))
    · have := b2 _ _ _ _ x g g'; omega
  · rw [List.getElem?_append] at hr
    split at hr
    · rename_i hi
      obtain ⟨v, g1, g2⟩ := a3 i r j c hr hj
      refine ⟨v, ?_, ?_⟩
      · rw [List.getElem?_append_left (List.getElem?_eq_some_iff.mp g1).1]
        exact g1
      · have : (fun x => if i < r1.length then G1 i j x else G2 (i - r1.length) j x) = G1 i j := funext fun x => if_pos hi
        show CRep ρ S w v c (fun x => if i < r1.length then G1 i j x else G2 (i - r1.length) j x)
        rw [this]; exact g2
    · rename_i hi
      obtain ⟨v, g1, g2⟩ := b3 _ r j c hr hj
      refine ⟨v, ?_, ?_⟩
      · have e : i * esz + j = vs.length + ((i - r1.length) * esz + j) := by
          rw [h1.len]
          have : i = r1.length + (i - r1.length) := by omega
          rw [this, Nat.add_mul]
          simp
          omega
        rw [e, List.getElem?_append_right (by omega)]
        simpa using g1
      · have : (fun x => if i < r1.length then G1 i j x else G2 (i - r1.length) j x) = G2 (i - r1.length) j := funext fun x => if_neg hi
        show CRep ρ S w v c (fun x => if i < r1.length then G1 i j x else G2 (i - r1.length) j x)
        rw [this]; exact g2

theorem Flat.later {esz : Nat} {vs : List Value} {rows : Rows} {F : Nat → Prop} {w' : World} (h : Flat ρ S w esz vs rows F) (hsz : w.heap.size ≤ w'.heap.size) (hw : ∀ i, S i ∨ F i → i < w.heap.size → w'.heap[i]? = w.heap[i]?) (hb : ∀ i, S i → i < w.heap.size) (hz : ∀ x, rowSize w x ≤ rowSize w' x) : Flat ρ S w' esz vs rows F := by
  obtain ⟨G, e1, e2, e3⟩ := h.cell
  refine ⟨h.len, h.row, h.one, G, e1, e2, fun i r j c g1 g2 => ?_⟩
  obtain ⟨v, f1, f2⟩ := e3 i r j c g1 g2
  exact ⟨v, f1, f2.mono (fun _ h => h) hsz (fun x hx => hw x (hx.imp id (e1 i j x))) hb (fun _ _ => rfl) hz fun _ h => h⟩

/-- Flat rows in a new block, under a free name. -/
theorem Sim.bufNew (h : Sim w0 M S0 ρ φ S st a w) {d cap esz : Nat} {vs rest : List Value} {rows : Rows} (e : TypeId) (hd : d < st.n) (F : Nat → Prop) (hF : ∀ x, F x → ¬ S x ∧ x < w.heap.size ∧ (M x ∨ w0.heap.size ≤ x) ∧ ∀ b, st.blk b ≠ none → b ≠ d → ¬ owns ρ φ b x)
    (hf : Flat ρ S w esz vs rows F) (hc : rows.length ≤ cap) (hr : cap * esz ≤ vs.length + rest.length) (arr : Array Value) (harr : arr.toList = vs ++ rest) :
    Holds w0 M S0 (((st.kill d).setBlk d (.c esz (killRows d rows))).set d (.sl d 0 rows.length)) (a.put (some d) (.slice (some ⟨w.heap.size, 0, none⟩) rows.length cap)) (w.alloc (.cells arr e)) := by
  have hk : ∀ i, i < w.heap.size → (w.alloc (.cells arr e)).heap[i]? = w.heap[i]? := fun i hi => heap_alloc_old w _ i hi
  have hz := rowSize_later hk
  obtain ⟨ρ', φ', h1, h2, h3⟩ := (h.kill d).newBlk (d := d) (st.kill_free d) (not_pin_of_lt hd h.small) ⟨w.heap.size, 0, esz, rows.length⟩ rfl F (.c esz (killRows d rows)) (.cells arr e)
    (fun x hx => let ⟨a1, a2, a3, a4⟩ := hF x hx; ⟨a1, a2, a3, fun b hb => a4 b (blk_kill_has hb).2 (blk_kill_has hb).1⟩) fun ρ' hρ hd' => by
    obtain ⟨G, e1, e2, e3⟩ := hf.cell
    refine .inr ⟨_, hd', rfl, fun o => ?_, fun i r g => ?_, by unfold killRows; simp, G, e1, e2, fun i r j c g1 g2 => ?_⟩
    · simp only [World.frozen?, heap_alloc_at]; simp
    · obtain ⟨r', g', rfl⟩ := killRows_get g
      simpa using hf.row i r' g'
    · obtain ⟨r', g3, rfl⟩ := killRows_get g1
      rw [List.getElem?_map, Option.map_eq_some_iff] at g2
      obtain ⟨c', g4, rfl⟩ := g2
      obtain ⟨v, f1, f2⟩ := e3 i r' j c' g3 g4
      refine ⟨v, ?_, hf.one v (List.mem_of_getElem? f1), (f2.kill1 d).mono (fun _ h => h) (by rw [size_alloc]; omega) (fun i hi hi' => hk i hi') h.sb (fun b hb => hρ b (SV.kill1_names hb).1) hz fun _ h => h⟩
      have : arr[i * esz + j]? = some v := by
        rw [← Array.getElem?_toList, harr, List.getElem?_append_left (List.getElem?_eq_some_iff.mp f1).1]
        exact f1
      simp only [World.cell?, Loc.addr, heap_alloc_at]
      simpa using this
  refine ⟨ρ', φ', S, h1.setSlot hd ?_⟩
  have hrs : rowSize (w.alloc (.cells arr e)) w.heap.size = arr.size := by unfold rowSize; rw [heap_alloc_at]
  have hlen : arr.size = vs.length + rest.length := by rw [← Array.length_toList, harr]; simp
  have := Rep.sl (ρ := ρ') (S := S) (w := w.alloc (.cells arr e)) d 0 rows.length cap ⟨w.heap.size, 0, esz, rows.length⟩ h2 hc (by simp) (by
    show 0 + (0 + cap) * esz ≤ rowSize _ w.heap.size
    rw [hrs, hlen]
    simpa using hr)
  simpa [Loc.addr] using this

theorem killRows_con (d : Nat) (n : Nat) (vs : List Value) : killRows d (List.replicate n (vs.map conSV)) = List.replicate n (vs.map conSV) := by
  unfold killRows
  rw [List.map_replicate, map_conSV_kill1]

/-! ## make -/

def xMake (T : Nat → Option TI) (st : St) (t : Nat) (l c : SV) (d : Nat) : Option (Prop × St) := match T t, l, c with
  | some ti, .pl (.int _ n), .pl (.int _ m) => match ti.k with
    | .slice e => match T e with
      | some ei => some (d < st.n ∧ n = m ∧ 0 ≤ n ∧ n ≤ 140737488355328 ∧ (ei.bytes : Int) * n ≤ 140737488355328 ∧ ei.zero.length = ei.size ∧ 0 < ei.size ∧ ei.zero.all Value.oneCell' = true,
          ((st.kill d).setBlk d (.c ei.size (List.replicate n.toNat (ei.zero.map conSV)))).set d (.sl d 0 n.toNat))
      | none => none
    | _ => none
  | _, _, _ => none

theorem madeCells_at (z : Array Value) (k n i : Nat) (hz : 0 < z.size) (hi : i < k) (h : k = n) : (madeCells z n).toList[i]? = z.toList[i % z.size]? := by
  subst h
  unfold madeCells
  simp only [Array.toList_map, Array.toList_range, List.getElem?_map, List.getElem?_range hi, Option.map_some]
  have : i % z.size < z.size := Nat.mod_lt _ hz
  rw [getElem!_pos z _ this]
  simp [this]

theorem xMake_ok (hT : TOk P T) (h : Sim w0 M S0 ρ φ S st a w) {o : Oper} {t d : Nat} {l c : Operand} {side : Prop} {st' : St} {K : St → Prop} {Q : Exit → Act → World → Prop} (ho : o.op = .makeSlice t l c) (hd : o.dst = some d) (he : xMake T st t (st.ev l) (st.ev c) d = some (side, st')) (hs : side) (hK : K st') : o.wp P a w (Nx w0 M S0 K) Q := by
  unfold xMake at he
  split at he <;> try (cases he; done)
  rename_i ti k n k' m ht hl hc
  split at he <;> try (cases he; done)
  rename_i e hk
  split at he <;> try (cases he; done)
  rename_i ei hei
  obtain ⟨rfl, rfl⟩ := Prod.mk.inj (Option.some.inj he)
  obtain ⟨g1, rfl, g2, g3, g4, g5, g6, g7⟩ := hs
  have hrl := h.ev l
  rw [hl] at hrl
  have hrc := h.ev c
  rw [hc] at hrc
  obtain ⟨dd, u1, u2⟩ := (hT t ti ht).und
  rw [hk] at u2
  obtain rfl := tk_slice u2
  obtain ⟨i, z, z1, z2, z3, z4, z5⟩ := (hT e ei hei).parts
  have hzs : z.cells.size = ei.size := by rw [← g5, ← z3, Array.length_toList]
  have hrun := run_make (P := P) w t e i z u1 z1 z2 k k' n n g2 (Int.le_refl _) (by rw [z5]; omega) (by omega)
  refine wp_value (v := .slice (some ⟨w.heap.size, 0, none⟩) n.toNat n.toNat) (w' := w.alloc (.cells (madeCells z.cells (n.toNat * i.size)) e)) (by unfold execOp; simp [ho, hrl.pl_eq, hrc.pl_eq, hrun]) ⟨_, hK, ?_⟩
  rw [hd]
  have hsz : (madeCells z.cells (n.toNat * i.size)).toList.length = n.toNat * ei.size := by rw [Array.length_toList, size_madeCells, z4]
  have := h.bufNew (esz := ei.size) (d := d) (cap := n.toNat) (vs := (madeCells z.cells (n.toNat * i.size)).toList) (rest := []) (rows := List.replicate n.toNat (ei.zero.map conSV)) e g1 (fun _ => False) (fun x hx => hx.elim) (.plain ?_ (fun i r hr => ?_) (fun v hv => ?_) (fun i' r j cc hr hj => ?_)) (by simp) (by rw [hsz]; exact Nat.le_refl _) (madeCells z.cells (n.toNat * i.size)) (by simp)
  · rw [killRows_con, List.length_replicate] at this
    exact this
  · rw [hsz]; simp
  · rw [List.getElem?_replicate] at hr
    split at hr <;> simp at hr
    subst hr
    simp [g5]
  · obtain ⟨idx, hidx, rfl⟩ := List.getElem_of_mem hv
    have := madeCells_at z.cells (n.toNat * ei.size) (n.toNat * i.size) idx (by omega) (by rw [← hsz]; exact hidx) (by rw [z4])
    rw [List.getElem?_eq_getElem hidx, z3] at this
    exact List.all_eq_true.mp g7 _ (List.mem_of_getElem? this.symm)
  · rw [List.getElem?_replicate] at hr
    split at hr
    · rename_i hlt
      simp only [Option.some.injEq] at hr
      subst hr
      rw [List.getElem?_map, Option.map_eq_some_iff] at hj
      obtain ⟨v, hv, rfl⟩ := hj
      have hj2 : j < ei.size := by rw [← g5]; exact (List.getElem?_eq_some_iff.mp hv).1
      refine ⟨v, ?_, .per (conSV_rep S w v)⟩
      have hb : i' * ei.size + j < n.toNat * ei.size := by
        have : (i' + 1) * ei.size ≤ n.toNat * ei.size := Nat.mul_le_mul_right _ hlt
        rw [Nat.succ_mul] at this
        omega
      rw [madeCells_at z.cells (n.toNat * ei.size) (n.toNat * i.size) _ (by omega) hb (by rw [z4]), hzs, Nat.mul_add_mod_of_lt hj2, z3]
      exact hv
    · cases hr

/-! ## Sources -/

/-- Cells that may be there twice. -/
def SV.dup0 : SV → Bool
  | .ow _ _ | .bo _ | .mo _ | .ag _ | .tu _ | .ifc _ _ => false
  | _ => true
def SV.dup : SV → Bool
  | .ifc _ s => s.dup0
  | s => s.dup0
def dupRows (rows : Rows) : Bool := rows.all fun r => r.all SV.dup
theorem CRep.dup {F : Nat → Prop} {v : Value} {c : SV} (h : CRep ρ S w v c F) (hc : c.dup = true) : Rep ρ S w v c := by
  rcases h with h | h
  · exact h
  · cases h with
    | per h => exact .per h
    | ifc t h => cases h with
      | per h => exact .ifc t (.per h)
      | _ => cases hc
    | _ => cases hc
theorem dupRows_get {rows : Rows} (h : dupRows rows = true) {i : Nat} {r : List SV} {j : Nat} {c : SV} (h1 : rows[i]? = some r) (h2 : r[j]? = some c) : c.dup = true := by
  simp only [dupRows, List.all_eq_true] at h
  exact h r (List.mem_of_getElem? h1) c (List.mem_of_getElem? h2)

theorem src_cells {blk off esz : Nat} {rows : Rows} {F : Nat → Prop} (hlen : ∀ (i : Nat) (r : List SV), rows[i]? = some r → r.length = esz)
    (hcell : ∃ G : Nat → Nat → Nat → Prop, (∀ i j x, G i j x → F x) ∧ (∀ i j i' j' x, G i j x → G i' j' x → i = i' ∧ j = j') ∧ ∀ (i : Nat) (r : List SV) (j : Nat) (c : SV), rows[i]? = some r → r[j]? = some c → ∃ v, w.cell? ⟨blk, off + i * esz + j, none⟩ = some v ∧ v.oneCell' = true ∧ CRep ρ S w v c (G i j)) :
    ∃ vs, Flat ρ S w esz vs rows F ∧ ∀ (m : Nat) (w' : World), m ≤ rows.length → w'.heap = w.heap → (loadCells ⟨blk, off, none⟩ (m * esz)).run P w' = .ok (vs.take (m * esz)).toArray w' := by
  obtain ⟨G, G1, G2, hcell⟩ := hcell
  let f : Nat → Value := fun q => (w.cell? ⟨blk, off + q, none⟩).getD undef
  have hq : ∀ q, q < rows.length * esz → ∃ v, w.cell? ⟨blk, off + q, none⟩ = some v ∧ v.oneCell' = true := fun q hq => by
    have he : 0 < esz := by
      rcases Nat.eq_zero_or_pos esz with h | h
      · rw [h] at hq; simp at hq
      · exact h
    have hi : q / esz < rows.length := (Nat.div_lt_iff_lt_mul he).mpr hq
    have hj : q % esz < esz := Nat.mod_lt _ he
    have hr := getD_some hi
    have hl := hlen _ _ hr
    obtain ⟨v, h1, h2, _⟩ := hcell _ _ (q % esz) _ hr (List.getElem?_eq_getElem (by rw [hl]; exact hj))
    refine ⟨v, ?_, h2⟩
    rw [← h1, Nat.add_assoc]
    congr 2
    have := Nat.div_add_mod q esz
    rw [Nat.mul_comm] at this
    omega
  refine ⟨(List.range (rows.length * esz)).map f, ⟨by simp, hlen, fun v hv => ?_, G, G1, G2, fun i r j c hr hj => ?_⟩, fun m w' hm hw' => ?_⟩
  · obtain ⟨q, hq', rfl⟩ := List.mem_map.mp hv
    obtain ⟨v, h1, h2⟩ := hq q (by simpa using hq')
    show ((w.cell? ⟨blk, off + q, none⟩).getD undef).oneCell' = true
    rw [h1]
    exact h2
  · obtain ⟨v, h1, _, h3⟩ := hcell i r j c hr hj
    refine ⟨v, ?_, h3⟩
    have hi : i < rows.length := (List.getElem?_eq_some_iff.mp hr).1
    have hj' : j < esz := by rw [← hlen i r hr]; exact (List.getElem?_eq_some_iff.mp hj).1
    have hb : i * esz + j < rows.length * esz := by
      have : (i + 1) * esz ≤ rows.length * esz := Nat.mul_le_mul_right _ hi
      rw [Nat.succ_mul] at this
      omega
    rw [List.getElem?_map, List.getElem?_range hb]
    show some ((w.cell? ⟨blk, off + (i * esz + j), none⟩).getD undef) = some v
    rw [← Nat.add_assoc, h1]
    rfl
  · have hle : m * esz ≤ rows.length * esz := Nat.mul_le_mul_right _ hm
    rw [← List.map_take, List.take_range, Nat.min_eq_left hle]
    refine run_loadCells w' ⟨blk, off, none⟩ (m * esz) f fun j hj => ?_
    obtain ⟨v, h1, _⟩ := hq j (by omega)
    rw [Addr.add_lit]
    show w'.cell? ⟨blk, off + j, none⟩ = some ((w.cell? ⟨blk, off + j, none⟩).getD undef)
    rw [h1, cell_congr (w := w) (by rw [hw'])]
    exact h1

/-- Rows of a block, from row i on. -/
theorem CellsAt.src {F : Nat → Prop} {l : Loc} {rows : Rows} (h : CellsAt ρ S w l rows F) (i n : Nat) (hi : i + n ≤ rows.length) :
    ∃ vs, Flat ρ S w l.esz vs ((rows.drop i).take n) F ∧ ∀ (m : Nat) (w' : World), m ≤ n → w'.heap = w.heap → (loadCells (l.addr i 0) (m * l.esz)).run P w' = .ok (vs.take (m * l.esz)).toArray w' := by
  have hn : ((rows.drop i).take n).length = n := by rw [List.length_take, List.length_drop]; omega
  have hget : ∀ (i' : Nat) (r : List SV), ((rows.drop i).take n)[i']? = some r → rows[i + i']? = some r := fun i' r g1 => by
    rw [List.getElem?_take] at g1
    split at g1
    · rw [List.getElem?_drop] at g1; exact g1
    · cases g1
  obtain ⟨G, e1, e2, e3⟩ := h.cell
  obtain ⟨vs, h1, h2⟩ := src_cells (P := P) (ρ := ρ) (S := S) (w := w) (blk := l.blk) (off := l.base + i * l.esz + 0) (esz := l.esz) (rows := (rows.drop i).take n) (F := F) (fun i' r g => h.len _ r (hget i' r g))
    ⟨fun i' j => G (i + i') j, fun i' j x g => e1 _ _ x g, fun p q p' q' x g1 g2 => by have := e2 _ _ _ _ x g1 g2; omega, fun i' r j c g1 g2 => by
      obtain ⟨v, f1, f2, f3⟩ := e3 _ r j c (hget i' r g1) g2
      refine ⟨v, ?_, f2, f3⟩
      rw [← f1]
      congr 2
      show l.base + i * l.esz + 0 + i' * l.esz + j = l.base + (i + i') * l.esz + j
      rw [Nat.add_mul]; omega⟩
  rw [hn] at h2
  exact ⟨vs, h1, h2⟩

theorem Flat.dup {esz : Nat} {vs : List Value} {rows : Rows} {F F' : Nat → Prop} (h : Flat ρ S w esz vs rows F) (hd : dupRows rows = true) : Flat ρ S w esz vs rows F' := by
  obtain ⟨G, _, _, e3⟩ := h.cell
  refine .plain h.len h.row h.one fun i r j c g1 g2 => ?_
  obtain ⟨v, f1, f2⟩ := e3 i r j c g1 g2
  exact ⟨v, f1, f2.dup (dupRows_get hd g1 g2)⟩

/-- All rows have so many cells. -/
theorem flat_nil (k : Nat) {F : Nat → Prop} : Flat ρ S w k [] [] F := .plain (by simp) (fun i r h => by simp at h) (fun v h => by simp at h) (fun i r j c h => by simp at h)

/-- The rows that an operand brings, and what must hold of them. -/
def srcRows (T : Nat → Option TI) (st : St) (k : Nat) (t : Nat) (x : SV) : Option (Prop × Rows) := match T t with
  | some ti => match ti.k, x with
    | .slice _, .pd rows => some (RowsLen rows k, rows)
    | .slice _, .nl => some (True, [])
    | .slice _, .sl b i n => match st.blk b with
      | some (.c k' rows) => some (k' = k ∧ i + n ≤ rows.length ∧ dupRows ((rows.drop i).take n) = true, (rows.drop i).take n)
      | _ => none
    | .slice _, .sa b i o k' n => match st.blk b with
      | some (.c kk rows) => some (k' = k ∧ i < rows.length ∧ o + n * k' ≤ kk ∧ dupRows (chunks ((rows.getD i []).drop o) k' n) = true, chunks ((rows.getD i []).drop o) k' n)
      | _ => none
    | .str, .pl (.string s) => some (k = 1, byteRows s)
    | _, _ => none
  | none => none

/-- What the machine makes of such an operand. -/
structure Src (P : Program) (ρ : Nat → Option Loc) (S : Nat → Prop) (w : World) (k t : Nat) (v : Value) (rows : Rows) (vs : List Value) (F : Nat → Prop) : Prop where
  flat : Flat ρ S w k vs rows F
  first : ∀ (m : Nat) (w' : World), m ≤ rows.length → w'.heap = w.heap → (Builtin.firstCells k m v).run P w' = .ok (vs.take (m * k)).toArray w'
  lenOf : ∀ w' : World, (Builtin.lenOf v).run P w' = .ok rows.length w'
  und : ∃ d, P.underlying t = some d ∧ ∀ k, d ≠ .int k

theorem Flat.take {esz : Nat} {vs : List Value} {rows : Rows} {F : Nat → Prop} (h : Flat ρ S w esz vs rows F) (m : Nat) (hm : m ≤ rows.length) : Flat ρ S w esz (vs.take (m * esz)) (rows.take m) F := by
  have hle : m * esz ≤ rows.length * esz := Nat.mul_le_mul_right _ hm
  obtain ⟨G, e1, e2, e3⟩ := h.cell
  have hg : ∀ (i : Nat) (r : List SV), (rows.take m)[i]? = some r → i < m ∧ rows[i]? = some r := fun i r g => by
    rw [List.getElem?_take] at g
    split at g
    · exact ⟨by assumption, g⟩
    · cases g
  refine ⟨?_, fun i r g => h.row i r (hg i r g).2, fun v hv => h.one v (List.mem_of_mem_take hv), G, e1, e2, fun i r j c g1 g2 => ?_⟩
  · rw [List.length_take, List.length_take, h.len, Nat.min_eq_left hle, Nat.min_eq_left hm]
  · obtain ⟨g3, g4⟩ := hg i r g1
    obtain ⟨v, f1, f2⟩ := e3 i r j c g4 g2
    refine ⟨v, ?_, f2⟩
    have hj : j < esz := by rw [← h.row i r g4]; exact (List.getElem?_eq_some_iff.mp g2).1
    have : (i + 1) * esz ≤ m * esz := Nat.mul_le_mul_right _ g3
    rw [Nat.succ_mul] at this
    rw [List.getElem?_take, if_pos (by omega)]
    exact f1

theorem src_ok (hT : TOk P T) (h : Sim w0 M S0 ρ φ S st a w) {k t : Nat} {v : Value} {x : SV} {rows : Rows} {side : Prop} {F : Nat → Prop} (hr : Rep ρ S w v x) (he : srcRows T st k t x = some (side, rows)) (hs : side) : ∃ vs, Src P ρ S w k t v rows vs F := by
  unfold srcRows at he
  split at he <;> try (cases he; done)
  rename_i ti ht
  obtain ⟨d, u1, u2⟩ := (hT t ti ht).und
  have hnil : ∀ (x : Option Addr) (c : Nat) (m : Nat) (w' : World), m ≤ ([] : Rows).length → (Builtin.firstCells k m (.slice x 0 c)).run P w' = .ok (([] : List Value).take (m * k)).toArray w' := fun x c m w' hm => by
    have hm : m = 0 := by simpa using hm
    subst hm
    cases x <;> simp [Builtin.firstCells, loadCells, loadCellsFrom]
  split at he
  · rename_i e rows' hk
    obtain ⟨rfl, rfl⟩ := Prod.mk.inj (Option.some.inj he)
    rw [hk] at u2; obtain rfl := tk_slice u2
    have hu : ∃ d, P.underlying t = some d ∧ ∀ k, d ≠ .int k := ⟨_, u1, fun k h => by cases h⟩
    cases hr with
    | per hr =>
      cases hr with
      | pd0 x c => exact ⟨[], flat_nil k, fun m w' hm _ => hnil x c m w' hm, fun w' => by simp [Builtin.lenOf], hu⟩
      | pd blk off esz cap _ f hS hc hl hm hrep =>
        by_cases hn : rows' = []
        · subst hn
          exact ⟨[], flat_nil k, fun m w' hm _ => hnil _ _ m w' hm, fun w' => by simp [Builtin.lenOf], hu⟩
        · have hpos : 0 < rows'.length := List.length_pos_iff.mpr hn
          have hesz : esz = k := (hl 0 _ (getD_some hpos)).symm.trans (hs.at (getD_some hpos))
          subst hesz
          obtain ⟨vs, g1, g2⟩ := src_cells (P := P) (ρ := ρ) (S := S) (w := w) (blk := blk) (off := off) (F := F) hl ⟨fun _ _ _ => False, fun _ _ _ g => g.elim, fun _ _ _ _ _ g => g.elim, fun i r j c h1 h2 =>
            ⟨f i j, (hm i r j c h1 h2).1, (hm i r j c h1 h2).2, .inl (.per (hrep i r j c h1 h2))⟩⟩
          exact ⟨vs, g1, fun m w' hm hw' => g2 m w' hm hw', fun w' => by simp [Builtin.lenOf], hu⟩
  · rename_i e hk
    obtain ⟨rfl, rfl⟩ := Prod.mk.inj (Option.some.inj he)
    rw [hk] at u2; obtain rfl := tk_slice u2
    obtain rfl := hr.nl_eq
    exact ⟨[], flat_nil k, fun m w' hm _ => hnil none 0 m w' hm, fun w' => by simp [Builtin.lenOf], ⟨_, u1, fun k h => by cases h⟩⟩
  · rename_i e b i n hk
    split at he <;> try (cases he; done)
    rename_i k' rows' hb
    obtain ⟨rfl, rfl⟩ := Prod.mk.inj (Option.some.inj he)
    obtain ⟨s1, s2, s3⟩ := hs
    rw [hk] at u2; obtain rfl := tk_slice u2
    have hu : ∃ d, P.underlying t = some d ∧ ∀ k, d ≠ .int k := ⟨_, u1, fun k h => by cases h⟩
    have hlen : ((rows'.drop i).take n).length = n := by rw [List.length_take, List.length_drop]; omega
    cases hr with
    | per hr => cases hr
    | sl0 x _ _ =>
      rw [List.take_zero]
      exact ⟨[], flat_nil k, fun m w' hm _ => hnil x 0 m w' hm, fun w' => by simp [Builtin.lenOf], hu⟩
    | sl _ _ _ cap l hl hc hi hz =>
      obtain ⟨hek, hok⟩ := h.cellsAt hb hl
      obtain ⟨vs, g1, g2⟩ := hok.src (P := P) i n s2
      rw [hek, s1] at g1 g2
      exact ⟨vs, g1.dup s3, fun m w' hm hw' => g2 m w' (by rw [hlen] at hm; exact hm) hw', fun w' => by simp [Builtin.lenOf, hlen], hu⟩
  · rename_i e b i o k' n hk
    split at he <;> try (cases he; done)
    rename_i kk rows' hb
    obtain ⟨rfl, rfl⟩ := Prod.mk.inj (Option.some.inj he)
    obtain ⟨s1, s2, s3, s4⟩ := hs
    subst s1
    rw [hk] at u2; obtain rfl := tk_slice u2
    have hu : ∃ d, P.underlying t = some d ∧ ∀ k, d ≠ .int k := ⟨_, u1, fun k h => by cases h⟩
    cases hr with
    | per hr => cases hr
    | sa _ _ _ _ _ cap l hl hc hi ho =>
      obtain ⟨hek, hok⟩ := h.cellsAt hb hl
      have hri := getD_some s2
      have hlr := hok.len i _ hri
      generalize rows'.getD i [] = row at hri hlr s4 ⊢
      obtain ⟨G, e1, e2, e3⟩ := hok.cell
      have hcell : ∀ (p j : Nat) (c : SV), p < n → (((row.drop o).drop (p * k')).take k')[j]? = some c → j < k' ∧ row[o + p * k' + j]? = some c := fun p j c q1 q2 => by
        rw [List.getElem?_take] at q2
        split at q2
        · rename_i hj
          rw [List.getElem?_drop, List.getElem?_drop] at q2
          exact ⟨hj, by rw [← q2]; congr 1; omega⟩
        · cases q2
      obtain ⟨vs, g1, g2⟩ := src_cells (P := P) (ρ := ρ) (S := S) (w := w) (blk := l.blk) (off := l.base + i * l.esz + o) (esz := k') (rows := chunks (row.drop o) k' n) (F := F) (fun p r hr => by
          obtain ⟨q1, rfl⟩ := chunks_get hr
          have : p * k' + k' ≤ n * k' := by rw [← Nat.succ_mul]; exact Nat.mul_le_mul_right _ q1
          simp only [List.length_take, List.length_drop]
          omega)
        ⟨fun _ _ _ => False, fun _ _ _ g => g.elim, fun _ _ _ _ _ g => g.elim, fun p r j c hr hj => by
          have hdup := dupRows_get s4 hr hj
          obtain ⟨q1, rfl⟩ := chunks_get hr
          obtain ⟨q2, q3⟩ := hcell p j c q1 hj
          obtain ⟨v, f1, f2, f3⟩ := e3 i _ _ c hri q3
          refine ⟨v, ?_, f2, .inl (f3.dup hdup)⟩
          rw [← f1]
          congr 2
          show l.base + i * l.esz + o + p * k' + j = l.base + i * l.esz + (o + p * k' + j)
          omega⟩
      rw [chunks_length] at g2
      exact ⟨vs, g1, fun m w' hm hw' => g2 m w' (by rw [chunks_length] at hm; exact hm) hw', fun w' => by simp [Builtin.lenOf, chunks_length], hu⟩
  · rename_i s hk
    obtain ⟨rfl, rfl⟩ := Prod.mk.inj (Option.some.inj he)
    subst hs
    rw [hk] at u2; obtain rfl := tk_str u2
    obtain rfl := hr.pl_eq
    have e1 : (byteRows s).length = s.size := by simp [byteRows, encI, bytesOf]
    refine ⟨s.data.toList.map fun b => .int .u8 b.toNat, .plain (by simp [e1]) (fun i r hr => ?_) (fun v hv => ?_) (fun i r j c hr hj => ?_), fun m w' hm _ => ?_, fun w' => by simp [Builtin.lenOf, e1], ⟨_, u1, fun k h => by cases h⟩⟩
    · unfold byteRows encI at hr
      rw [List.getElem?_map, Option.map_eq_some_iff] at hr
      obtain ⟨b, _, rfl⟩ := hr
      rfl
    · obtain ⟨b, _, rfl⟩ := List.mem_map.mp hv
      rfl
    · unfold byteRows encI bytesOf at hr
      rw [List.getElem?_map, Option.map_eq_some_iff] at hr
      obtain ⟨b, hb, rfl⟩ := hr
      rw [List.getElem?_map, Option.map_eq_some_iff] at hb
      obtain ⟨b, hb, rfl⟩ := hb
      cases j with
      | zero =>
        simp at hj
        subst hj
        exact ⟨_, by rw [List.getElem?_map]; simp at hb ⊢; exact ⟨b, hb, rfl⟩, .per (.pl _)⟩
      | succ j => simp at hj
    · simp only [Builtin.firstCells, Sem.run_pure, Nat.mul_one]
      congr 1
      apply Array.ext'
      simp
  · cases he
end Go.Vcg
