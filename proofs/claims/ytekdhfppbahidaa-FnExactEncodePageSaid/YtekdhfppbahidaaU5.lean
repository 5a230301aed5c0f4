/- Types as a table; the operations that only compute or read. -/
import Derived.Test.YtekdhfppbahidaaU4
import Derived.Laws.Cells
namespace Go.Vcg

/-! ## Types -/

inductive TK where
  | int (k : IntKind) | bool | str | slice (e : Nat) | arr (n e : Nat) | struct (fs : List (Nat × Nat)) | ptr (e : Nat) | map (k e : Nat) | iface | other

def tkOf : TypeDesc → TK
  | .int k => .int k
  | .bool => .bool
  | .string => .str
  | .slice e => .slice e
  | .array n e => .arr n e
  | .struct fs => .struct (fs.toList.map fun f => (f.offset, f.type))
  | .pointer e => .ptr e
  | .map k e => .map k e
  | .interface _ => .iface
  | _ => .other

structure TI where
  k : TK
  size : Nat
  bytes : Nat
  zero : List Value

structure TI.Ok (P : Program) (t : Nat) (ti : TI) : Prop where
  info : (P.info? t).map (fun i => (i.zero.map fun v => v.cells.toList, i.size, i.bytes)) = some (some ti.zero, ti.size, ti.bytes)
  desc : (P.underlying t).map tkOf = some ti.k

def TOk (P : Program) (T : Nat → Option TI) : Prop := ∀ t ti, T t = some ti → TI.Ok P t ti

def TK.agg : TK → Bool
  | .arr _ _ => true
  | .struct _ => true
  | _ => false

section
variable {P : Program} {t : Nat} {ti : TI} (w : World)
theorem TI.Ok.parts (h : TI.Ok P t ti) : ∃ i z, P.info? t = some i ∧ i.zero = some z ∧ z.cells.toList = ti.zero ∧ i.size = ti.size ∧ i.bytes = ti.bytes := by
  obtain ⟨i, h1, h2⟩ := Option.map_eq_some_iff.mp h.info
  simp only [Prod.mk.injEq, Option.map_eq_some_iff] at h2
  obtain ⟨⟨z, h3, h4⟩, h5, h6⟩ := h2
  exact ⟨i, z, h1, h3, h4, h5, h6⟩
theorem TI.Ok.und (h : TI.Ok P t ti) : ∃ d, P.underlying t = some d ∧ tkOf d = ti.k := Option.map_eq_some_iff.mp h.desc
theorem TI.Ok.run_info (h : TI.Ok P t ti) : ∃ i z, (typeInfo t).run P w = .ok i w ∧ i.zero = some z ∧ z.cells.toList = ti.zero ∧ i.size = ti.size ∧ i.bytes = ti.bytes := by
  obtain ⟨i, z, h1, h2⟩ := h.parts
  exact ⟨i, z, by simp [typeInfo, h1], h2⟩
theorem TI.Ok.run_size (h : TI.Ok P t ti) : (sizeOf t).run P w = .ok ti.size w := by
  obtain ⟨i, z, h1, _, _, h4, _⟩ := h.run_info w
  simp [sizeOf, h1, h4]
theorem TI.Ok.run_zero (h : TI.Ok P t ti) : ∃ z, (∀ w, (zeroValue t).run P w = .ok z w) ∧ z.cells.toList = ti.zero := by
  obtain ⟨i, z, h1, h2, h3, _⟩ := h.parts
  exact ⟨z, fun w => by simp [zeroValue, typeInfo, h1, h2], h3⟩
theorem TI.Ok.run_und (h : TI.Ok P t ti) : ∃ d, (∀ w, (underlying t).run P w = .ok d w) ∧ tkOf d = ti.k := by
  obtain ⟨d, h1, h2⟩ := h.und
  exact ⟨d, fun w => run_underlying h1 w, h2⟩
theorem TI.Ok.run_agg (h : TI.Ok P t ti) : (isAgg t).run P w = .ok ti.k.agg w := by
  obtain ⟨d, h1, h2⟩ := h.run_und
  rw [← h2]
  simp only [isAgg, Sem.run_bind, h1, Result.andThen_ok]
  cases d <;> rfl
theorem tk_slice {d : TypeDesc} {e : Nat} (h : tkOf d = .slice e) : d = .slice e := by cases d <;> simp [tkOf] at h <;> simp [h]
theorem tk_arr {d : TypeDesc} {n e : Nat} (h : tkOf d = .arr n e) : d = .array n e := by cases d <;> simp [tkOf] at h <;> simp [h]
theorem tk_int {d : TypeDesc} {k : IntKind} (h : tkOf d = .int k) : d = .int k := by cases d <;> simp [tkOf] at h <;> simp [h]
theorem tk_str {d : TypeDesc} (h : tkOf d = .str) : d = .string := by cases d <;> simp [tkOf] at h ⊢
theorem tk_struct {d : TypeDesc} {fs : List (Nat × Nat)} (h : tkOf d = .struct fs) : ∃ a : Array Field, d = .struct a ∧ a.toList.map (fun f => (f.offset, f.type)) = fs := by
  cases d <;> simp [tkOf] at h
  exact ⟨_, rfl, h⟩
end

/-! ## Operands -/

def conSV : Value → SV
  | .slice none 0 0 => .nl
  | v => .pl v
theorem conSV_rep (S : Nat → Prop) (w : World) (v : Value) : RepP S w v (conSV v) := by
  unfold conSV
  split
  · exact .nl
  · exact .pl v

def St.ev (st : St) : Operand → SV
  | .tmp t => st.get t
  | .const v => conSV v
  | .global g => .pl (.pointer (some ⟨g, 0, none⟩))
  | .func f => .pl (.func (.func f) #[] #[])

variable {w0 : World} {M : Perm} {S0 : Nat → Prop} {ρ : Nat → Option Loc} {φ : Nat → Nat → Prop} {S : Nat → Prop} {st : St} {a : Act} {w : World} {P : Program} {T : Nat → Option TI}

theorem Sim.ev (h : Sim w0 M S0 ρ φ S st a w) (x : Operand) : Rep ρ S w (a.eval x) (st.ev x) := by
  cases x with
  | tmp t => exact h.slot t
  | const v => exact .per (conSV_rep S w v)
  | global g => exact .per (.pl _)
  | func f => exact .per (.pl _)

theorem Rep.ag_inv {v : Value} {cs : List SV} (h : Rep ρ S w v (.ag cs)) : ∃ vs : List Value, v = .agg vs.toArray ∧ vs.length = cs.length ∧ ∀ (i : Nat) (u : Value) (c : SV), vs[i]? = some u → cs[i]? = some c → Rep ρ S w u c := by
  cases h with
  | ag vs _ hl h => exact ⟨vs, rfl, hl, h⟩
  | per h => cases h with
    | ag vs _ hl h => exact ⟨vs, rfl, hl, fun i u c h1 h2 => .per (h i u c h1 h2)⟩
theorem Rep.tu_inv {v : Value} {cs : List SV} (h : Rep ρ S w v (.tu cs)) : ∃ vs : List Value, v = .tuple vs.toArray ∧ vs.length = cs.length ∧ ∀ (i : Nat) (u : Value) (c : SV), vs[i]? = some u → cs[i]? = some c → Rep ρ S w u c := by
  cases h with
  | tu vs _ hl h => exact ⟨vs, rfl, hl, h⟩
  | per h => cases h with
    | tu vs _ hl h => exact ⟨vs, rfl, hl, fun i u c h1 h2 => .per (h i u c h1 h2)⟩

/-- What is seen of a cell by one who loads it. -/
def SV.vis0 : SV → SV
  | .ow _ _ => .dead
  | .bo _ => .dead
  | .mo _ => .dead
  | .ag _ => .dead
  | .tu _ => .dead
  | .ifc _ _ => .dead
  | s => s
def SV.vis : SV → SV
  | .ifc t s => .ifc t s.vis0
  | s => s.vis0
theorem Rep.vis0 {v : Value} {c : SV} (h : Rep ρ S w v c) : Rep ρ S w v c.vis0 := by
  cases c <;> first | exact h | exact .dead v
theorem Rep.vis {v : Value} {c : SV} (h : Rep ρ S w v c) : Rep ρ S w v c.vis := by
  cases c with
  | ifc t s => cases h with
    | ifc _ h => exact .ifc t h.vis0
    | per h => cases h with
      | ifc _ h => exact .ifc t (Rep.vis0 (.per h))
  | _ => exact h.vis0
theorem RepO.vis0 {v : Value} {c : SV} {F : Nat → Prop} (h : RepO S w v c F) : Rep ρ S w v c.vis0 := by
  cases h with
  | per h => exact Rep.vis0 (.per h)
  | _ => exact .dead _
theorem CRep.vis {v : Value} {c : SV} {F : Nat → Prop} (h : CRep ρ S w v c F) : Rep ρ S w v c.vis := by
  rcases h with h | h
  · exact h.vis
  · cases h with
    | per h => exact Rep.vis (.per h)
    | ifc t h => exact .ifc t h.vis0
    | _ => exact .dead _

theorem getD_some {rows : Rows} {i : Nat} (h : i < rows.length) : rows[i]? = some (rows.getD i []) := getD_some' h
theorem Sim.cellsAt (h : Sim w0 M S0 ρ φ S st a w) {b k : Nat} {l : Loc} {rows : Rows} (hb : st.blk b = some (.c k rows)) (hl : ρ b = some l) : l.esz = k ∧ CellsAt ρ S w l rows (φ b) := by
  rcases h.heap.blk b _ hb with ⟨h1, _⟩ | ⟨l', h1, h2, h3⟩
  · rw [hl] at h1; cases h1
  · rw [hl] at h1; obtain rfl := Option.some.inj h1; exact ⟨h2, h3⟩
theorem CellsAt.at {F : Nat → Prop} {l : Loc} {rows : Rows} (h : CellsAt ρ S w l rows F) {i : Nat} {r : List SV} {j : Nat} {c : SV} (h1 : rows[i]? = some r) (h2 : r[j]? = some c) : ∃ v, w.cell? (l.addr i j) = some v ∧ v.oneCell' = true ∧ Rep ρ S w v c.vis := by
  obtain ⟨G, _, _, e3⟩ := h.cell
  obtain ⟨v, f1, f2, f3⟩ := e3 i r j c h1 h2
  exact ⟨v, f1, f2, f3.vis⟩

/-- The row that an address points into, and where in it. -/
def St.at (st : St) : SV → Option (Prop × List SV × Nat)
  | .pt b i off => match st.blk b with
    | some (.c _ rows) => some (i < rows.length, rows.getD i [], off)
    | _ => none
  | .bp row off => some (True, row, off)
  | _ => none

/-- What stands at an address: a cell, or several. -/
theorem Sim.at (h : Sim w0 M S0 ρ φ S st a w) {v : Value} {s : SV} (hr : Rep ρ S w v s) {side : Prop} {row : List SV} {off : Nat} (he : st.at s = some (side, row, off)) (hs : side) :
    ∃ b o, v = .pointer (some ⟨b, o, none⟩) ∧ ∀ (j : Nat) (c : SV), row[off + j]? = some c → ∃ u, w.cell? ⟨b, o + j, none⟩ = some u ∧ Rep ρ S w u c.vis := by
  unfold St.at at he
  split at he
  · rename_i b i o
    split at he <;> try (cases he; done)
    rename_i k rows hb
    simp only [Option.some.injEq, Prod.mk.injEq] at he
    obtain ⟨rfl, rfl, rfl⟩ := he
    cases hr with
    | per h => cases h
    | pt _ _ _ l hl =>
      refine ⟨l.blk, l.base + i * l.esz + o, rfl, fun j c hc => ?_⟩
      obtain ⟨u, h1, _, h3⟩ := (h.cellsAt hb hl).2.at (getD_some hs) hc
      exact ⟨u, by rw [← h1]; unfold Loc.addr; rw [Nat.add_assoc _ o j], h3⟩
  · rename_i row' o
    simp only [Option.some.injEq, Prod.mk.injEq] at he
    obtain ⟨_, rfl, rfl⟩ := he
    cases hr with
    | per h => cases h with
      | bp blk b0 _ _ f hS hm hrep =>
        exact ⟨blk, b0 + o, rfl, fun j c hc => ⟨f (o + j), by rw [Nat.add_assoc]; exact (hm _ c hc).1, Rep.vis (.per (hrep _ c hc))⟩⟩
  · cases he

/-- A part of a row, as a value. -/
def cut (agg : Bool) (row : List SV) (off size : Nat) : SV := if agg then .ag ((row.drop off).take size) else row.getD off .dead
def visL (row : List SV) : List SV := row.map SV.vis

/-- load -/
def pLoad (T : Nat → Option TI) (st : St) (t : Nat) (x : SV) : Option (Prop × SV) := match T t, st.at x with
  | some ti, some (side, row, off) => some (side ∧ off + ti.size ≤ row.length ∧ (ti.k.agg = false → ti.size = 1), cut ti.k.agg (visL row) off ti.size)
  | _, _ => none
theorem pLoad_any (hT : TOk P T) (h : Sim w0 M S0 ρ φ S st a w) {t : Nat} {v : Value} {s sv : SV} {side : Prop} (hr : Rep ρ S w v s) (he : pLoad T st t s = some (side, sv)) (hs : side) :
    ∃ b o u, v = .pointer (some ⟨b, o, none⟩) ∧ (∀ w', w'.heap[b]? = w.heap[b]? → (Instr.loadAt t v).run P w' = .ok u w') ∧ Rep ρ S w u sv := by
  unfold pLoad at he
  split at he
  · rename_i ti sd row off ht hat
    simp only [Option.some.injEq, Prod.mk.injEq] at he
    obtain ⟨rfl, rfl⟩ := he
    obtain ⟨hs1, hs2, hs3⟩ := hs
    obtain ⟨b, o, rfl, hc⟩ := h.at hr hat hs1
    have hok := hT t ti ht
    replace hc : ∀ (j : Nat) (c : SV), (visL row)[off + j]? = some c → ∃ u, w.cell? ⟨b, o + j, none⟩ = some u ∧ Rep ρ S w u c := fun j c g => by
      unfold visL at g
      rw [List.getElem?_map, Option.map_eq_some_iff] at g
      obtain ⟨c', g, rfl⟩ := g
      exact hc j c' g
    have hln : (visL row).length = row.length := by simp [visL]
    rw [← hln] at hs2
    generalize visL row = row at hc hs2 ⊢
    unfold cut
    by_cases hg : ti.k.agg = true
    · rw [if_pos hg]
      have hf : ∀ j, j < ti.size → ∃ u, w.cell? ⟨b, o + j, none⟩ = some u ∧ Rep ρ S w u (row.getD (off + j) .dead) := fun j hj => by
        have hlt : off + j < row.length := by omega
        have := hc j (row.getD (off + j) .dead) (by simp [List.getElem?_eq_getElem hlt])
        exact this
      let f : Nat → Value := fun j => (w.cell? ⟨b, o + j, none⟩).getD undef
      have hf2 : ∀ j, j < ti.size → w.cell? (Addr.add ⟨b, o, none⟩ j) = some (f j) := fun j hj => by
        obtain ⟨u, h1, _⟩ := hf j hj
        rw [Addr.add_lit]
        show _ = some ((w.cell? ⟨b, o + j, none⟩).getD undef)
        rw [h1]; rfl
      refine ⟨b, o, .agg ((List.range ti.size).map f).toArray, rfl, fun w' hw' => ?_, .ag _ _ ?_ fun i u c h1 h2 => ?_⟩
      · have hf3 : ∀ j, j < ti.size → w'.cell? (Addr.add ⟨b, o, none⟩ j) = some (f j) := fun j hj => by
          rw [← hf2 j hj]
          exact cell_congr (by rw [Addr.add_lit]; exact hw')
        simp [Instr.loadAt, Instr.sureAddr, loadVar, hok.run_agg, hg, hok.run_size, run_loadCells w' ⟨b, o, none⟩ ti.size f hf3]
      · simp; omega
      · rw [List.getElem?_map, Option.map_eq_some_iff] at h1
        obtain ⟨j, h1, rfl⟩ := h1
        have hi : i < ti.size := by
          have := (List.getElem?_eq_some_iff.mp h1).1
          simpa using this
        obtain rfl : i = j := by simpa [hi] using h1
        rw [List.getElem?_take, if_pos hi, List.getElem?_drop] at h2
        obtain ⟨u, h3, h4⟩ := hc i c h2
        show Rep ρ S w ((w.cell? ⟨b, o + i, none⟩).getD undef) c
        rw [h3]; exact h4
    · have hg' : ti.k.agg = false := by simpa using hg
      rw [if_neg hg]
      have hz := hs3 hg'
      have hlt : off < row.length := by omega
      obtain ⟨u, h1, h2⟩ := hc 0 (row.getD off .dead) (by simp [List.getElem?_eq_getElem hlt])
      refine ⟨b, o, u, rfl, fun w' hw' => ?_, h2⟩
      simp only [Nat.add_zero] at h1
      have h1' : w'.cell? ⟨b, o, none⟩ = some u := by rw [← h1]; exact cell_congr hw'
      simp [Instr.loadAt, Instr.sureAddr, loadVar, hok.run_agg, hg', h1']
  · cases he

theorem pLoad_ok (hT : TOk P T) (h : Sim w0 M S0 ρ φ S st a w) {t : Nat} {v : Value} {s sv : SV} {side : Prop} (hr : Rep ρ S w v s) (he : pLoad T st t s = some (side, sv)) (hs : side) :
    ∃ u, (Instr.loadAt t v).run P w = .ok u w ∧ Rep ρ S w u sv := by
  obtain ⟨b, o, u, _, h1, h2⟩ := pLoad_any (P := P) hT h hr he hs
  exact ⟨u, h1 w rfl, h2⟩

/-- fieldAddr -/
def SV.shift : SV → Nat → Option SV
  | .pt b i off, n => some (.pt b i (off + n))
  | .bp row off, n => some (.bp row (off + n))
  | _, _ => none
theorem Rep.shift {v : Value} {s s' : SV} (hr : Rep ρ S w v s) {n : Nat} (he : s.shift n = some s') : ∃ b o, v = .pointer (some ⟨b, o, none⟩) ∧ Rep ρ S w (.pointer (some ⟨b, o + n, none⟩)) s' := by
  cases s with
  | pt b i o =>
    simp only [SV.shift, Option.some.injEq] at he; subst he
    cases hr with
    | per h => cases h
    | pt _ _ _ l hl => exact ⟨_, _, rfl, by have := Rep.pt (S := S) (w := w) b i (o + n) l hl; rw [show l.addr i (o + n) = ⟨l.blk, l.base + i * l.esz + o + n, none⟩ from by unfold Loc.addr; rw [Nat.add_assoc _ o n]] at this; exact this⟩
  | bp row o =>
    simp only [SV.shift, Option.some.injEq] at he; subst he
    cases hr with
    | per h => cases h with
      | bp blk b0 _ _ f hS hm hrep => exact ⟨_, _, rfl, by rw [Nat.add_assoc b0 o n]; exact .per (.bp blk b0 (o + n) row f hS hm hrep)⟩
  | _ => simp [SV.shift] at he
def pFieldAddr (T : Nat → Option TI) (t : Nat) (x : SV) (f : Nat) : Option (Prop × SV) := match T t with
  | some ti => match ti.k with
    | .struct fs => match fs[f]? with
      | some (off, ft) => match T ft with
        | some fi => (x.shift off).map fun s => (fi.size ≠ 0, s)
        | none => none
      | none => none
    | _ => none
  | none => none
theorem pFieldAddr_ok (hT : TOk P T) {t f : Nat} {v : Value} {s sv : SV} {side : Prop} (hr : Rep ρ S w v s) (he : pFieldAddr T t s f = some (side, sv)) (hs : side) :
    ∃ u, (∀ w', (Instr.fieldAt t v f).run P w' = .ok u w') ∧ Rep ρ S w u sv := by
  unfold pFieldAddr at he
  split at he <;> try cases he
  rename_i ti ht
  split at he <;> try cases he
  rename_i fs hk
  split at he <;> try cases he
  rename_i off ft hf
  split at he <;> try cases he
  rename_i fi hfi
  obtain ⟨s', h1, h2⟩ := Option.map_eq_some_iff.mp he
  simp only [Prod.mk.injEq] at h2
  obtain ⟨rfl, rfl⟩ := h2
  obtain ⟨b, o, rfl, h3⟩ := hr.shift h1
  obtain ⟨d, h4, h5⟩ := (hT t ti ht).run_und
  rw [hk] at h5
  obtain ⟨arr, rfl, h6⟩ := tk_struct h5
  rw [← h6, List.getElem?_map, Option.map_eq_some_iff] at hf
  obtain ⟨fld, h7, h8⟩ := hf
  simp only [Prod.mk.injEq] at h8
  obtain ⟨rfl, rfl⟩ := h8
  have h9 : arr[f]? = some fld := by rw [← Array.getElem?_toList]; exact h7
  refine ⟨_, ?_, h3⟩
  simp [Instr.fieldAt, h4, h9, Instr.sureAddr, fieldPlace, (hT _ fi hfi).run_size, hs, Addr.add_lit]

/-- indexAddr -/
def pIndexAddr (T : Nat → Option TI) (st : St) (t : Nat) (x : SV) (ix : SV) : Option (Prop × SV) := match T t, ix with
  | some ti, .pl (.int _ i) => match ti.k with
    | .slice e => match T e with
      | some ei => match x with
        | .pd rows => some (0 ≤ i ∧ i < rows.length ∧ (rows.getD i.toNat []).length = ei.size, .bp (rows.getD i.toNat []) 0)
        | .sl b j n => match st.blk b with
          | some (.c k rows) => some (0 ≤ i ∧ i < n ∧ j + i.toNat < rows.length ∧ k = ei.size, .pt b (j + i.toNat) 0)
          | _ => none
        | .sa b r off k n => some (0 ≤ i ∧ i < n ∧ k = ei.size, .pt b r (off + i.toNat * ei.size))
        | _ => none
      | none => none
    | .arr n e => match T e with
      | some ei => match x.shift (i.toNat * ei.size) with
        | some s => some (0 ≤ i ∧ i < n, s)
        | none => none
      | none => none
    | _ => none
  | _, _ => none

theorem pIndexAddr_ok (hT : TOk P T) (h : Sim w0 M S0 ρ φ S st a w) {t : Nat} {v vi : Value} {s si sv : SV} {side : Prop} (hr : Rep ρ S w v s) (hri : Rep ρ S w vi si) (he : pIndexAddr T st t s si = some (side, sv)) (hs : side) :
    ∃ u, (∀ w', (Instr.indexAt t v vi).run P w' = .ok u w') ∧ Rep ρ S w u sv := by
  unfold pIndexAddr at he
  split at he <;> try (cases he; done)
  rename_i ti k i ht
  obtain rfl := hri.pl_eq
  obtain ⟨d, h1, h2⟩ := (hT t ti ht).run_und
  split at he
  · rename_i e hk
    rw [hk] at h2
    obtain rfl := tk_slice h2
    split at he <;> try (cases he; done)
    rename_i ei hei
    have hsz := (hT e ei hei).run_size
    split at he
    · rename_i rows
      simp only [Option.some.injEq, Prod.mk.injEq] at he
      obtain ⟨rfl, rfl⟩ := he
      obtain ⟨g1, g2, g3⟩ := hs
      have g4 : i.toNat < rows.length := by omega
      cases hr with
      | per hr =>
        cases hr with
        | pd0 a c => simp at g4
        | pd blk off esz cap _ f hS hc hl hm hrep =>
          have g5 := getD_some g4
          have g6 : esz = ei.size := (hl _ _ g5).symm.trans g3
          refine ⟨.pointer (some ⟨blk, off + i.toNat * ei.size, none⟩), ?_, ?_⟩
          · simp [Instr.indexAt, asIntOf, h1, g1, g2, hsz, Addr.add_lit]
          · rw [← g6]
            exact .per (.bp blk (off + i.toNat * esz) 0 _ (fun j => f i.toNat j) hS (fun j c hj => hm _ _ j c g5 hj) (fun j c hj => hrep _ _ j c g5 hj))
    · rename_i b j n
      split at he <;> try (cases he; done)
      rename_i k' rows hb
      simp only [Option.some.injEq, Prod.mk.injEq] at he
      obtain ⟨rfl, rfl⟩ := he
      obtain ⟨g1, g2, g3, g4⟩ := hs
      cases hr with
      | per hr => cases hr
      | sl0 => omega
      | sl _ _ _ cap l hl hc hi hz =>
        have g6 : l.esz = ei.size := (h.cellsAt hb hl).1.trans g4
        refine ⟨.pointer (some (l.addr (j + i.toNat) 0)), fun w' => ?_, .pt b _ 0 l hl⟩
        simp only [Instr.indexAt, asIntOf, Sem.run_bind, Sem.run_pure, Result.andThen_ok, h1]
        simp only [g1, g2, and_self, if_true, Sem.run_bind, hsz, Result.andThen_ok, Sem.run_pure, Loc.addr, Addr.add_lit]
        rw [← g6, Nat.add_mul]
        rw [show l.base + j * l.esz + 0 + i.toNat * l.esz = l.base + (j * l.esz + i.toNat * l.esz) + 0 from by omega]
    · rename_i b r off k' n
      simp only [Option.some.injEq, Prod.mk.injEq] at he
      obtain ⟨rfl, rfl⟩ := he
      obtain ⟨g1, g2, g3⟩ := hs
      cases hr with
      | per hr => cases hr
      | sa _ _ _ _ _ cap l hl hc hi ho =>
        refine ⟨.pointer (some (l.addr r (off + i.toNat * ei.size))), fun w' => ?_, .pt b _ _ l hl⟩
        simp only [Instr.indexAt, asIntOf, Sem.run_bind, Sem.run_pure, Result.andThen_ok, h1]
        simp only [g1, g2, and_self, if_true, Sem.run_bind, hsz, Result.andThen_ok, Sem.run_pure, Loc.addr, Addr.add_lit]
        rw [Nat.add_assoc]
    · cases he
  · rename_i n e hk
    rw [hk] at h2
    obtain rfl := tk_arr h2
    split at he <;> try (cases he; done)
    rename_i ei hei
    split at he <;> try (cases he; done)
    rename_i s' g
    simp only [Option.some.injEq, Prod.mk.injEq] at he
    obtain ⟨rfl, rfl⟩ := he
    obtain ⟨b, o, rfl, h3⟩ := hr.shift g
    have hsz := (hT e ei hei).run_size
    obtain ⟨g1, g2⟩ := hs
    refine ⟨_, ?_, h3⟩
    simp [Instr.indexAt, asIntOf, h1, g1, g2, hsz, Addr.add_lit, Instr.sureAddr]
  · cases he

/-- All rows have so many cells. -/
def RowsLen (rows : Rows) (k : Nat) : Prop := ∀ r ∈ rows, r.length = k
theorem RowsLen.at {rows : Rows} {k i : Nat} {r : List SV} (h : RowsLen rows k) (hr : rows[i]? = some r) : r.length = k := h r (List.mem_of_getElem? hr)

/-- len of a slice -/
def pLen (T : Nat → Option TI) (t : Nat) (x : SV) : Option (Prop × SV) := match T t with
  | some ti => match ti.k, x with
    | .slice _, .pd rows => some (True, .pl (.int .i64 rows.length))
    | .slice _, .sl _ _ n => some (True, .pl (.int .i64 n))
    | .slice _, .sa _ _ _ _ n => some (True, .pl (.int .i64 n))
    | .slice _, .nl => some (True, .pl (.int .i64 0))
    | .str, .pl (.string s) => some (True, .pl (.int .i64 s.size))
    | .arr n _, _ => some (True, .pl (.int .i64 n))
    | _, _ => none
  | none => none
theorem RepP.pd_len {v : Value} {rows : Rows} (h : RepP S w v (.pd rows)) : ∃ x c, v = .slice x rows.length c := by
  cases h with
  | pd0 a c => exact ⟨a, c, rfl⟩
  | pd => exact ⟨_, _, rfl⟩
theorem Rep.pd_len {v : Value} {rows : Rows} (h : Rep ρ S w v (.pd rows)) : ∃ x c, v = .slice x rows.length c := by
  cases h with
  | per h => exact h.pd_len
theorem Rep.sl_len {v : Value} {b i n : Nat} (h : Rep ρ S w v (.sl b i n)) : ∃ x c, v = .slice x n c := by
  cases h with
  | per h => cases h
  | sl => exact ⟨_, _, rfl⟩
  | sl0 a => exact ⟨a, 0, rfl⟩
theorem pLen_ok (hT : TOk P T) {t ty : Nat} {v : Value} {s sv : SV} {side : Prop} (hr : Rep ρ S w v s) (he : pLen T t s = some (side, sv)) :
    ∃ u, (∀ w', (Builtin.len_ #[t] ty #[v]).run P w' = .ok u w') ∧ Rep ρ S w u sv := by
  unfold pLen at he
  split at he <;> try cases he
  rename_i ti ht
  obtain ⟨d, h1, h2⟩ := (hT t ti ht).run_und
  split at he
  · rename_i e rows hk
    simp only [Option.some.injEq, Prod.mk.injEq] at he
    obtain ⟨_, rfl⟩ := he
    rw [hk] at h2; obtain rfl := tk_slice h2
    obtain ⟨x, c, rfl⟩ := hr.pd_len
    exact ⟨_, by simp [Builtin.len_, h1, goInt], .per (.pl _)⟩
  · rename_i e b i n hk
    simp only [Option.some.injEq, Prod.mk.injEq] at he
    obtain ⟨_, rfl⟩ := he
    rw [hk] at h2; obtain rfl := tk_slice h2
    obtain ⟨x, c, rfl⟩ := hr.sl_len
    exact ⟨_, by simp [Builtin.len_, h1, goInt], .per (.pl _)⟩
  · rename_i e b i off k n hk
    simp only [Option.some.injEq, Prod.mk.injEq] at he
    obtain ⟨_, rfl⟩ := he
    rw [hk] at h2; obtain rfl := tk_slice h2
    have : ∃ x c, v = .slice x n c := by
      cases hr with
      | per h => cases h
      | sa => exact ⟨_, _, rfl⟩
    obtain ⟨x, c, rfl⟩ := this
    exact ⟨_, by simp [Builtin.len_, h1, goInt], .per (.pl _)⟩
  · rename_i e hk
    simp only [Option.some.injEq, Prod.mk.injEq] at he
    obtain ⟨_, rfl⟩ := he
    rw [hk] at h2; obtain rfl := tk_slice h2
    obtain rfl := hr.nl_eq
    exact ⟨_, by simp [Builtin.len_, h1, goInt], .per (.pl _)⟩
  · rename_i str hk
    simp only [Option.some.injEq, Prod.mk.injEq] at he
    obtain ⟨_, rfl⟩ := he
    rw [hk] at h2; obtain rfl := tk_str h2
    obtain rfl := hr.pl_eq
    exact ⟨_, by simp [Builtin.len_, h1, goInt], .per (.pl _)⟩
  · rename_i n e hk
    simp only [Option.some.injEq, Prod.mk.injEq] at he
    obtain ⟨_, rfl⟩ := he
    rw [hk] at h2; obtain rfl := tk_arr h2
    exact ⟨_, by simp [Builtin.len_, h1, goInt], .per (.pl _)⟩
  · cases he

/-- extract -/
def pExtract (x : SV) (i : Nat) : Option (Prop × SV) := match x with
  | .tu cs => some (i < cs.length, cs.getD i .dead)
  | _ => none
theorem pExtract_ok {i : Nat} {v : Value} {s sv : SV} {side : Prop} (hr : Rep ρ S w v s) (he : pExtract s i = some (side, sv)) (hs : side) :
    ∃ u, (∀ w', (Instr.extract v i).run P w' = .ok u w') ∧ Rep ρ S w u sv := by
  unfold pExtract at he
  split at he <;> try cases he
  rename_i cs
  obtain ⟨vs, rfl, hl, h⟩ := hr.tu_inv
  have hi : i < vs.length := by rw [hl]; exact hs
  refine ⟨vs[i], ?_, h i _ _ (List.getElem?_eq_getElem hi) (by have hs' : i < cs.length := hs; simp [List.getElem?_eq_getElem hs'])⟩
  simp [Instr.extract, hi]

/-- a part of a struct or array value -/
def pField (T : Nat → Option TI) (t : Nat) (x : SV) (f : Nat) : Option (Prop × SV) := match T t, x with
  | some ti, .ag cs => match ti.k with
    | .struct fs => match fs[f]? with
      | some (off, ft) => match T ft with
        | some fi => some (off + fi.size ≤ cs.length ∧ (fi.k.agg = false → fi.size = 1), cut fi.k.agg cs off fi.size)
        | none => none
      | none => none
    | _ => none
  | _, _ => none
theorem part_ok (hT : TOk P T) {t : Nat} {ti : TI} (ht : T t = some ti) {vs : List Value} {cs : List SV} {off : Nat} (hl : vs.length = cs.length)
    (h : ∀ (i : Nat) (v : Value) (c : SV), vs[i]? = some v → cs[i]? = some c → Rep ρ S w v c) (hs : off + ti.size ≤ cs.length) (hs2 : ti.k.agg = false → ti.size = 1) :
    ∃ u, (∀ w', (part t vs.toArray off).run P w' = .ok u w') ∧ Rep ρ S w u (cut ti.k.agg cs off ti.size) := by
  have hok := hT t ti ht
  unfold cut
  by_cases hg : ti.k.agg = true
  · rw [if_pos hg]
    refine ⟨.agg ((vs.drop off).take ti.size).toArray, ?_, .ag _ _ (by simp [hl]) fun i v c h1 h2 => ?_⟩
    · simp [part, hok.run_agg, hg, hok.run_size, List.take_drop]
    · rw [List.getElem?_take] at h1 h2
      split at h1
      · rename_i hi
        rw [if_pos hi, List.getElem?_drop] at h2
        rw [List.getElem?_drop] at h1
        exact h _ v c h1 h2
      · cases h1
  · have hg' : ti.k.agg = false := by simpa using hg
    rw [if_neg hg]
    have := hs2 hg'
    have hi : off < vs.length := by omega
    have hi' : off < cs.length := by omega
    refine ⟨vs[off], ?_, h off _ _ (List.getElem?_eq_getElem hi) (by simp [List.getElem?_eq_getElem hi'])⟩
    simp [part, hok.run_agg, hg', hi]
theorem pField_ok (hT : TOk P T) {t f : Nat} {v : Value} {s sv : SV} {side : Prop} (hr : Rep ρ S w v s) (he : pField T t s f = some (side, sv)) (hs : side) :
    ∃ u, (∀ w', (Instr.field t v f).run P w' = .ok u w') ∧ Rep ρ S w u sv := by
  unfold pField at he
  split at he <;> try cases he
  rename_i ti cs ht
  split at he <;> try cases he
  rename_i fs hk
  split at he <;> try cases he
  rename_i off ft hf
  split at he <;> try cases he
  rename_i fi hfi
  obtain ⟨d, h4, h5⟩ := (hT t ti ht).run_und
  rw [hk] at h5
  obtain ⟨arr, rfl, h6⟩ := tk_struct h5
  rw [← h6, List.getElem?_map, Option.map_eq_some_iff] at hf
  obtain ⟨fld, h7, h8⟩ := hf
  simp only [Prod.mk.injEq] at h8
  obtain ⟨rfl, rfl⟩ := h8
  have h9 : arr[f]? = some fld := by rw [← Array.getElem?_toList]; exact h7
  obtain ⟨vs, rfl, hl, h⟩ := hr.ag_inv
  obtain ⟨u, g1, g2⟩ := part_ok hT hfi hl h hs.1 hs.2
  exact ⟨u, by simp [Instr.field, h4, h9, asAgg, g1], g2⟩

/-- an element of an array value, a byte of a text -/
def pIndex (T : Nat → Option TI) (t : Nat) (x ix : SV) : Option (Prop × SV) := match T t, ix with
  | some ti, .pl (.int _ i) => match ti.k, x with
    | .arr n e, .ag cs => match T e with
      | some ei => some (0 ≤ i ∧ i < n ∧ i.toNat * ei.size + ei.size ≤ cs.length ∧ (ei.k.agg = false → ei.size = 1), cut ei.k.agg cs (i.toNat * ei.size) ei.size)
      | none => none
    | .str, .pl (.string s) => some (0 ≤ i ∧ i < s.size, .pl (.int .u8 ((s.data.toList.getD i.toNat 0).toNat : Nat)))
    | _, _ => none
  | _, _ => none
theorem pIndex_ok (hT : TOk P T) {t : Nat} {v vi : Value} {s si sv : SV} {side : Prop} (hr : Rep ρ S w v s) (hri : Rep ρ S w vi si) (he : pIndex T t s si = some (side, sv)) (hs : side) :
    ∃ u, (∀ w', (Instr.index t v vi).run P w' = .ok u w') ∧ Rep ρ S w u sv := by
  unfold pIndex at he
  split at he <;> try (cases he; done)
  rename_i ti k i ht
  obtain rfl := hri.pl_eq
  obtain ⟨d, h1, h2⟩ := (hT t ti ht).run_und
  split at he
  · rename_i n e cs hk
    split at he <;> try (cases he; done)
    rename_i ei hei
    simp only [Option.some.injEq, Prod.mk.injEq] at he
    obtain ⟨rfl, rfl⟩ := he
    obtain ⟨g1, g2, g3, g4⟩ := hs
    rw [hk] at h2; obtain rfl := tk_arr h2
    obtain ⟨vs, rfl, hl, h⟩ := hr.ag_inv
    obtain ⟨u, f1, f2⟩ := part_ok (P := P) hT hei hl h g3 g4
    exact ⟨u, by simp [Instr.index, asIntOf, h1, g1, g2, (hT e ei hei).run_size, f1], f2⟩
  · rename_i str hk
    simp only [Option.some.injEq, Prod.mk.injEq] at he
    obtain ⟨rfl, rfl⟩ := he
    obtain ⟨g1, g2⟩ := hs
    rw [hk] at h2; obtain rfl := tk_str h2
    obtain rfl := hr.pl_eq
    have hlt : i.toNat < str.data.size := by
      have : str.size = str.data.size := rfl
      omega
    have e1 : str[i.toNat]? = some (str.data.toList.getD i.toNat 0) := by
      rw [getElem?_pos str i.toNat (show i.toNat < str.size from hlt)]
      congr 1
      show str.data[i.toNat] = _
      simp only [List.getD_eq_getElem?_getD, Array.getElem?_toList]
      rw [Array.getElem?_eq_getElem hlt]
      rfl
    refine ⟨_, fun w' => ?_, .per (.pl _)⟩
    simp [Instr.index, asIntOf, h1, g1, e1]
  · cases he

end Go.Vcg
