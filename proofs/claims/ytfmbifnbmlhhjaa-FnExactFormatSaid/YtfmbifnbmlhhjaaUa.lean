/- The walk: symbolic states and their rules (Ua). -/
import Derived.Tactics
import Derived.WalkKit
import Derived.Laws.Cells
import Derived.Laws.Tables
/- Symbolic values, and what they stand for in a world. -/
namespace Go.Vcg

/-- pl: a plain value; nl: the nil slice; pd, bp, pm: a slice, a pointer to a struct, a map whose memory no one writes any more; ow, bo, mo: the same, owned by the cell that holds it;
ifc: an interface value; fn: a function value; sl: a slice of the named block b, from row i on, n rows; sa: a slice of cells inside row i; pt: the address of a cell; mr: a named map;
ag: a struct or an array, cell by cell; tu: several results; cn: known only where c is true; dead: nothing is known. -/
inductive SV where
  | pl (v : Value)
  | nl
  | pd (rows : List (List SV))
  | bp (row : List SV) (off : Nat)
  | pm (es : List (Value × SV))
  | ow (k : Nat) (rows : List (List SV))
  | bo (row : List SV)
  | mo (es : List (Value × SV))
  | ifc (t : Nat) (s : SV)
  | fn (f : Fn) (a b : List SV)
  | sl (b i n : Nat)
  | sa (b i off k n : Nat)
  | pt (b i off : Nat)
  | mr (b : Nat)
  | ag (cs : List SV)
  | tu (cs : List SV)
  | cn (c : Bool) (s : SV)
  | dead

abbrev Rows := List (List SV)

/-- A named block in memory: its number, where its rows begin, how many cells a row has, how many rows it has. -/
structure Loc where
  blk : Nat
  base : Nat
  esz : Nat
  len : Nat

def Loc.addr (l : Loc) (i off : Nat) : Addr := ⟨l.blk, l.base + i * l.esz + off, none⟩

/-- How many cells a block has. -/
def rowSize (w : World) (b : Nat) : Nat := match w.heap[b]? with
  | some (.cells c _ _) => c.size
  | _ => 0

theorem rowSize_congr {w w' : World} {x : Nat} (h : w'.heap[x]? = w.heap[x]?) : rowSize w' x = rowSize w x := by unfold rowSize; rw [h]
theorem cell_congr {w w' : World} {a : Addr} (h : w'.heap[a.block]? = w.heap[a.block]?) : w'.cell? a = w.cell? a := by unfold World.cell?; rw [h]
theorem frozen_congr {w w' : World} {a : Addr} (h : w'.heap[a.block]? = w.heap[a.block]?) : w'.frozen? a = w.frozen? a := by unfold World.frozen?; rw [h]

/-- The entries of a map as the machine keeps them. -/
def EntriesOf (es : Array MapEntry) (kvs : List (Value × Value)) : Prop := es.toList.map (fun e => (e.key, e.val)) = kvs

/-- What is kept for good. -/
inductive RepP (S : Nat → Prop) (w : World) : Value → SV → Prop
  | pl (v : Value) : RepP S w v (.pl v)
  | nl : RepP S w (.slice none 0 0) .nl
  | pd0 (a : Option Addr) (c : Nat) : RepP S w (.slice a 0 c) (.pd [])
  | pd (blk off esz cap : Nat) (rows : Rows) (f : Nat → Nat → Value) (hS : S blk) (hc : rows.length ≤ cap)
      (hl : ∀ (i : Nat) (r : List SV), rows[i]? = some r → r.length = esz)
      (hm : ∀ (i : Nat) (r : List SV) (j : Nat) (c : SV), rows[i]? = some r → r[j]? = some c → w.cell? ⟨blk, off + i * esz + j, none⟩ = some (f i j) ∧ (f i j).oneCell' = true)
      (hr : ∀ (i : Nat) (r : List SV) (j : Nat) (c : SV), rows[i]? = some r → r[j]? = some c → RepP S w (f i j) c) : RepP S w (.slice (some ⟨blk, off, none⟩) rows.length cap) (.pd rows)
  | bp (blk off o : Nat) (row : List SV) (f : Nat → Value) (hS : S blk)
      (hm : ∀ (j : Nat) (c : SV), row[j]? = some c → w.cell? ⟨blk, off + j, none⟩ = some (f j) ∧ (f j).oneCell' = true)
      (hr : ∀ (j : Nat) (c : SV), row[j]? = some c → RepP S w (f j) c) : RepP S w (.pointer (some ⟨blk, off + o, none⟩)) (.bp row o)
  | pm (blk clk : Nat) (ents : Array MapEntry) (es : List (Value × SV)) (vs : List Value) (hS : S blk) (ho : w.heap[blk]? = some (.map ents clk)) (he : EntriesOf ents ((es.map (·.1)).zip vs)) (hl : vs.length = es.length)
      (hr : ∀ (i : Nat) (v : Value) (e : Value × SV), vs[i]? = some v → es[i]? = some e → RepP S w v e.2) : RepP S w (.map (some blk)) (.pm es)
  | ifc (t : Nat) {v : Value} {s : SV} (h : RepP S w v s) : RepP S w (.iface t v) (.ifc t s)
  | fn (f : Fn) (va vb : List Value) (a b : List SV) (ha : va.length = a.length) (hb : vb.length = b.length)
      (h1 : ∀ (i : Nat) (v : Value) (c : SV), va[i]? = some v → a[i]? = some c → RepP S w v c) (h2 : ∀ (i : Nat) (v : Value) (c : SV), vb[i]? = some v → b[i]? = some c → RepP S w v c) : RepP S w (.func f va.toArray vb.toArray) (.fn f a b)
  | ag (vs : List Value) (cs : List SV) (hl : vs.length = cs.length) (h : ∀ (i : Nat) (v : Value) (c : SV), vs[i]? = some v → cs[i]? = some c → RepP S w v c) : RepP S w (.agg vs.toArray) (.ag cs)
  | tu (vs : List Value) (cs : List SV) (hl : vs.length = cs.length) (h : ∀ (i : Nat) (v : Value) (c : SV), vs[i]? = some v → cs[i]? = some c → RepP S w v c) : RepP S w (.tuple vs.toArray) (.tu cs)
  | dead (v : Value) : RepP S w v .dead

theorem RepP.mono {S S' : Nat → Prop} {w w' : World} {v : Value} {s : SV} (h : RepP S w v s) (hS : ∀ i, S i → S' i) (hw : ∀ i, S i → w'.heap[i]? = w.heap[i]?) : RepP S' w' v s := by
  induction h with
  | pl v => exact .pl v
  | nl => exact .nl
  | pd0 a c => exact .pd0 a c
  | pd blk off esz cap rows f hS0 hc hl hm _ ih =>
    refine .pd blk off esz cap rows f (hS _ hS0) hc hl (fun i r j c h1 h2 => ?_) ih
    rw [cell_congr (hw _ hS0)]
    exact hm i r j c h1 h2
  | bp blk off o row f hS0 hm _ ih =>
    refine .bp blk off o row f (hS _ hS0) (fun j c h => ?_) ih
    rw [cell_congr (hw _ hS0)]
    exact hm j c h
  | pm blk clk ents es vs hS0 ho he hl _ ih => exact .pm blk clk ents es vs (hS _ hS0) (by rw [hw _ hS0]; exact ho) he hl ih
  | ifc t _ ih => exact .ifc t ih
  | fn f va vb a b ha hb _ _ ih1 ih2 => exact .fn f va vb a b ha hb ih1 ih2
  | ag vs cs hl _ ih => exact .ag vs cs hl ih
  | tu vs cs hl _ ih => exact .tu vs cs hl ih
  | dead v => exact .dead v

/-- What owns its memory: F has all of it. -/
inductive RepO (S : Nat → Prop) (w : World) : Value → SV → (Nat → Prop) → Prop
  | per {v : Value} {s : SV} {F : Nat → Prop} (h : RepP S w v s) : RepO S w v s F
  | ow0 (a : Option Addr) (k : Nat) (F : Nat → Prop) : RepO S w (.slice a 0 0) (.ow k []) F
  | ow (blk off k cap : Nat) (rows : Rows) (f : Nat → Nat → Value) (G : Nat → Nat → Nat → Prop) (F : Nat → Prop) (hF : F blk) (hG : ∀ i j x, G i j x → F x ∧ x ≠ blk)
      (hd : ∀ i j i' j' x, G i j x → G i' j' x → i = i' ∧ j = j') (ht : blk < w.heap.size) (hf : ∀ o, w.frozen? ⟨blk, o, none⟩ = false) (hc : rows.length ≤ cap) (hz : off + cap * k ≤ rowSize w blk)
      (hl : ∀ (i : Nat) (r : List SV), rows[i]? = some r → r.length = k)
      (hm : ∀ (i : Nat) (r : List SV) (j : Nat) (c : SV), rows[i]? = some r → r[j]? = some c → w.cell? ⟨blk, off + i * k + j, none⟩ = some (f i j) ∧ (f i j).oneCell' = true)
      (hr : ∀ (i : Nat) (r : List SV) (j : Nat) (c : SV), rows[i]? = some r → r[j]? = some c → RepO S w (f i j) c (G i j)) : RepO S w (.slice (some ⟨blk, off, none⟩) rows.length cap) (.ow k rows) F
  | bo (blk off : Nat) (row : List SV) (f : Nat → Value) (G : Nat → Nat → Prop) (F : Nat → Prop) (hF : F blk) (hG : ∀ j x, G j x → F x ∧ x ≠ blk) (hd : ∀ j j' x, G j x → G j' x → j = j') (ht : blk < w.heap.size)
      (hf : ∀ o, w.frozen? ⟨blk, o, none⟩ = false)
      (hm : ∀ (j : Nat) (c : SV), row[j]? = some c → w.cell? ⟨blk, off + j, none⟩ = some (f j) ∧ (f j).oneCell' = true)
      (hr : ∀ (j : Nat) (c : SV), row[j]? = some c → RepO S w (f j) c (G j)) : RepO S w (.pointer (some ⟨blk, off, none⟩)) (.bo row) F
  | mo (blk clk : Nat) (ents : Array MapEntry) (es : List (Value × SV)) (vs : List Value) (G : Nat → Nat → Prop) (F : Nat → Prop) (hF : F blk) (hG : ∀ j x, G j x → F x ∧ x ≠ blk) (hd : ∀ j j' x, G j x → G j' x → j = j')
      (ho : w.heap[blk]? = some (.map ents clk)) (he : EntriesOf ents ((es.map (·.1)).zip vs)) (hl : vs.length = es.length)
      (hr : ∀ (i : Nat) (v : Value) (e : Value × SV), vs[i]? = some v → es[i]? = some e → RepO S w v e.2 (G i)) : RepO S w (.map (some blk)) (.mo es) F
  | ifc (t : Nat) {v : Value} {s : SV} {F : Nat → Prop} (h : RepO S w v s F) : RepO S w (.iface t v) (.ifc t s) F
  | ag (vs : List Value) (cs : List SV) (G : Nat → Nat → Prop) (F : Nat → Prop) (hG : ∀ j x, G j x → F x) (hd : ∀ j j' x, G j x → G j' x → j = j') (hl : vs.length = cs.length)
      (h : ∀ (i : Nat) (v : Value) (c : SV), vs[i]? = some v → cs[i]? = some c → RepO S w v c (G i)) : RepO S w (.agg vs.toArray) (.ag cs) F
  | tu (vs : List Value) (cs : List SV) (G : Nat → Nat → Prop) (F : Nat → Prop) (hG : ∀ j x, G j x → F x) (hd : ∀ j j' x, G j x → G j' x → j = j') (hl : vs.length = cs.length)
      (h : ∀ (i : Nat) (v : Value) (c : SV), vs[i]? = some v → cs[i]? = some c → RepO S w v c (G i)) : RepO S w (.tuple vs.toArray) (.tu cs) F

theorem RepO.sub {S : Nat → Prop} {w : World} {v : Value} {s : SV} {F F' : Nat → Prop} (h : RepO S w v s F) (hF : ∀ x, F x → F' x) : RepO S w v s F' := by
  induction h generalizing F' with
  | per h => exact .per h
  | ow0 a k => exact .ow0 a k F'
  | ow blk off k cap rows f G F h1 h2 h3 h4 h5 h6 h7 h8 h9 h10 _ => exact .ow blk off k cap rows f G F' (hF _ h1) (fun i j x h => ⟨hF _ (h2 i j x h).1, (h2 i j x h).2⟩) h3 h4 h5 h6 h7 h8 h9 h10
  | bo blk off row f G F h1 h2 h3 h4 h5 h6 h7 _ => exact .bo blk off row f G F' (hF _ h1) (fun j x h => ⟨hF _ (h2 j x h).1, (h2 j x h).2⟩) h3 h4 h5 h6 h7
  | mo blk clk ents es vs G F h1 h2 h3 h4 h5 h6 h7 _ => exact .mo blk clk ents es vs G F' (hF _ h1) (fun j x h => ⟨hF _ (h2 j x h).1, (h2 j x h).2⟩) h3 h4 h5 h6 h7
  | ifc t _ ih => exact .ifc t (ih hF)
  | ag vs cs G F h1 h2 h3 h4 _ => exact .ag vs cs G F' (fun j x h => hF _ (h1 j x h)) h2 h3 h4
  | tu vs cs G F h1 h2 h3 h4 _ => exact .tu vs cs G F' (fun j x h => hF _ (h1 j x h)) h2 h3 h4

theorem RepO.mono {S S' : Nat → Prop} {w w' : World} {v : Value} {s : SV} {F : Nat → Prop} (h : RepO S w v s F) (hS : ∀ i, S i → S' i) (hz : w.heap.size ≤ w'.heap.size) (hw : ∀ i, S i ∨ F i → i < w.heap.size → w'.heap[i]? = w.heap[i]?) (hb : ∀ i, S i → i < w.heap.size) : RepO S' w' v s F := by
  induction h with
  | per h => exact .per (h.mono hS fun i hi => hw i (.inl hi) (hb i hi))
  | ow0 a k F => exact .ow0 a k F
  | ow blk off k cap rows f G F h1 h2 h3 h4 h5 h6 h7 h8 h9 h10 ih =>
    have e := hw blk (.inr h1) h4
    exact .ow blk off k cap rows f G F h1 h2 h3 (Nat.lt_of_lt_of_le h4 hz) (fun o => by rw [frozen_congr e]; exact h5 o) h6 (by rw [rowSize_congr e]; exact h7) h8 (fun i r j c g1 g2 => by rw [cell_congr e]; exact h9 i r j c g1 g2)
      fun i r j c g1 g2 => ih i r j c g1 g2 fun x hx => hw x (hx.imp id fun g => (h2 i j x g).1)
  | bo blk off row f G F h1 h2 h3 h4 h5 h6 h7 ih =>
    have e := hw blk (.inr h1) h4
    exact .bo blk off row f G F h1 h2 h3 (Nat.lt_of_lt_of_le h4 hz) (fun o => by rw [frozen_congr e]; exact h5 o) (fun j c g1 => by rw [cell_congr e]; exact h6 j c g1)
      fun j c g1 => ih j c g1 fun x hx => hw x (hx.imp id fun g => (h2 j x g).1)
  | mo blk clk ents es vs G F h1 h2 h3 h4 h5 h6 h7 ih =>
    have hlt : blk < w.heap.size := by
      rcases Nat.lt_or_ge blk w.heap.size with g | g
      · exact g
      · rw [Array.getElem?_eq_none g] at h4; cases h4
    exact .mo blk clk ents es vs G F h1 h2 h3 (by rw [hw blk (.inr h1) hlt]; exact h4) h5 h6 fun i v e g1 g2 => ih i v e g1 g2 fun x hx => hw x (hx.imp id fun g => (h2 i x g).1)
  | ifc t _ ih => exact .ifc t (ih hw)
  | ag vs cs G F h1 h2 h3 h4 ih => exact .ag vs cs G F h1 h2 h3 fun i v c g1 g2 => ih i v c g1 g2 fun x hx => hw x (hx.imp id fun g => h1 i x g)
  | tu vs cs G F h1 h2 h3 h4 ih => exact .tu vs cs G F h1 h2 h3 fun i v c g1 g2 => ih i v c g1 g2 fun x hx => hw x (hx.imp id fun g => h1 i x g)

/-! ## Owned memory is kept for good -/

mutual
def SV.frz : SV → SV
  | .ow _ rows => .pd (frzRows rows)
  | .bo row => .bp (frzL row) 0
  | .mo es => .pm (frzE es)
  | .ifc t s => .ifc t s.frz
  | .ag cs => .ag (frzL cs)
  | .tu cs => .tu (frzL cs)
  | .pl v => .pl v
  | .nl => .pd []
  | .pd r => .pd r
  | .bp r o => .bp r o
  | .pm e => .pm e
  | .fn f a b => .fn f (frzL a) (frzL b)
  | _ => .dead
def frzL : List SV → List SV
  | [] => []
  | s :: ss => s.frz :: frzL ss
def frzRows : List (List SV) → List (List SV)
  | [] => []
  | r :: rs => frzL r :: frzRows rs
def frzE : List (Value × SV) → List (Value × SV)
  | [] => []
  | (k, s) :: es => (k, s.frz) :: frzE es
end
theorem frzL_eq (ss : List SV) : frzL ss = ss.map SV.frz := by
  induction ss with
  | nil => simp [frzL]
  | cons s ss ih => simp [frzL, ih]
theorem frzRows_eq (rows : Rows) : frzRows rows = rows.map frzL := by
  induction rows with
  | nil => simp [frzRows]
  | cons s ss ih => simp [frzRows, ih]
theorem frzE_eq (es : List (Value × SV)) : frzE es = es.map fun e => (e.1, e.2.frz) := by
  induction es with
  | nil => simp [frzE]
  | cons s ss ih => obtain ⟨k, s⟩ := s; simp [frzE, ih]

theorem RepP.frz {S : Nat → Prop} {w : World} {v : Value} {s : SV} (h : RepP S w v s) : RepP S w v s.frz := by
  induction h with
  | pl v => rw [SV.frz]; exact .pl v
  | nl => rw [SV.frz]; exact .pd0 none 0
  | pd0 a c => rw [SV.frz]; exact .pd0 a c
  | pd blk off esz cap rows f h1 h2 h3 h4 h5 _ => rw [SV.frz]; exact .pd blk off esz cap rows f h1 h2 h3 h4 h5
  | bp blk off o row f h1 h2 h3 _ => rw [SV.frz]; exact .bp blk off o row f h1 h2 h3
  | pm blk clk ents es vs h1 h2 h3 h4 h5 _ => rw [SV.frz]; exact .pm blk clk ents es vs h1 h2 h3 h4 h5
  | ifc t _ ih => rw [SV.frz]; exact .ifc t ih
  | fn f va vb a b ha hb _ _ ih1 ih2 =>
    rw [SV.frz, frzL_eq, frzL_eq]
    refine .fn f va vb _ _ (by simpa using ha) (by simpa using hb) (fun i v c h1 h2 => ?_) (fun i v c h1 h2 => ?_)
    · rw [List.getElem?_map, Option.map_eq_some_iff] at h2
      obtain ⟨c', h2, rfl⟩ := h2
      exact ih1 i v c' h1 h2
    · rw [List.getElem?_map, Option.map_eq_some_iff] at h2
      obtain ⟨c', h2, rfl⟩ := h2
      exact ih2 i v c' h1 h2
  | ag vs cs hl _ ih =>
    rw [SV.frz, frzL_eq]
    refine .ag vs _ (by simpa using hl) fun i v c h1 h2 => ?_
    rw [List.getElem?_map, Option.map_eq_some_iff] at h2
    obtain ⟨c', h2, rfl⟩ := h2
    exact ih i v c' h1 h2
  | tu vs cs hl _ ih =>
    rw [SV.frz, frzL_eq]
    refine .tu vs _ (by simpa using hl) fun i v c h1 h2 => ?_
    rw [List.getElem?_map, Option.map_eq_some_iff] at h2
    obtain ⟨c', h2, rfl⟩ := h2
    exact ih i v c' h1 h2
  | dead v => rw [SV.frz] <;> first | exact .dead v | (intros; contradiction) | simp

theorem RepO.frz {S S' : Nat → Prop} {w : World} {v : Value} {s : SV} {F : Nat → Prop} (h : RepO S w v s F) (hS : ∀ i, S i → S' i) (hF : ∀ i, F i → S' i) : RepP S' w v s.frz := by
  induction h with
  | per h => exact (h.mono hS fun _ _ => rfl).frz
  | ow0 a k F => rw [SV.frz, frzRows]; exact .pd0 a 0
  | ow blk off k cap rows f G F h1 h2 h3 h4 h5 h6 h7 h8 h9 h10 ih =>
    rw [SV.frz, frzRows_eq]
    have hk : ∀ (i : Nat) (r : List SV), (rows.map frzL)[i]? = some r → ∃ r', rows[i]? = some r' ∧ r = r'.map SV.frz := fun i r g => by
      rw [List.getElem?_map, Option.map_eq_some_iff] at g
      obtain ⟨r', g1, g2⟩ := g
      exact ⟨r', g1, by rw [← g2, frzL_eq]⟩
    have := RepP.pd (S := S') (w := w) blk off k cap (rows.map frzL) f (hF _ h1) (by simpa using h6) (fun i r g => by
        obtain ⟨r', g1, rfl⟩ := hk i r g
        simpa using h8 i r' g1)
      (fun i r j c g1 g2 => by
        obtain ⟨r', g3, rfl⟩ := hk i r g1
        rw [List.getElem?_map, Option.map_eq_some_iff] at g2
        obtain ⟨c', g2, rfl⟩ := g2
        exact h9 i r' j c' g3 g2)
      (fun i r j c g1 g2 => by
        obtain ⟨r', g3, rfl⟩ := hk i r g1
        rw [List.getElem?_map, Option.map_eq_some_iff] at g2
        obtain ⟨c', g2, rfl⟩ := g2
        exact ih i r' j c' g3 g2 fun x g => hF x (h2 i j x g).1)
    simpa using this
  | bo blk off row f G F h1 h2 h3 h4 h5 h6 h7 ih =>
    rw [SV.frz, frzL_eq]
    refine RepP.bp (S := S') blk off 0 (row.map SV.frz) f (hF _ h1) (fun j c g => ?_) (fun j c g => ?_)
    · rw [List.getElem?_map, Option.map_eq_some_iff] at g
      obtain ⟨c', g, rfl⟩ := g
      simpa using h6 j c' g
    · rw [List.getElem?_map, Option.map_eq_some_iff] at g
      obtain ⟨c', g, rfl⟩ := g
      exact ih j c' g fun x g => hF x (h2 j x g).1
  | mo blk clk ents es vs G F h1 h2 h3 h4 h5 h6 h7 ih =>
    rw [SV.frz, frzE_eq]
    refine RepP.pm blk clk ents _ vs (hF _ h1) h4 ?_ (by simpa using h6) (fun i v e g1 g2 => ?_)
    · rw [List.map_map]; exact h5
    · rw [List.getElem?_map, Option.map_eq_some_iff] at g2
      obtain ⟨e', g2, rfl⟩ := g2
      exact ih i v e' g1 g2 fun x g => hF x (h2 i x g).1
  | ifc t _ ih => rw [SV.frz]; exact .ifc t (ih hF)
  | ag vs cs G F h1 h2 h3 h4 ih =>
    rw [SV.frz, frzL_eq]
    refine .ag vs _ (by simpa using h3) fun i v c g1 g2 => ?_
    rw [List.getElem?_map, Option.map_eq_some_iff] at g2
    obtain ⟨c', g2, rfl⟩ := g2
    exact ih i v c' g1 g2 fun x g => hF x (h1 i x g)
  | tu vs cs G F h1 h2 h3 h4 ih =>
    rw [SV.frz, frzL_eq]
    refine .tu vs _ (by simpa using h3) fun i v c g1 g2 => ?_
    rw [List.getElem?_map, Option.map_eq_some_iff] at g2
    obtain ⟨c', g2, rfl⟩ := g2
    exact ih i v c' g1 g2 fun x g => hF x (h1 i x g)

/-! ## Values with names -/

/-- What a value stands for; ρ: where the names' memory lies. -/
inductive Rep (ρ : Nat → Option Loc) (S : Nat → Prop) (w : World) : Value → SV → Prop
  | per {v : Value} {s : SV} (h : RepP S w v s) : Rep ρ S w v s
  | sl (b i n cap : Nat) (l : Loc) (hb : ρ b = some l) (hc : n ≤ cap) (hi : i + n ≤ l.len) (hz : l.base + (i + cap) * l.esz ≤ rowSize w l.blk) : Rep ρ S w (.slice (some (l.addr i 0)) n cap) (.sl b i n)
  | sl0 (a : Option Addr) (b i : Nat) : Rep ρ S w (.slice a 0 0) (.sl b i 0)
  | sa (b i off k n cap : Nat) (l : Loc) (hb : ρ b = some l) (hc : n ≤ cap) (hi : i < l.len) (ho : off + n * k ≤ l.esz) : Rep ρ S w (.slice (some (l.addr i off)) n cap) (.sa b i off k n)
  | pt (b i off : Nat) (l : Loc) (hb : ρ b = some l) : Rep ρ S w (.pointer (some (l.addr i off))) (.pt b i off)
  | mr (b : Nat) (l : Loc) (hb : ρ b = some l) : Rep ρ S w (.map (some l.blk)) (.mr b)
  | ifc (t : Nat) {v : Value} {s : SV} (h : Rep ρ S w v s) : Rep ρ S w (.iface t v) (.ifc t s)
  | fn (f : Fn) (va vb : List Value) (a b : List SV) (ha : va.length = a.length) (hb : vb.length = b.length)
      (h1 : ∀ (i : Nat) (v : Value) (c : SV), va[i]? = some v → a[i]? = some c → Rep ρ S w v c) (h2 : ∀ (i : Nat) (v : Value) (c : SV), vb[i]? = some v → b[i]? = some c → Rep ρ S w v c) : Rep ρ S w (.func f va.toArray vb.toArray) (.fn f a b)
  | ag (vs : List Value) (cs : List SV) (hl : vs.length = cs.length) (h : ∀ (i : Nat) (v : Value) (c : SV), vs[i]? = some v → cs[i]? = some c → Rep ρ S w v c) : Rep ρ S w (.agg vs.toArray) (.ag cs)
  | tu (vs : List Value) (cs : List SV) (hl : vs.length = cs.length) (h : ∀ (i : Nat) (v : Value) (c : SV), vs[i]? = some v → cs[i]? = some c → Rep ρ S w v c) : Rep ρ S w (.tuple vs.toArray) (.tu cs)
  | cn (v : Value) (c : Bool) (s : SV) (h : c = true → Rep ρ S w v s) (h0 : c = false → v = undef) : Rep ρ S w v (.cn c s)

theorem Rep.dead {ρ : Nat → Option Loc} {S : Nat → Prop} {w : World} (v : Value) : Rep ρ S w v .dead := .per (.dead v)

/-- The names that a value bears. -/
inductive SV.Names : SV → Nat → Prop
  | sl (b i n : Nat) : Names (.sl b i n) b
  | sa (b i off k n : Nat) : Names (.sa b i off k n) b
  | pt (b i off : Nat) : Names (.pt b i off) b
  | mr (b : Nat) : Names (.mr b) b
  | ifc (t : Nat) (s : SV) (x : Nat) (h : Names s x) : Names (.ifc t s) x
  | fna (f : Fn) (a b : List SV) (c : SV) (x : Nat) (hc : c ∈ a) (h : Names c x) : Names (.fn f a b) x
  | fnb (f : Fn) (a b : List SV) (c : SV) (x : Nat) (hc : c ∈ b) (h : Names c x) : Names (.fn f a b) x
  | ag (cs : List SV) (c : SV) (x : Nat) (hc : c ∈ cs) (h : Names c x) : Names (.ag cs) x
  | tu (cs : List SV) (c : SV) (x : Nat) (hc : c ∈ cs) (h : Names c x) : Names (.tu cs) x
  | cn (c : Bool) (s : SV) (x : Nat) (h : Names s x) : Names (.cn c s) x

theorem Rep.mono {ρ ρ' : Nat → Option Loc} {S S' : Nat → Prop} {w w' : World} {v : Value} {s : SV} (h : Rep ρ S w v s) (hS : ∀ i, S i → S' i) (hw : ∀ i, S i → w'.heap[i]? = w.heap[i]?)
    (hn : ∀ b, s.Names b → ρ' b = ρ b) (hz : ∀ x, rowSize w x ≤ rowSize w' x) : Rep ρ' S' w' v s := by
  induction h with
  | per h => exact .per (h.mono hS hw)
  | sl b i n cap l hb hc hi hz' => exact .sl b i n cap l (by rw [hn b (.sl ..)]; exact hb) hc hi (Nat.le_trans hz' (hz _))
  | sl0 a b i => exact .sl0 a b i
  | sa b i off k n cap l hb hc hi ho => exact .sa b i off k n cap l (by rw [hn b (.sa ..)]; exact hb) hc hi ho
  | pt b i off l hb => exact .pt b i off l (by rw [hn b (.pt ..)]; exact hb)
  | mr b l hb => exact .mr b l (by rw [hn b (.mr ..)]; exact hb)
  | ifc t _ ih => exact .ifc t (ih fun b hb => hn b (.ifc t _ b hb))
  | fn f va vb a b ha hb _ _ ih1 ih2 => exact .fn f va vb a b ha hb (fun i v c h1 h2 => ih1 i v c h1 h2 fun x hx => hn x (.fna f a b c x (List.mem_of_getElem? h2) hx)) (fun i v c h1 h2 => ih2 i v c h1 h2 fun x hx => hn x (.fnb f a b c x (List.mem_of_getElem? h2) hx))
  | ag vs cs hl _ ih => exact .ag vs cs hl fun i v c h1 h2 => ih i v c h1 h2 fun b hb => hn b (.ag cs c b (List.mem_of_getElem? h2) hb)
  | tu vs cs hl _ ih => exact .tu vs cs hl fun i v c h1 h2 => ih i v c h1 h2 fun b hb => hn b (.tu cs c b (List.mem_of_getElem? h2) hb)
  | cn v c s _ h0 ih => exact .cn v c s (fun hc => ih hc fun b hb => hn b (.cn c s b hb)) h0

theorem Rep.toS {ρ : Nat → Option Loc} {S S' : Nat → Prop} {w : World} {v : Value} {s : SV} (h : Rep ρ S w v s) (hS : ∀ i, S i → S' i) : Rep ρ S' w v s := h.mono hS (fun _ _ => rfl) (fun _ _ => rfl) (fun _ => Nat.le_refl _)

/-! ## A name is forgotten -/

def SV.kill0 (d : Nat) : SV → SV
  | .sl b i n => if b = d then .dead else .sl b i n
  | .sa b i o k n => if b = d then .dead else .sa b i o k n
  | .pt b i o => if b = d then .dead else .pt b i o
  | .mr b => if b = d then .dead else .mr b
  | .ifc _ _ => .dead
  | .fn _ _ _ => .dead
  | .ag _ => .dead
  | .tu _ => .dead
  | .cn _ _ => .dead
  | s => s
def SV.kill1 (d : Nat) : SV → SV
  | .ifc t s => .ifc t (s.kill0 d)
  | .fn f a b => .fn f (a.map (SV.kill0 d)) (b.map (SV.kill0 d))
  | s => s.kill0 d
def SV.kill2 (d : Nat) : SV → SV
  | .ag cs => .ag (cs.map (SV.kill1 d))
  | s => s.kill1 d
def SV.kill (d : Nat) : SV → SV
  | .tu cs => .tu (cs.map (SV.kill2 d))
  | .cn c s => .cn c (s.kill2 d)
  | s => s.kill2 d

theorem SV.kill0_names {d b : Nat} {s : SV} (h : (s.kill0 d).Names b) : b ≠ d ∧ s.Names b := by
  cases s with
  | sl x i n =>
    rw [SV.kill0] at h
    split at h
    · cases h
    · cases h; exact ⟨by assumption, .sl ..⟩
  | sa x i o k n =>
    rw [SV.kill0] at h
    split at h
    · cases h
    · cases h; exact ⟨by assumption, .sa ..⟩
  | pt x i n =>
    rw [SV.kill0] at h
    split at h
    · cases h
    · cases h; exact ⟨by assumption, .pt ..⟩
  | mr x =>
    rw [SV.kill0] at h
    split at h
    · cases h
    · cases h; exact ⟨by assumption, .mr ..⟩
  | _ => cases h
theorem SV.kill1_names {d b : Nat} {s : SV} (h : (s.kill1 d).Names b) : b ≠ d ∧ s.Names b := by
  cases s with
  | ifc t s =>
    cases h with
    | ifc _ _ _ h => exact ⟨(kill0_names h).1, .ifc t s b (kill0_names h).2⟩
  | fn f x y =>
    cases h with
    | fna _ _ _ c _ hc h =>
      obtain ⟨c', hc', rfl⟩ := List.mem_map.mp hc
      exact ⟨(kill0_names h).1, .fna f x y c' b hc' (kill0_names h).2⟩
    | fnb _ _ _ c _ hc h =>
      obtain ⟨c', hc', rfl⟩ := List.mem_map.mp hc
      exact ⟨(kill0_names h).1, .fnb f x y c' b hc' (kill0_names h).2⟩
  | _ => exact kill0_names h
theorem SV.kill2_names {d b : Nat} {s : SV} (h : (s.kill2 d).Names b) : b ≠ d ∧ s.Names b := by
  cases s with
  | ag cs =>
    cases h with
    | ag _ c _ hc h =>
      obtain ⟨c', hc', rfl⟩ := List.mem_map.mp hc
      exact ⟨(kill1_names h).1, .ag cs c' b hc' (kill1_names h).2⟩
  | _ => exact kill1_names h
theorem SV.kill_names {d b : Nat} {s : SV} (h : (s.kill d).Names b) : b ≠ d ∧ s.Names b := by
  cases s with
  | tu cs =>
    cases h with
    | tu _ c _ hc h =>
      obtain ⟨c', hc', rfl⟩ := List.mem_map.mp hc
      exact ⟨(kill2_names h).1, .tu cs c' b hc' (kill2_names h).2⟩
  | cn c s =>
    cases h with
    | cn _ _ _ h => exact ⟨(kill2_names h).1, .cn c s b (kill2_names h).2⟩
  | _ => exact kill2_names h

section
variable {ρ : Nat → Option Loc} {S : Nat → Prop} {w : World}
theorem Rep.kill0 {v : Value} {s : SV} (d : Nat) (h : Rep ρ S w v s) : Rep ρ S w v (s.kill0 d) := by
  cases s <;> first
    | exact h
    | exact .dead v
    | (rw [SV.kill0]; split <;> first | exact h | exact .dead v)
theorem relmap {R R' : Value → SV → Prop} {g : SV → SV} (hg : ∀ v c, R v c → R' v (g c)) {vs : List Value} {cs : List SV} (h : ∀ (i : Nat) (v : Value) (c : SV), vs[i]? = some v → cs[i]? = some c → R v c) :
    ∀ (i : Nat) (v : Value) (c : SV), vs[i]? = some v → (cs.map g)[i]? = some c → R' v c := fun i v c h1 h2 => by
  rw [List.getElem?_map, Option.map_eq_some_iff] at h2
  obtain ⟨c', h2, rfl⟩ := h2
  exact hg v c' (h i v c' h1 h2)
theorem Rep.kill1 {v : Value} {s : SV} (d : Nat) (h : Rep ρ S w v s) : Rep ρ S w v (s.kill1 d) := by
  cases s with
  | ifc t s =>
    cases h with
    | ifc _ h => exact .ifc t (h.kill0 d)
    | per h => cases h with
      | ifc _ h => exact .ifc t (Rep.kill0 d (.per h))
  | fn f x y =>
    cases h with
    | fn _ va vb _ _ ha hb h1 h2 => exact .fn f va vb _ _ (by simpa using ha) (by simpa using hb) (relmap (fun v c h => h.kill0 d) h1) (relmap (fun v c h => h.kill0 d) h2)
    | per h => cases h with
      | fn _ va vb _ _ ha hb h1 h2 => exact .fn f va vb _ _ (by simpa using ha) (by simpa using hb) (relmap (fun v c h => Rep.kill0 d (.per h)) h1) (relmap (fun v c h => Rep.kill0 d (.per h)) h2)
  | _ => exact h.kill0 d
theorem Rep.kill2 {v : Value} {s : SV} (d : Nat) (h : Rep ρ S w v s) : Rep ρ S w v (s.kill2 d) := by
  cases s with
  | ag cs =>
    cases h with
    | ag vs _ hl h => exact .ag vs _ (by simpa using hl) (relmap (fun v c h => h.kill1 d) h)
    | per h => cases h with
      | ag vs _ hl h => exact .ag vs _ (by simpa using hl) (relmap (fun v c h => Rep.kill1 d (.per h)) h)
  | _ => exact h.kill1 d
theorem Rep.kill {v : Value} {s : SV} (d : Nat) (h : Rep ρ S w v s) : Rep ρ S w v (s.kill d) := by
  cases s with
  | tu cs =>
    cases h with
    | tu vs _ hl h => exact .tu vs _ (by simpa using hl) (relmap (fun v c h => h.kill2 d) h)
    | per h => cases h with
      | tu vs _ hl h => exact .tu vs _ (by simpa using hl) (relmap (fun v c h => Rep.kill2 d (.per h)) h)
  | cn c s =>
    cases h with
    | cn _ _ _ h h0 => exact .cn v c _ (fun hc => (h hc).kill2 d) h0
    | per h => cases h
  | _ => exact h.kill2 d
end

end Go.Vcg
/- Named blocks; states; a state that holds of a frame and a world. -/
namespace Go.Vcg

/-- What a named block holds: rows of k cells; the entries of a map. -/
inductive Bk where
  | c (k : Nat) (rows : Rows)
  | m (es : List (Value × SV))

def killRows (d : Nat) (rows : Rows) : Rows := rows.map fun r => r.map (SV.kill1 d)
def killE (d : Nat) (es : List (Value × SV)) : List (Value × SV) := es.map fun e => (e.1, e.2.kill1 d)
def Bk.kill (d : Nat) : Bk → Bk
  | .c k rows => .c k (killRows d rows)
  | .m es => .m (killE d es)

/-- A deferred call: the function, the arguments and what is bound behind them. -/
structure Dfd where
  f : Nat
  vs : List SV
def Dfd.mp (g : SV → SV) (D : Dfd) : Dfd := ⟨D.f, D.vs.map g⟩
def Dfd.sh (D : Dfd) : Option (Nat × Nat) := some (D.f, D.vs.length)
def dsh (d : Deferred) : Option (Nat × Nat) := match d.target with
  | .fn (.func f) cap => some (f, d.args.size + cap.size)
  | _ => none
def dvals (d : Deferred) : List Value := match d.target with
  | .fn _ cap => d.args.toList ++ cap.toList
  | _ => []
def dval (ds : List Deferred) (i j : Nat) : Value := ((ds[i]?).bind fun d => (dvals d)[j]?).getD undef

/-- n: the number of slots; sl: the slots; bl: the named blocks; df: the deferred calls. -/
structure St where
  n : Nat
  sl : List (Nat × SV)
  bl : List (Nat × Bk)
  df : List Dfd

def St.get (st : St) (t : Nat) : SV := (st.sl.lookup t).getD .dead
def St.set (st : St) (t : Nat) (s : SV) : St := { st with sl := (t, s) :: st.sl }
def St.blk (st : St) (b : Nat) : Option Bk := st.bl.lookup b
def St.dget (st : St) (i j : Nat) : SV := ((st.df[i]?).bind fun D => D.vs[j]?).getD .dead
def St.setBlk (st : St) (b : Nat) (r : Bk) : St := { st with bl := (b, r) :: st.bl }
/-- A name is forgotten everywhere. -/
def St.kill (st : St) (d : Nat) : St :=
  { n := st.n, sl := st.sl.map fun p => (p.1, p.2.kill d), bl := (st.bl.filter fun p => p.1 != d).map fun p => (p.1, p.2.kill d), df := st.df.map (Dfd.mp (SV.kill d)) }

theorem lookup_cons_if {α : Type} (l : List (Nat × α)) (t u : Nat) (s : α) : ((t, s) :: l).lookup u = if u = t then some s else l.lookup u := by
  by_cases h : u = t
  · subst h; simp
  · simp [List.lookup_cons, h, beq_eq_false_iff_ne.mpr h]
theorem St.get_set (st : St) (t u : Nat) (s : SV) : (st.set t s).get u = if u = t then s else st.get u := by
  unfold St.get St.set
  rw [lookup_cons_if]
  split <;> rfl
theorem St.blk_setBlk (st : St) (b x : Nat) (r : Bk) : (st.setBlk b r).blk x = if x = b then some r else st.blk x := lookup_cons_if ..
theorem lookup_map_snd {α β : Type} (l : List (Nat × α)) (f : α → β) (u : Nat) : (l.map fun p => (p.1, f p.2)).lookup u = (l.lookup u).map f := by
  induction l with
  | nil => rfl
  | cons p l ih =>
    obtain ⟨t, s⟩ := p
    rw [List.map_cons, lookup_cons_if, lookup_cons_if, ih]
    split <;> rfl
theorem lookup_filter_ne {α : Type} (l : List (Nat × α)) (d u : Nat) : (l.filter fun p => p.1 != d).lookup u = if u = d then none else l.lookup u := by
  induction l with
  | nil => simp
  | cons p l ih =>
    obtain ⟨t, s⟩ := p
    by_cases h : t = d
    · subst h
      simp only [List.filter_cons, bne_self_eq_false, Bool.false_eq_true, if_false]
      rw [ih, lookup_cons_if]
      by_cases e : u = t
      · rw [if_pos e, if_pos e]
      · rw [if_neg e, if_neg e, if_neg e]
    · have h2 : (t != d) = true := by simpa using h
      simp only [List.filter_cons, h2, if_true]
      rw [lookup_cons_if, ih, lookup_cons_if]
      by_cases e : u = t
      · subst e; rw [if_pos rfl, if_pos rfl, if_neg h]
      · rw [if_neg e, if_neg e]
theorem St.get_kill (st : St) (d t : Nat) : (st.kill d).get t = (st.get t).kill d := by
  unfold St.get St.kill
  simp only [lookup_map_snd]
  cases st.sl.lookup t <;> rfl
theorem dget_mp (l : List Dfd) (g : SV → SV) (hg : g .dead = .dead) (i j : Nat) : (((l.map (Dfd.mp g))[i]?).bind fun D => D.vs[j]?).getD .dead = g (((l[i]?).bind fun D => D.vs[j]?).getD .dead) := by
  rw [List.getElem?_map]
  cases l[i]? with
  | none => exact hg.symm
  | some D =>
    simp only [Option.map_some, Option.bind_some, Dfd.mp, List.getElem?_map]
    cases D.vs[j]? with
    | none => exact hg.symm
    | some s => rfl
theorem sh_mp (l : List Dfd) (g : SV → SV) : (l.map (Dfd.mp g)).map Dfd.sh = l.map Dfd.sh := by
  rw [List.map_map]
  congr 1
  funext D
  simp [Dfd.mp, Dfd.sh]
theorem St.dget_kill (st : St) (d i j : Nat) : (st.kill d).dget i j = (st.dget i j).kill d := dget_mp st.df (SV.kill d) rfl i j
theorem St.blk_kill (st : St) (d b : Nat) : (st.kill d).blk b = if b = d then none else (st.blk b).map (Bk.kill d) := by
  unfold St.blk St.kill
  simp only [lookup_map_snd, lookup_filter_ne]
  split <;> rfl

/-- A cell of a named block: it may name other blocks, or own what it stands for. -/
def CRep (ρ : Nat → Option Loc) (S : Nat → Prop) (w : World) (v : Value) (c : SV) (F : Nat → Prop) : Prop := Rep ρ S w v c ∨ RepO S w v c F

structure CellsAt (ρ : Nat → Option Loc) (S : Nat → Prop) (w : World) (l : Loc) (rows : Rows) (F : Nat → Prop) : Prop where
  free : ∀ o, w.frozen? ⟨l.blk, o, none⟩ = false
  len : ∀ (i : Nat) (r : List SV), rows[i]? = some r → r.length = l.esz
  long : rows.length = l.len
  cell : ∃ G : Nat → Nat → Nat → Prop, (∀ i j x, G i j x → F x) ∧ (∀ i j i' j' x, G i j x → G i' j' x → i = i' ∧ j = j') ∧
    ∀ (i : Nat) (r : List SV) (j : Nat) (c : SV), rows[i]? = some r → r[j]? = some c → ∃ v, w.cell? (l.addr i j) = some v ∧ v.oneCell' = true ∧ CRep ρ S w v c (G i j)
structure MapAt (ρ : Nat → Option Loc) (S : Nat → Prop) (w : World) (l : Loc) (es : List (Value × SV)) (F : Nat → Prop) : Prop where
  ex : ∃ (ents : Array MapEntry) (clk : Nat) (vs : List Value) (G : Nat → Nat → Prop), w.heap[l.blk]? = some (.map ents clk) ∧ EntriesOf ents ((es.map (·.1)).zip vs) ∧ vs.length = es.length ∧ (∀ i x, G i x → F x) ∧ (∀ i j x, G i x → G j x → i = j) ∧
    ∀ (i : Nat) (v : Value) (e : Value × SV), vs[i]? = some v → es[i]? = some e → CRep ρ S w v e.2 (G i)

def BkOk (ρ : Nat → Option Loc) (S : Nat → Prop) (w : World) (F : Nat → Prop) (b : Nat) : Bk → Prop
  | .c k rows => (ρ b = none ∧ rows = []) ∨ ∃ l, ρ b = some l ∧ l.esz = k ∧ CellsAt ρ S w l rows F
  | .m es => ∃ l, ρ b = some l ∧ MapAt ρ S w l es F

/-- What belongs to a name. -/
def owns (ρ : Nat → Option Loc) (φ : Nat → Nat → Prop) (b x : Nat) : Prop := (∃ l, ρ b = some l ∧ l.blk = x) ∨ φ b x

theorem owns_ne {ρ : Nat → Option Loc} {φ : Nat → Nat → Prop} {d b x : Nat} {l : Option Loc} {F : Nat → Prop} (h : b ≠ d) : owns (fun x => if x = d then l else ρ x) (fun x => if x = d then F else φ x) b x ↔ owns ρ φ b x := by
  unfold owns; simp only [if_neg h]
theorem owns_same {ρ : Nat → Option Loc} {φ : Nat → Nat → Prop} {d x : Nat} {l : Option Loc} {F : Nat → Prop} : owns (fun x => if x = d then l else ρ x) (fun x => if x = d then F else φ x) d x ↔ (∃ l', l = some l' ∧ l'.blk = x) ∨ F x := by
  unfold owns; simp only [if_true]

/-- Named blocks, in memory. -/
structure HOk (ρ : Nat → Option Loc) (φ : Nat → Nat → Prop) (S : Nat → Prop) (w : World) (B : Nat → Option Bk) : Prop where
  blk : ∀ b k, B b = some k → BkOk ρ S w (φ b) b k
  inj : ∀ b b' x, B b ≠ none → B b' ≠ none → owns ρ φ b x → owns ρ φ b' x → b = b'
  self : ∀ b l, B b ≠ none → ρ b = some l → ¬ φ b l.blk
  notS : ∀ b x, B b ≠ none → owns ρ φ b x → ¬ S x
  lt : ∀ b x, B b ≠ none → owns ρ φ b x → x < w.heap.size

inductive Bk.Names : Bk → Nat → Prop
  | c (k : Nat) (rows : Rows) (r : List SV) (c : SV) (x : Nat) (hr : r ∈ rows) (hc : c ∈ r) (h : c.Names x) : Bk.Names (.c k rows) x
  | m (es : List (Value × SV)) (e : Value × SV) (x : Nat) (he : e ∈ es) (h : e.2.Names x) : Bk.Names (.m es) x

section
variable {ρ ρ' : Nat → Option Loc} {φ φ' : Nat → Nat → Prop} {S S' : Nat → Prop} {w w' : World} {F F' : Nat → Prop}

theorem CRep.mono {v : Value} {c : SV} (h : CRep ρ S w v c F) (hS : ∀ i, S i → S' i) (hsz : w.heap.size ≤ w'.heap.size) (hw : ∀ i, S i ∨ F i → i < w.heap.size → w'.heap[i]? = w.heap[i]?) (hb : ∀ i, S i → i < w.heap.size)
    (hn : ∀ b, c.Names b → ρ' b = ρ b) (hz : ∀ x, rowSize w x ≤ rowSize w' x) (hF : ∀ x, F x → F' x) : CRep ρ' S' w' v c F' := by
  rcases h with h | h
  · exact .inl (h.mono hS (fun i hi => hw i (.inl hi) (hb i hi)) hn hz)
  · exact .inr ((h.mono hS hsz hw hb).sub hF)

theorem CellsAt.mono {l : Loc} {rows : Rows} (h : CellsAt ρ S w l rows F) (hS : ∀ i, S i → S' i) (hsz : w.heap.size ≤ w'.heap.size) (hl : w'.heap[l.blk]? = w.heap[l.blk]?) (hw : ∀ i, S i ∨ F i → i < w.heap.size → w'.heap[i]? = w.heap[i]?) (hb : ∀ i, S i → i < w.heap.size)
    (hn : ∀ r ∈ rows, ∀ c ∈ r, ∀ b, c.Names b → ρ' b = ρ b) (hz : ∀ x, rowSize w x ≤ rowSize w' x) (hF : ∀ x, F x → F' x) : CellsAt ρ' S' w' l rows F' := by
  refine ⟨fun o => by rw [frozen_congr hl]; exact h.free o, h.len, h.long, ?_⟩
  obtain ⟨G, h1, h2, h3⟩ := h.cell
  refine ⟨G, fun i j x g => hF x (h1 i j x g), h2, fun i r j c g1 g2 => ?_⟩
  obtain ⟨v, e1, e2, e3⟩ := h3 i r j c g1 g2
  refine ⟨v, by rw [cell_congr hl]; exact e1, e2, e3.mono hS hsz (fun x hx => hw x (hx.imp id (h1 i j x))) hb (hn r (List.mem_of_getElem? g1) c (List.mem_of_getElem? g2)) hz fun _ h => h⟩
theorem MapAt.mono {l : Loc} {es : List (Value × SV)} (h : MapAt ρ S w l es F) (hS : ∀ i, S i → S' i) (hsz : w.heap.size ≤ w'.heap.size) (hl : w'.heap[l.blk]? = w.heap[l.blk]?) (hw : ∀ i, S i ∨ F i → i < w.heap.size → w'.heap[i]? = w.heap[i]?) (hb : ∀ i, S i → i < w.heap.size)
    (hn : ∀ e ∈ es, ∀ b, e.2.Names b → ρ' b = ρ b) (hz : ∀ x, rowSize w x ≤ rowSize w' x) (hF : ∀ x, F x → F' x) : MapAt ρ' S' w' l es F' := by
  obtain ⟨ents, clk, vs, G, h0, h1, h2, h3, h4, h5⟩ := h.ex
  refine ⟨ents, clk, vs, G, by rw [hl]; exact h0, h1, h2, fun i x g => hF x (h3 i x g), h4, fun i v e g1 g2 => ?_⟩
  exact (h5 i v e g1 g2).mono hS hsz (fun x hx => hw x (hx.imp id (h3 i x))) hb (hn e (List.mem_of_getElem? g2)) hz fun _ h => h
theorem BkOk.mono {b : Nat} {k : Bk} (h : BkOk ρ S w F b k) (hρ : ρ' b = ρ b) (hS : ∀ i, S i → S' i) (hsz : w.heap.size ≤ w'.heap.size) (hl : ∀ l, ρ b = some l → w'.heap[l.blk]? = w.heap[l.blk]?) (hw : ∀ i, S i ∨ F i → i < w.heap.size → w'.heap[i]? = w.heap[i]?) (hb : ∀ i, S i → i < w.heap.size)
    (hn : ∀ x, k.Names x → ρ' x = ρ x) (hz : ∀ x, rowSize w x ≤ rowSize w' x) (hF : ∀ x, F x → F' x) : BkOk ρ' S' w' F' b k := by
  cases k with
  | c k rows =>
    rcases h with ⟨h1, h2⟩ | ⟨l, h1, h2, h3⟩
    · exact .inl ⟨hρ.trans h1, h2⟩
    · exact .inr ⟨l, hρ.trans h1, h2, h3.mono hS hsz (hl l h1) hw hb (fun r hr c hc x hx => hn x (.c k rows r c x hr hc hx)) hz hF⟩
  | m es =>
    obtain ⟨l, h1, h2⟩ := h
    exact ⟨l, hρ.trans h1, h2.mono hS hsz (hl l h1) hw hb (fun e he x hx => hn x (.m es e x he hx)) hz hF⟩

theorem killRows_get {d : Nat} {rows : Rows} {i : Nat} {r : List SV} (h : (killRows d rows)[i]? = some r) : ∃ r', rows[i]? = some r' ∧ r = r'.map (SV.kill1 d) := by
  unfold killRows at h
  rw [List.getElem?_map, Option.map_eq_some_iff] at h
  obtain ⟨r', h1, h2⟩ := h
  exact ⟨r', h1, h2.symm⟩
theorem CRep.kill1 {v : Value} {c : SV} (d : Nat) (h : CRep ρ S w v c F) : CRep ρ S w v (c.kill1 d) F := by
  rcases h with h | h
  · exact .inl (h.kill1 d)
  · cases c with
    | ifc t s =>
      cases h with
      | per h => exact .inl (Rep.kill1 d (.per h))
      | ifc _ h =>
        rw [SV.kill1]
        cases s with
        | ifc _ _ => exact .inl (.ifc t (.dead _))
        | fn _ _ _ => exact .inl (.ifc t (.dead _))
        | ag _ => exact .inl (.ifc t (.dead _))
        | tu _ => exact .inl (.ifc t (.dead _))
        | cn _ _ => exact .inl (.ifc t (.dead _))
        | sl _ _ _ => cases h with | per h => cases h
        | sa _ _ _ _ _ => cases h with | per h => cases h
        | pt _ _ _ => cases h with | per h => cases h
        | mr _ => cases h with | per h => cases h
        | _ => exact .inr (.ifc t h)
    | fn f a b => cases h with | per h => exact .inl (Rep.kill1 d (.per h))
    | ag _ => exact .inl (.dead _)
    | tu _ => exact .inl (.dead _)
    | cn _ _ => exact .inl (.dead _)
    | sl _ _ _ => cases h with | per h => cases h
    | sa _ _ _ _ _ => cases h with | per h => cases h
    | pt _ _ _ => cases h with | per h => cases h
    | mr _ => cases h with | per h => cases h
    | _ => exact .inr h
theorem BkOk.kill {b : Nat} {k : Bk} (d : Nat) (h : BkOk ρ S w F b k) : BkOk ρ S w F b (k.kill d) := by
  cases k with
  | c k rows =>
    rcases h with ⟨h1, h2⟩ | ⟨l, h1, h2, h3⟩
    · exact .inl ⟨h1, by subst h2; rfl⟩
    · refine .inr ⟨l, h1, h2, h3.free, fun i r g => ?_, by unfold killRows; simpa using h3.long, ?_⟩
      · obtain ⟨r', g', rfl⟩ := killRows_get g
        simpa using h3.len i r' g'
      · obtain ⟨G, e1, e2, e3⟩ := h3.cell
        refine ⟨G, e1, e2, fun i r j c g1 g2 => ?_⟩
        obtain ⟨r', g3, rfl⟩ := killRows_get g1
        rw [List.getElem?_map, Option.map_eq_some_iff] at g2
        obtain ⟨c', g4, rfl⟩ := g2
        obtain ⟨v, f1, f2, f3⟩ := e3 i r' j c' g3 g4
        exact ⟨v, f1, f2, f3.kill1 d⟩
  | m es =>
    obtain ⟨l, h1, h2⟩ := h
    obtain ⟨ents, clk, vs, G, e0, e1, e2, e3, e4, e5⟩ := h2.ex
    refine ⟨l, h1, ents, clk, vs, G, e0, ?_, by unfold killE; simpa using e2, e3, e4, fun i v e g1 g2 => ?_⟩
    · unfold killE; rw [List.map_map]; exact e1
    · unfold killE at g2
      rw [List.getElem?_map, Option.map_eq_some_iff] at g2
      obtain ⟨c', g2, rfl⟩ := g2
      exact (e5 i v c' g1 g2).kill1 d
theorem Bk.kill_names {d x : Nat} {k : Bk} (h : (k.kill d).Names x) : x ≠ d ∧ k.Names x := by
  cases k with
  | c k rows =>
    cases h with
    | c _ _ r c _ hr hc h =>
      unfold killRows at hr
      obtain ⟨r', hr', rfl⟩ := List.mem_map.mp hr
      obtain ⟨c', hc', rfl⟩ := List.mem_map.mp hc
      exact ⟨(SV.kill1_names h).1, .c k rows r' c' x hr' hc' (SV.kill1_names h).2⟩
  | m es =>
    cases h with
    | m _ e _ he h =>
      unfold killE at he
      obtain ⟨e', he', rfl⟩ := List.mem_map.mp he
      exact ⟨(SV.kill1_names h).1, .m es e' x he' (SV.kill1_names h).2⟩
end

/-- may: what may be written, of the blocks that were there; pin: what the names from 1000000 to 1999999 stand for, for good; wr: the names that may be written; ro: the blocks of the others. -/
structure Perm where
  may : Nat → Prop
  pin : Nat → Option Loc
  wr : Nat → Prop
  ro : Nat → Nat → Prop
instance : CoeFun Perm (fun _ => Nat → Prop) := ⟨Perm.may⟩

def isPin (b : Nat) : Prop := 1000000 ≤ b ∧ b < 2000000
instance (b : Nat) : Decidable (isPin b) := by unfold isPin; infer_instance

/-- The world around is left alone: the system, the tape, what has been printed. -/
def IOk (w w' : World) : Prop := w'.os = w.os ∧ w'.tape = w.tape ∧ w'.output = w.output
theorem IOk.refl (w : World) : IOk w w := ⟨rfl, rfl, rfl⟩
theorem IOk.trans {w w' w'' : World} (h : IOk w w') (h' : IOk w' w'') : IOk w w'' := ⟨h'.1.trans h.1, h'.2.1.trans h.2.1, h'.2.2.trans h.2.2⟩

/-- The state holds of the frame and the world; w0: the world at the call; M: the blocks of that world that the call may write. -/
structure Sim (w0 : World) (M : Perm) (S0 : Nat → Prop) (ρ : Nat → Option Loc) (φ : Nat → Nat → Prop) (S : Nat → Prop) (st : St) (a : Act) (w : World) : Prop where
  size : a.tmps.size = st.n
  defers : a.defers.map dsh = st.df.map Dfd.sh
  slot : ∀ t, Rep ρ S w (a.tmps.getD t undef) (st.get t)
  dslot : ∀ i j, Rep ρ S w (dval a.defers i j) (st.dget i j)
  heap : HOk ρ φ S w st.blk
  sb : ∀ i, S i → i < w.heap.size
  base : ∀ i, S0 i → S i
  from_ : ∀ i, S i → S0 i ∨ M i ∨ w0.heap.size ≤ i ∨ ∃ b, M.ro b i
  grow : w0.heap.size ≤ w.heap.size
  keep : ∀ i, i < w0.heap.size → ¬ M i → w.heap[i]? = w0.heap[i]?
  own : ∀ b x, st.blk b ≠ none → owns ρ φ b x → (M x ∨ w0.heap.size ≤ x) ∨ (¬ M.wr b ∧ M.ro b x)
  pin : ∀ b, isPin b → st.blk b ≠ none → ρ b = M.pin b
  small : st.n ≤ 1000000
  wide : IOk w0 w ∧ ∀ x, rowSize w0 x ≤ rowSize w x

/-- The state holds, whatever the names stand for. -/
def Holds (w0 : World) (M : Perm) (S0 : Nat → Prop) (st : St) (a : Act) (w : World) : Prop := ∃ ρ φ S, Sim w0 M S0 ρ φ S st a w

variable {w0 : World} {M : Perm} {S0 : Nat → Prop} {ρ : Nat → Option Loc} {φ : Nat → Nat → Prop} {S : Nat → Prop} {st : St} {a : Act} {w : World}

theorem getD_put (a : Act) (d t : Nat) (v : Value) (hd : d < a.tmps.size) : (a.put (some d) v).tmps.getD t undef = if t = d then v else a.tmps.getD t undef := by
  show (a.tmps.setIfInBounds d v).getD t undef = _
  simp only [Array.getD_eq_getD_getElem?, Array.getElem?_setIfInBounds]
  by_cases h : d = t
  · subst h; simp [hd]
  · rw [if_neg h, if_neg (fun e => h e.symm)]

theorem Sim.setSlot (h : Sim w0 M S0 ρ φ S st a w) {d : Nat} {v : Value} {s : SV} (hd : d < st.n) (hr : Rep ρ S w v s) : Sim w0 M S0 ρ φ S (st.set d s) (a.put (some d) v) w := by
  refine ⟨by simpa [Act.put, St.set] using h.size, h.defers, fun t => ?_, h.dslot, h.heap, h.sb, h.base, h.from_, h.grow, h.keep, h.own, h.pin, h.small, h.wide⟩
  rw [getD_put a d t v (by rw [h.size]; exact hd), St.get_set]
  split
  · exact hr
  · exact h.slot t

/-- A slot is read otherwise. -/
theorem Sim.reslot (h : Sim w0 M S0 ρ φ S st a w) (t : Nat) {s : SV} (hr : Rep ρ S w (a.tmps.getD t undef) s) : Sim w0 M S0 ρ φ S (st.set t s) a w := by
  refine ⟨h.size, h.defers, fun u => ?_, h.dslot, h.heap, h.sb, h.base, h.from_, h.grow, h.keep, h.own, h.pin, h.small, h.wide⟩
  rw [St.get_set]
  split
  · rename_i e; subst e; exact hr
  · exact h.slot u

theorem HOk.later {B : Nat → Option Bk} {w' : World} (h : HOk ρ φ S w B) (hsb : ∀ i, S i → i < w.heap.size) (hsz : w.heap.size ≤ w'.heap.size) (hk : ∀ i, (S i ∨ ∃ b, B b ≠ none ∧ owns ρ φ b i) → i < w.heap.size → w'.heap[i]? = w.heap[i]?) (hz : ∀ x, rowSize w x ≤ rowSize w' x) : HOk ρ φ S w' B := by
  refine ⟨fun b k hb => ?_, h.inj, h.self, h.notS, fun b x hb hx => Nat.lt_of_lt_of_le (h.lt b x hb hx) hsz⟩
  have hne : B b ≠ none := by rw [hb]; simp
  exact (h.blk b k hb).mono rfl (fun _ h => h) hsz (fun l hl => hk _ (.inr ⟨b, hne, .inl ⟨l, hl, rfl⟩⟩) (h.lt b _ hne (.inl ⟨l, hl, rfl⟩))) (fun i hi => hk i (hi.imp id fun g => ⟨b, hne, .inr g⟩)) hsb (fun _ _ => rfl) hz (fun _ h => h)

theorem rowSize_later {w w' : World} (hk : ∀ i, i < w.heap.size → w'.heap[i]? = w.heap[i]?) (x : Nat) : rowSize w x ≤ rowSize w' x := by
  by_cases hx : x < w.heap.size
  · rw [rowSize_congr (hk x hx)]; exact Nat.le_refl _
  · unfold rowSize; rw [Array.getElem?_eq_none (by omega)]; exact Nat.zero_le _

/-- Memory may be added. -/
theorem Sim.later {w' : World} (h : Sim w0 M S0 ρ φ S st a w) (hsz : w.heap.size ≤ w'.heap.size) (hk : ∀ i, i < w.heap.size → w'.heap[i]? = w.heap[i]?) (hio : IOk w w' := by exact ⟨rfl, rfl, rfl⟩) : Sim w0 M S0 ρ φ S st a w' := by
  have hz := rowSize_later hk
  refine ⟨h.size, h.defers, fun t => (h.slot t).mono (fun _ h => h) (fun i hi => hk i (h.sb i hi)) (fun _ _ => rfl) hz, fun i j => (h.dslot i j).mono (fun _ h => h) (fun i hi => hk i (h.sb i hi)) (fun _ _ => rfl) hz, h.heap.later h.sb hsz (fun i _ hi => hk i hi) hz, fun i hi => Nat.lt_of_lt_of_le (h.sb i hi) hsz, h.base, h.from_,
    Nat.le_trans h.grow hsz, fun i h1 h2 => (hk i (Nat.lt_of_lt_of_le h1 h.grow)).trans (h.keep i h1 h2), h.own, h.pin, h.small, h.wide.1.trans hio, fun x => Nat.le_trans (h.wide.2 x) (hz x)⟩

theorem Sim.drew (h : Sim w0 M S0 ρ φ S st a w) : Sim w0 M S0 ρ φ S st a { w with drawn := w.drawn + 1 } := h.later (Nat.le_refl _) fun _ _ => rfl

theorem blk_kill_ne {d b : Nat} {k : Bk} (h : (st.kill d).blk b = some k) : b ≠ d ∧ ∃ k', st.blk b = some k' ∧ k = k'.kill d := by
  rw [St.blk_kill] at h
  split at h
  · cases h
  · rw [Option.map_eq_some_iff] at h
    obtain ⟨k', h1, h2⟩ := h
    exact ⟨by assumption, k', h1, h2.symm⟩
theorem blk_kill_has {d b : Nat} (h : (st.kill d).blk b ≠ none) : b ≠ d ∧ st.blk b ≠ none := by
  obtain ⟨k, hk⟩ := Option.ne_none_iff_exists'.mp h
  obtain ⟨h1, k', h2, _⟩ := blk_kill_ne hk
  exact ⟨h1, by rw [h2]; simp⟩

/-- A name is forgotten. -/
theorem Sim.kill (h : Sim w0 M S0 ρ φ S st a w) (d : Nat) : Sim w0 M S0 ρ φ S (st.kill d) a w := by
  refine ⟨h.size, h.defers.trans (sh_mp st.df _).symm, fun t => by rw [St.get_kill]; exact (h.slot t).kill d, fun i j => by rw [St.dget_kill]; exact (h.dslot i j).kill d, ⟨fun b k hb => ?_, fun b b' x h1 h2 => h.heap.inj b b' x (blk_kill_has h1).2 (blk_kill_has h2).2, fun b l h1 => h.heap.self b l (blk_kill_has h1).2,
    fun b x h1 => h.heap.notS b x (blk_kill_has h1).2, fun b x h1 => h.heap.lt b x (blk_kill_has h1).2⟩, h.sb, h.base, h.from_, h.grow, h.keep, fun b x h1 => h.own b x (blk_kill_has h1).2, fun b h1 h2 => h.pin b h1 (blk_kill_has h2).2, h.small, h.wide⟩
  obtain ⟨_, k', h1, rfl⟩ := blk_kill_ne hb
  exact (h.heap.blk b k' h1).kill d

/-- Nothing in the state bears the name. -/
def St.Free (st : St) (d : Nat) : Prop := st.blk d = none ∧ ((∀ t, ¬ (st.get t).Names d) ∧ ∀ i j, ¬ (st.dget i j).Names d) ∧ ∀ b k, st.blk b = some k → ¬ k.Names d
theorem St.kill_free (st : St) (d : Nat) : (st.kill d).Free d :=
  ⟨by rw [St.blk_kill, if_pos rfl], ⟨fun t h => by rw [St.get_kill] at h; exact (SV.kill_names h).1 rfl, fun i j h => by rw [St.dget_kill] at h; exact (SV.kill_names h).1 rfl⟩, fun b k hb h => by
    obtain ⟨_, k', _, rfl⟩ := blk_kill_ne hb
    exact (Bk.kill_names h).1 rfl⟩

/-- A free name may stand for anything. -/
theorem Sim.rename (h : Sim w0 M S0 ρ φ S st a w) {d : Nat} (hf : st.Free d) (l : Option Loc) (F : Nat → Prop) : Sim w0 M S0 (fun x => if x = d then l else ρ x) (fun x => if x = d then F else φ x) S st a w := by
  have hρ : ∀ x, x ≠ d → (fun x => if x = d then l else ρ x) x = ρ x := fun x hx => if_neg hx
  have hne : ∀ b, st.blk b ≠ none → b ≠ d := fun b hb e => hb (e ▸ hf.1)
  have ho : ∀ b x, st.blk b ≠ none → owns (fun x => if x = d then l else ρ x) (fun x => if x = d then F else φ x) b x → owns ρ φ b x := fun b x hb hx => by
    exact (owns_ne (hne b hb)).mp hx
  refine ⟨h.size, h.defers, fun t => (h.slot t).mono (fun _ h => h) (fun _ _ => rfl) (fun b hb => hρ b fun e => hf.2.1.1 t (e ▸ hb)) (fun _ => Nat.le_refl _), fun i j => (h.dslot i j).mono (fun _ h => h) (fun _ _ => rfl) (fun b hb => hρ b fun e => hf.2.1.2 i j (e ▸ hb)) (fun _ => Nat.le_refl _), ⟨fun b k hb => ?_, fun b b' x h1 h2 e1 e2 => h.heap.inj b b' x h1 h2 (ho b x h1 e1) (ho b' x h2 e2), fun b l' h1 e1 => ?_,
    fun b x h1 e1 => h.heap.notS b x h1 (ho b x h1 e1), fun b x h1 e1 => h.heap.lt b x h1 (ho b x h1 e1)⟩, h.sb, h.base, h.from_, h.grow, h.keep, fun b x h1 e1 => h.own b x h1 (ho b x h1 e1), fun b h1 h2 => ?_, h.small, h.wide⟩
  · have hb' : st.blk b ≠ none := by rw [hb]; simp
    simp only [if_neg (hne b hb')]
    exact (h.heap.blk b k hb).mono (hρ b (hne b hb')) (fun _ h => h) (Nat.le_refl _) (fun _ _ => rfl) (fun _ _ _ => rfl) h.sb (fun x hx => hρ x fun e => hf.2.2 b k hb (e ▸ hx)) (fun _ => Nat.le_refl _) (fun _ h => h)
  · simp only [if_neg (hne b h1)] at e1 ⊢
    exact h.heap.self b l' h1 e1
  · simp only [if_neg (hne b h2)]; exact h.pin b h1 h2

/-- A new block under a name that is free. -/
theorem Sim.addBlk (h : Sim w0 M S0 ρ φ S st a w) {d : Nat} {k : Bk} (hd : st.blk d = none) (hp : ¬ isPin d) (hb : BkOk ρ S w (φ d) d k) (hi : ∀ b x, st.blk b ≠ none → owns ρ φ b x → ¬ owns ρ φ d x) (hs : ∀ l, ρ d = some l → ¬ φ d l.blk)
    (hS : ∀ x, owns ρ φ d x → ¬ S x) (hl : ∀ x, owns ρ φ d x → x < w.heap.size) (ho : ∀ x, owns ρ φ d x → M x ∨ w0.heap.size ≤ x) : Sim w0 M S0 ρ φ S (st.setBlk d k) a w := by
  have hh : ∀ b, (st.setBlk d k).blk b ≠ none → b = d ∨ st.blk b ≠ none := fun b hr => by
    rw [St.blk_setBlk] at hr
    by_cases e : b = d
    · exact .inl e
    · rw [if_neg e] at hr; exact .inr hr
  refine ⟨h.size, h.defers, h.slot, h.dslot, ⟨fun b r hr => ?_, fun b b' x h1 h2 e1 e2 => ?_, fun b l h1 => ?_, fun b x h1 => ?_, fun b x h1 => ?_⟩, h.sb, h.base, h.from_, h.grow, h.keep, fun b x h1 e1 => ?_, fun b h1 h2 => ?_, h.small, h.wide⟩
  · rw [St.blk_setBlk] at hr
    by_cases e : b = d
    · rw [if_pos e] at hr; obtain rfl := Option.some.inj hr; subst e; exact hb
    · rw [if_neg e] at hr; exact h.heap.blk b r hr
  · rcases hh b h1 with g1 | g1 <;> rcases hh b' h2 with g2 | g2
    · exact g1.trans g2.symm
    · subst g1; exact absurd e1 (hi b' x g2 e2)
    · subst g2; exact absurd e2 (hi b x g1 e1)
    · exact h.heap.inj b b' x g1 g2 e1 e2
  · rcases hh b h1 with rfl | g
    · exact hs l
    · exact h.heap.self b l g
  · rcases hh b h1 with rfl | g
    · exact hS x
    · exact h.heap.notS b x g
  · rcases hh b h1 with rfl | g
    · exact hl x
    · exact h.heap.lt b x g
  · rcases hh b h1 with rfl | g
    · exact .inl (ho x e1)
    · exact h.own b x g e1
  · rcases hh b h2 with rfl | g
    · exact absurd h1 hp
    · exact h.pin b h1 g

/-- A block turns, and what is said of it. -/
theorem Sim.turn {w' : World} (h : Sim w0 M S0 ρ φ S st a w) {b : Nat} (hw : M.wr b) {l : Loc} {k k' : Bk} (hb : st.blk b = some k) (hl : ρ b = some l) (hsz : w'.heap.size = w.heap.size) (hk : ∀ i, i ≠ l.blk → w'.heap[i]? = w.heap[i]?)
    (hz : rowSize w l.blk ≤ rowSize w' l.blk) (hok : BkOk ρ S w' (φ b) b k') (hio : IOk w w' := by exact ⟨rfl, rfl, rfl⟩) : Sim w0 M S0 ρ φ S (st.setBlk b k') a w' := by
  have hne : st.blk b ≠ none := by rw [hb]; simp
  have ho : owns ρ φ b l.blk := .inl ⟨l, hl, rfl⟩
  have hnS := h.heap.notS b _ hne ho
  have hz' : ∀ x, rowSize w x ≤ rowSize w' x := fun x => by
    by_cases e : x = l.blk
    · subst e; exact hz
    · rw [rowSize_congr (hk x e)]; exact Nat.le_refl _
  have hh : ∀ x, (st.setBlk b k').blk x ≠ none → st.blk x ≠ none := fun x hx => by
    rw [St.blk_setBlk] at hx
    by_cases e : x = b
    · subst e; exact hne
    · rw [if_neg e] at hx; exact hx
  refine ⟨h.size, h.defers, fun t => (h.slot t).mono (fun _ h => h) (fun i hi => hk i fun e => hnS (e ▸ hi)) (fun _ _ => rfl) hz', fun i j => (h.dslot i j).mono (fun _ h => h) (fun i hi => hk i fun e => hnS (e ▸ hi)) (fun _ _ => rfl) hz', ⟨fun x r hr => ?_, fun x x' y h1 h2 => h.heap.inj x x' y (hh x h1) (hh x' h2), fun x l h1 => h.heap.self x l (hh x h1), fun x y h1 => h.heap.notS x y (hh x h1),
    fun x y h1 h2 => by rw [hsz]; exact h.heap.lt x y (hh x h1) h2⟩, fun i hi => by rw [hsz]; exact h.sb i hi, h.base, h.from_, by rw [hsz]; exact h.grow, fun i h1 h2 => ?_, fun x y h1 => h.own x y (hh x h1), fun x h1 h2 => h.pin x h1 (hh x h2), h.small, h.wide.1.trans hio, fun x => Nat.le_trans (h.wide.2 x) (hz' x)⟩
  · rw [St.blk_setBlk] at hr
    by_cases e : x = b
    · rw [if_pos e] at hr; obtain rfl := Option.some.inj hr; subst e; exact hok
    · rw [if_neg e] at hr
      have hx : st.blk x ≠ none := by rw [hr]; simp
      have hdis : ∀ y, owns ρ φ x y → y ≠ l.blk := fun y hy g => e (h.heap.inj x b y hx hne hy (g ▸ ho))
      exact (h.heap.blk x r hr).mono rfl (fun _ h => h) (by omega) (fun l' hl' => hk _ (hdis _ (.inl ⟨l', hl', rfl⟩))) (fun i hi _ => hk i (hi.elim (fun g e => hnS (e ▸ g)) fun g => hdis i (.inr g))) h.sb (fun _ _ => rfl) hz' (fun _ h => h)
  · rw [hk i ?_]
    · exact h.keep i h1 h2
    · rintro rfl
      rcases h.own b _ hne ho with (g | g) | g
      · exact h2 g
      · omega
      · exact g.1 hw

/-- A block of which the state does not speak turns. -/
theorem Sim.turnOff {w' : World} (h : Sim w0 M S0 ρ φ S st a w) (x : Nat) (hx : ¬ S x) (hn : ∀ b, st.blk b ≠ none → ¬ owns ρ φ b x) (hm : M x ∨ w0.heap.size ≤ x) (hsz : w'.heap.size = w.heap.size) (hk : ∀ i, i ≠ x → w'.heap[i]? = w.heap[i]?)
    (hz : rowSize w x ≤ rowSize w' x) (hio : IOk w w' := by exact ⟨rfl, rfl, rfl⟩) : Sim w0 M S0 ρ φ S st a w' := by
  have hz' : ∀ y, rowSize w y ≤ rowSize w' y := fun y => by
    by_cases e : y = x
    · subst e; exact hz
    · rw [rowSize_congr (hk y e)]; exact Nat.le_refl _
  refine ⟨h.size, h.defers, fun t => (h.slot t).mono (fun _ h => h) (fun i hi => hk i fun e => hx (e ▸ hi)) (fun _ _ => rfl) hz', fun i j => (h.dslot i j).mono (fun _ h => h) (fun i hi => hk i fun e => hx (e ▸ hi)) (fun _ _ => rfl) hz', h.heap.later h.sb (by omega) (fun i hi _ => hk i ?_) hz', fun i hi => by rw [hsz]; exact h.sb i hi, h.base, h.from_, by rw [hsz]; exact h.grow,
    fun i h1 h2 => ?_, h.own, h.pin, h.small, h.wide.1.trans hio, fun x => Nat.le_trans (h.wide.2 x) (hz' x)⟩
  · rintro rfl
    rcases hi with hi | ⟨b, hb, hi⟩
    · exact hx hi
    · exact hn b hb hi
  · rw [hk i ?_]
    · exact h.keep i h1 h2
    · rintro rfl
      rcases hm with g | g
      · exact h2 g
      · omega

theorem heap_alloc_old (w : World) (o : Obj) (i : Nat) (h : i < w.heap.size) : (w.alloc o).heap[i]? = w.heap[i]? := by
  show (w.heap.push o)[i]? = _
  rw [Array.getElem?_push, if_neg (by omega)]
theorem heap_alloc_at (w : World) (o : Obj) : (w.alloc o).heap[w.heap.size]? = some o := by
  show (w.heap.push o)[w.heap.size]? = _
  simp
theorem size_alloc (w : World) (o : Obj) : (w.alloc o).heap.size = w.heap.size + 1 := by
  show (w.heap.push o).size = _
  simp

/-- A new block in memory, under a name that is free; what it holds may own blocks of F that nobody else has. -/
theorem Sim.newBlk (h : Sim w0 M S0 ρ φ S st a w) {d : Nat} (hf : st.Free d) (hp : ¬ isPin d) (l : Loc) (hlb : l.blk = w.heap.size) (F : Nat → Prop) (k : Bk) (o : Obj)
    (hF1 : ∀ x, F x → ¬ S x ∧ x < w.heap.size ∧ (M x ∨ w0.heap.size ≤ x) ∧ ∀ b, st.blk b ≠ none → ¬ owns ρ φ b x)
    (hok : ∀ ρ', (∀ x, x ≠ d → ρ' x = ρ x) → ρ' d = some l → BkOk ρ' S (w.alloc o) F d k) : ∃ ρ' φ', Sim w0 M S0 ρ' φ' S (st.setBlk d k) a (w.alloc o) ∧ ρ' d = some l ∧ ∀ x, x ≠ d → ρ' x = ρ x := by
  have h1 := (h.later (w' := w.alloc o) (by rw [size_alloc]; omega) (fun i hi => heap_alloc_old w o i hi)).rename hf (some l) F
  refine ⟨_, _, h1.addBlk hf.1 hp ?_ ?_ ?_ ?_ ?_ ?_, if_pos rfl, fun x hx => if_neg hx⟩
  · simp only [if_true]; exact hok _ (fun x hx => if_neg hx) (if_pos rfl)
  · intro b x hb hx hx'
    have hbd : b ≠ d := fun e => hb (e ▸ hf.1)
    have hx := (owns_ne hbd).mp hx
    have hx' := owns_same.mp hx'
    rcases hx' with ⟨l', e1, e2⟩ | hx'
    · obtain rfl := Option.some.inj e1
      have := h.heap.lt b x hb hx
      omega
    · exact (hF1 x hx').2.2.2 b hb hx
  · intro l' e1 e2
    simp only [if_true] at e1 e2
    obtain rfl := Option.some.inj e1
    have := (hF1 _ e2).2.1
    omega
  · intro x hx hS
    have hx := owns_same.mp hx
    rcases hx with ⟨l', e1, e2⟩ | hx
    · obtain rfl := Option.some.inj e1
      have := h.sb x hS
      omega
    · exact (hF1 x hx).1 hS
  · intro x hx
    have hx := owns_same.mp hx
    rw [size_alloc]
    rcases hx with ⟨l', e1, e2⟩ | hx
    · obtain rfl := Option.some.inj e1
      omega
    · have := (hF1 x hx).2.1; omega
  · intro x hx
    have hx := owns_same.mp hx
    rcases hx with ⟨l', e1, e2⟩ | hx
    · obtain rfl := Option.some.inj e1
      have := h.grow
      exact .inr (by omega)
    · exact (hF1 x hx).2.2.1

theorem heap_setCell_other (w : World) (x : Addr) (v : Value) (i : Nat) (h : i ≠ x.block) : (w.setCell x v).heap[i]? = w.heap[i]? := by
  unfold World.setCell
  simp only [Array.getElem?_modify]
  rw [if_neg (fun e => h e.symm)]
theorem rowSize_setCell (w : World) (x : Addr) (v : Value) (i : Nat) : rowSize (w.setCell x v) i = rowSize w i := by
  unfold rowSize World.setCell
  simp only [Array.getElem?_modify]
  by_cases e : x.block = i
  · rw [if_pos e]
    cases hi : w.heap[i]? with
    | none => rfl
    | some o => cases o <;> simp <;> split <;> simp
  · rw [if_neg e]
theorem size_setCell (w : World) (x : Addr) (v : Value) : (w.setCell x v).heap.size = w.heap.size := by
  unfold World.setCell
  simp

end Go.Vcg
/- Steps that only say otherwise what holds: a block is kept for good; a name is turned; what a cell names becomes its own, and the other way round. -/
namespace Go.Vcg

variable {w0 : World} {M : Perm} {S0 : Nat → Prop} {ρ : Nat → Option Loc} {φ : Nat → Nat → Prop} {S : Nat → Prop} {st : St} {a : Act} {w : World}

theorem Rep.frz {v : Value} {s : SV} (h : Rep ρ S w v s) : RepP S w v s.frz := by
  induction h with
  | per h => exact h.frz
  | sl | sl0 | sa | pt | mr | cn => rw [SV.frz] <;> first | exact .dead _ | (intros; contradiction) | simp
  | ifc t _ ih => rw [SV.frz]; exact .ifc t ih
  | fn f va vb a b ha hb _ _ ih1 ih2 =>
    rw [SV.frz, frzL_eq, frzL_eq]
    exact .fn f va vb _ _ (by simpa using ha) (by simpa using hb) (fun i v c h1 h2 => by
      rw [List.getElem?_map, Option.map_eq_some_iff] at h2
      obtain ⟨c', h2, rfl⟩ := h2
      exact ih1 i v c' h1 h2) (fun i v c h1 h2 => by
      rw [List.getElem?_map, Option.map_eq_some_iff] at h2
      obtain ⟨c', h2, rfl⟩ := h2
      exact ih2 i v c' h1 h2)
  | ag vs cs hl _ ih =>
    rw [SV.frz, frzL_eq]
    exact .ag vs _ (by simpa using hl) fun i v c h1 h2 => by
      rw [List.getElem?_map, Option.map_eq_some_iff] at h2
      obtain ⟨c', h2, rfl⟩ := h2
      exact ih i v c' h1 h2
  | tu vs cs hl _ ih =>
    rw [SV.frz, frzL_eq]
    exact .tu vs _ (by simpa using hl) fun i v c h1 h2 => by
      rw [List.getElem?_map, Option.map_eq_some_iff] at h2
      obtain ⟨c', h2, rfl⟩ := h2
      exact ih i v c' h1 h2
theorem CRep.frz {S' F : Nat → Prop} {v : Value} {s : SV} (h : CRep ρ S w v s F) (hS : ∀ i, S i → S' i) (hF : ∀ i, F i → S' i) : RepP S' w v s.frz := by
  rcases h with h | h
  · exact h.frz.mono hS fun _ _ => rfl
  · exact h.frz hS hF

/-! ## Names are replaced -/

def SV.sb0 (d : Nat) (g : SV → SV) : SV → SV
  | .sl b i n => if b = d then g (.sl b i n) else .sl b i n
  | .sa b i o k n => if b = d then g (.sa b i o k n) else .sa b i o k n
  | .pt b i o => if b = d then g (.pt b i o) else .pt b i o
  | .mr b => if b = d then g (.mr b) else .mr b
  | .ifc _ _ => .dead
  | .fn _ _ _ => .dead
  | .ag _ => .dead
  | .tu _ => .dead
  | .cn _ _ => .dead
  | s => s
def SV.sb1 (d : Nat) (g : SV → SV) : SV → SV
  | .ifc t s => .ifc t (s.sb0 d g)
  | .fn f a b => .fn f (a.map (SV.sb0 d g)) (b.map (SV.sb0 d g))
  | s => s.sb0 d g
def SV.sb2 (d : Nat) (g : SV → SV) : SV → SV
  | .ag cs => .ag (cs.map (SV.sb1 d g))
  | s => s.sb1 d g
def SV.sb (d : Nat) (g : SV → SV) : SV → SV
  | .tu cs => .tu (cs.map (SV.sb2 d g))
  | .cn c s => .cn c (s.sb2 d g)
  | s => s.sb2 d g
def sbRows (d : Nat) (g : SV → SV) (rows : Rows) : Rows := rows.map fun r => r.map (SV.sb1 d g)
def sbE (d : Nat) (g : SV → SV) (es : List (Value × SV)) : List (Value × SV) := es.map fun e => (e.1, e.2.sb1 d g)
def Bk.sb (d : Nat) (g : SV → SV) : Bk → Bk
  | .c k rows => .c k (sbRows d g rows)
  | .m es => .m (sbE d g es)

/-- The ways to replace that serve. -/
structure Sb (ρ ρ' : Nat → Option Loc) (S S' : Nat → Prop) (w : World) (d : Nat) (g : SV → SV) : Prop where
  ref : ∀ v s, s.Names d → Rep ρ S w v s → Rep ρ' S' w v (g s)
  other : ∀ b, b ≠ d → ρ' b = ρ b
  toS : ∀ i, S i → S' i
  emp : ∀ (ad : Option Addr) (i : Nat), Rep ρ' S' w (.slice ad 0 0) (g (.sl d i 0))

section
variable {ρ' : Nat → Option Loc} {S' : Nat → Prop} {d : Nat} {g : SV → SV}
theorem Rep.sb0 (hs : Sb ρ ρ' S S' w d g) {v : Value} {s : SV} (h : Rep ρ S w v s) : Rep ρ' S' w v (s.sb0 d g) := by
  have hp : ∀ {v s}, RepP S w v s → Rep ρ' S' w v s := fun h => .per (h.mono hs.toS fun _ _ => rfl)
  cases s with
  | sl b i n =>
    rw [SV.sb0]
    split
    · rename_i e; subst e; exact hs.ref v _ (.sl ..) h
    · rename_i e
      exact h.mono hs.toS (fun _ _ => rfl) (fun x hx => by cases hx; exact hs.other _ e) (fun _ => Nat.le_refl _)
  | sa b i o k n =>
    rw [SV.sb0]
    split
    · rename_i e; subst e; exact hs.ref v _ (.sa ..) h
    · rename_i e
      exact h.mono hs.toS (fun _ _ => rfl) (fun x hx => by cases hx; exact hs.other _ e) (fun _ => Nat.le_refl _)
  | pt b i o =>
    rw [SV.sb0]
    split
    · rename_i e; subst e; exact hs.ref v _ (.pt ..) h
    · rename_i e
      exact h.mono hs.toS (fun _ _ => rfl) (fun x hx => by cases hx; exact hs.other _ e) (fun _ => Nat.le_refl _)
  | mr b =>
    rw [SV.sb0]
    split
    · rename_i e; subst e; exact hs.ref v _ (.mr ..) h
    · rename_i e
      exact h.mono hs.toS (fun _ _ => rfl) (fun x hx => by cases hx; exact hs.other _ e) (fun _ => Nat.le_refl _)
  | ifc _ _ => exact .dead v
  | fn _ _ _ => exact .dead v
  | ag _ => exact .dead v
  | tu _ => exact .dead v
  | cn _ _ => exact .dead v
  | _ => cases h with | per h => exact hp h
theorem Rep.sb1 (hs : Sb ρ ρ' S S' w d g) {v : Value} {s : SV} (h : Rep ρ S w v s) : Rep ρ' S' w v (s.sb1 d g) := by
  cases s with
  | ifc t s =>
    cases h with
    | ifc _ h => exact .ifc t (h.sb0 hs)
    | per h => cases h with
      | ifc _ h => exact .ifc t (Rep.sb0 hs (.per h))
  | fn f x y =>
    cases h with
    | fn _ va vb _ _ ha hb h1 h2 => exact .fn f va vb _ _ (by simpa using ha) (by simpa using hb) (relmap (fun v c h => h.sb0 hs) h1) (relmap (fun v c h => h.sb0 hs) h2)
    | per h => cases h with
      | fn _ va vb _ _ ha hb h1 h2 => exact .fn f va vb _ _ (by simpa using ha) (by simpa using hb) (relmap (fun v c h => Rep.sb0 hs (.per h)) h1) (relmap (fun v c h => Rep.sb0 hs (.per h)) h2)
  | _ => exact h.sb0 hs
theorem Rep.sb2 (hs : Sb ρ ρ' S S' w d g) {v : Value} {s : SV} (h : Rep ρ S w v s) : Rep ρ' S' w v (s.sb2 d g) := by
  cases s with
  | ag cs =>
    cases h with
    | ag vs _ hl h => exact .ag vs _ (by simpa using hl) (relmap (fun v c h => h.sb1 hs) h)
    | per h => cases h with
      | ag vs _ hl h => exact .ag vs _ (by simpa using hl) (relmap (fun v c h => Rep.sb1 hs (.per h)) h)
  | _ => exact h.sb1 hs
theorem Rep.sb (hs : Sb ρ ρ' S S' w d g) {v : Value} {s : SV} (h : Rep ρ S w v s) : Rep ρ' S' w v (s.sb d g) := by
  cases s with
  | tu cs =>
    cases h with
    | tu vs _ hl h => exact .tu vs _ (by simpa using hl) (relmap (fun v c h => h.sb2 hs) h)
    | per h => cases h with
      | tu vs _ hl h => exact .tu vs _ (by simpa using hl) (relmap (fun v c h => Rep.sb2 hs (.per h)) h)
  | cn c s =>
    cases h with
    | cn _ _ _ h h0 => exact .cn v c _ (fun hc => (h hc).sb2 hs) h0
    | per h => cases h
  | _ => exact h.sb2 hs

theorem CRep.sb1 (hs : Sb ρ ρ' S S' w d g) {F : Nat → Prop} {v : Value} {c : SV} (h : CRep ρ S w v c F) (hb : ∀ i, S i → i < w.heap.size) : CRep ρ' S' w v (c.sb1 d g) F := by
  rcases h with h | h
  · exact .inl (h.sb1 hs)
  · have hm : ∀ {v c}, RepO S w v c F → RepO S' w v c F := fun h => h.mono hs.toS (Nat.le_refl _) (fun _ _ _ => rfl) hb
    cases c with
    | ifc t s =>
      cases h with
      | per h => exact .inl (Rep.sb1 hs (.per h))
      | ifc _ h =>
        rw [SV.sb1]
        cases s with
        | ifc _ _ => exact .inl (.ifc t (.dead _))
        | fn _ _ _ => exact .inl (.ifc t (.dead _))
        | ag _ => exact .inl (.ifc t (.dead _))
        | tu _ => exact .inl (.ifc t (.dead _))
        | cn _ _ => exact .inl (.ifc t (.dead _))
        | sl _ _ _ => cases h with | per h => cases h
        | sa _ _ _ _ _ => cases h with | per h => cases h
        | pt _ _ _ => cases h with | per h => cases h
        | mr _ => cases h with | per h => cases h
        | _ => exact .inr (.ifc t (hm h))
    | fn f a b => cases h with | per h => exact .inl (Rep.sb1 hs (.per h))
    | ag _ => exact .inl (.dead _)
    | tu _ => exact .inl (.dead _)
    | cn _ _ => exact .inl (.dead _)
    | sl _ _ _ => cases h with | per h => cases h
    | sa _ _ _ _ _ => cases h with | per h => cases h
    | pt _ _ _ => cases h with | per h => cases h
    | mr _ => cases h with | per h => cases h
    | _ => exact .inr (hm h)

theorem BkOk.sb (hs : Sb ρ ρ' S S' w d g) {F : Nat → Prop} {b b' : Nat} {k : Bk} (h : BkOk ρ S w F b k) (hb : ρ' b' = ρ b) (hS : ∀ i, S i → i < w.heap.size) : BkOk ρ' S' w F b' (k.sb d g) := by
  cases k with
  | c k rows =>
    rcases h with ⟨h1, h2⟩ | ⟨l, h1, h2, h3⟩
    · exact .inl ⟨hb.trans h1, by subst h2; rfl⟩
    · have hk : ∀ {i : Nat} {r : List SV}, (sbRows d g rows)[i]? = some r → ∃ r', rows[i]? = some r' ∧ r = r'.map (SV.sb1 d g) := fun {i r} h => by
        unfold sbRows at h
        rw [List.getElem?_map, Option.map_eq_some_iff] at h
        obtain ⟨r', h1, h2⟩ := h
        exact ⟨r', h1, h2.symm⟩
      refine .inr ⟨l, hb.trans h1, h2, h3.free, fun i r g => ?_, by unfold sbRows; simpa using h3.long, ?_⟩
      · obtain ⟨r', g', rfl⟩ := hk g
        simpa using h3.len i r' g'
      · obtain ⟨G, e1, e2, e3⟩ := h3.cell
        refine ⟨G, e1, e2, fun i r j c g1 g2 => ?_⟩
        obtain ⟨r', g3, rfl⟩ := hk g1
        rw [List.getElem?_map, Option.map_eq_some_iff] at g2
        obtain ⟨c', g4, rfl⟩ := g2
        obtain ⟨v, f1, f2, f3⟩ := e3 i r' j c' g3 g4
        exact ⟨v, f1, f2, f3.sb1 hs hS⟩
  | m es =>
    obtain ⟨l, h1, h2⟩ := h
    obtain ⟨ents, clk, vs, G, e0, e1, e2, e3, e4, e5⟩ := h2.ex
    refine ⟨l, hb.trans h1, ents, clk, vs, G, e0, ?_, by unfold sbE; simpa using e2, e3, e4, fun i v e g1 g2 => ?_⟩
    · unfold sbE; rw [List.map_map]; exact e1
    · unfold sbE at g2
      rw [List.getElem?_map, Option.map_eq_some_iff] at g2
      obtain ⟨c', g2, rfl⟩ := g2
      exact (e5 i v c' g1 g2).sb1 hs hS
end

/-! ## A block is kept for good -/

/-- A row, in pieces. -/
def chunks (row : List SV) (k len : Nat) : Rows := (List.range len).map fun i => (row.drop (i * k)).take k

/-- What a reference into a block is, when the block is kept for good. -/
def frzRef (k : Bk) : SV → SV
  | .sl _ i n => match k with
    | .c _ rows => .pd (frzRows ((rows.drop i).take n))
    | .m _ => .dead
  | .sa _ i o k' n => match k with
    | .c _ rows => .pd (frzRows (chunks ((rows.getD i []).drop o) k' n))
    | .m _ => .dead
  | .pt _ i o => match k with
    | .c _ rows => .bp (frzL (rows.getD i [])) o
    | .m _ => .dead
  | .mr _ => match k with
    | .c _ _ => .dead
    | .m es => .pm (frzE es)
  | _ => .dead

theorem CellsAt.cellP {S' F : Nat → Prop} {l : Loc} {rows : Rows} (h : CellsAt ρ S w l rows F) (hS : ∀ i, S i → S' i) (hF : ∀ i, F i → S' i) {i : Nat} {r : List SV} {j : Nat} {c : SV} (h1 : rows[i]? = some r) (h2 : r[j]? = some c) :
    w.cell? (l.addr i j) = some ((w.cell? (l.addr i j)).getD undef) ∧ ((w.cell? (l.addr i j)).getD undef).oneCell' = true ∧ RepP S' w ((w.cell? (l.addr i j)).getD undef) c.frz := by
  obtain ⟨G, e1, e2, e3⟩ := h.cell
  obtain ⟨v, f1, f2, f3⟩ := e3 i r j c h1 h2
  rw [f1]
  exact ⟨rfl, f2, f3.frz hS fun x hx => hF x (e1 i j x hx)⟩

theorem CellsAt.rowsP {S' F : Nat → Prop} {l : Loc} {rows : Rows} (h : CellsAt ρ S w l rows F) (hS : ∀ i, S i → S' i) (hF : ∀ i, F i → S' i) (hl : S' l.blk) (i n cap : Nat) (hc : n ≤ cap) (hi : i + n ≤ l.len) : RepP S' w (.slice (some (l.addr i 0)) n cap) (.pd (frzRows ((rows.drop i).take n))) := by
  have hn : ((rows.drop i).take n).length = n := by rw [List.length_take, List.length_drop, h.long]; omega
  have hget : ∀ (i' : Nat) (r : List SV), (((rows.drop i).take n).map frzL)[i']? = some r → ∃ r', rows[i + i']? = some r' ∧ r = r'.map SV.frz := fun i' r g => by
    rw [List.getElem?_map, Option.map_eq_some_iff] at g
    obtain ⟨r', g1, g2⟩ := g
    rw [List.getElem?_take] at g1
    split at g1
    · rw [List.getElem?_drop] at g1; exact ⟨r', g1, by rw [← g2, frzL_eq]⟩
    · cases g1
  have := RepP.pd (S := S') (w := w) l.blk (l.base + i * l.esz + 0) l.esz cap (((rows.drop i).take n).map frzL) (fun i' j => (w.cell? (l.addr (i + i') j)).getD undef) hl (by rw [List.length_map, hn]; exact hc) (fun i' r g => by
      obtain ⟨r', g1, rfl⟩ := hget i' r g
      simpa using h.len _ r' g1)
    (fun i' r j c g1 g2 => by
      obtain ⟨r', g3, rfl⟩ := hget i' r g1
      rw [List.getElem?_map, Option.map_eq_some_iff] at g2
      obtain ⟨c', g4, rfl⟩ := g2
      obtain ⟨e1, e2, _⟩ := h.cellP hS hF g3 g4
      refine ⟨?_, e2⟩
      rw [← e1]
      congr 2
      show l.base + i * l.esz + 0 + i' * l.esz + j = l.base + (i + i') * l.esz + j
      rw [Nat.add_mul]; omega)
    (fun i' r j c g1 g2 => by
      obtain ⟨r', g3, rfl⟩ := hget i' r g1
      rw [List.getElem?_map, Option.map_eq_some_iff] at g2
      obtain ⟨c', g4, rfl⟩ := g2
      exact (h.cellP hS hF g3 g4).2.2)
  rw [frzRows_eq]
  rw [List.length_map, hn] at this
  exact this

theorem chunks_length (row : List SV) (k n : Nat) : (chunks row k n).length = n := by simp [chunks]
theorem chunks_get {row : List SV} {k n i : Nat} {r : List SV} (h : (chunks row k n)[i]? = some r) : i < n ∧ r = (row.drop (i * k)).take k := by
  unfold chunks at h
  rw [List.getElem?_map, Option.map_eq_some_iff] at h
  obtain ⟨x, h1, h2⟩ := h
  rw [List.getElem?_eq_some_iff] at h1
  obtain ⟨g1, g2⟩ := h1
  simp only [List.length_range] at g1
  simp only [List.getElem_range] at g2
  subst g2
  exact ⟨g1, h2.symm⟩

theorem CellsAt.sliceP {S' F : Nat → Prop} {l : Loc} {rows : Rows} (h : CellsAt ρ S w l rows F) (hS : ∀ i, S i → S' i) (hF : ∀ i, F i → S' i) (hl : S' l.blk) (i o k n cap : Nat) (hc : n ≤ cap) (hi : i < l.len) (ho : o + n * k ≤ l.esz) :
    RepP S' w (.slice (some (l.addr i o)) n cap) (.pd (frzRows (chunks ((rows.getD i []).drop o) k n))) := by
  have hi' : i < rows.length := by rw [h.long]; exact hi
  have hr : rows[i]? = some (rows.getD i []) := by simp [List.getD_eq_getElem?_getD, hi']
  have hlen := h.len i _ hr
  generalize rows.getD i [] = row at hr hlen
  have hget : ∀ (i' : Nat) (r : List SV), ((chunks (row.drop o) k n).map frzL)[i']? = some r → i' < n ∧ r = (((row.drop o).drop (i' * k)).take k).map SV.frz := fun i' r g => by
    rw [List.getElem?_map, Option.map_eq_some_iff] at g
    obtain ⟨r', g1, g2⟩ := g
    obtain ⟨g3, rfl⟩ := chunks_get g1
    exact ⟨g3, by rw [← g2, frzL_eq]⟩
  have hcell : ∀ (i' j : Nat) (c : SV), i' < n → (((row.drop o).drop (i' * k)).take k)[j]? = some c → row[o + i' * k + j]? = some c := fun i' j c g1 g2 => by
    rw [List.getElem?_take] at g2
    split at g2
    · rw [List.getElem?_drop, List.getElem?_drop] at g2
      rw [← g2]; congr 1; omega
    · cases g2
  have := RepP.pd (S := S') (w := w) l.blk (l.base + i * l.esz + o) k cap ((chunks (row.drop o) k n).map frzL) (fun i' j => (w.cell? (l.addr i (o + i' * k + j))).getD undef) hl (by rw [List.length_map, chunks_length]; exact hc) (fun i' r g => by
      obtain ⟨g1, rfl⟩ := hget i' r g
      have : i' * k + k ≤ n * k := by rw [← Nat.succ_mul]; exact Nat.mul_le_mul_right _ g1
      simp only [List.length_map, List.length_take, List.length_drop]
      omega)
    (fun i' r j c g1 g2 => by
      obtain ⟨g3, rfl⟩ := hget i' r g1
      rw [List.getElem?_map, Option.map_eq_some_iff] at g2
      obtain ⟨c', g4, rfl⟩ := g2
      obtain ⟨e1, e2, _⟩ := h.cellP hS hF hr (hcell i' j c' g3 g4)
      refine ⟨?_, e2⟩
      rw [← e1]
      congr 2
      show l.base + i * l.esz + o + i' * k + j = l.base + i * l.esz + (o + i' * k + j)
      omega)
    (fun i' r j c g1 g2 => by
      obtain ⟨g3, rfl⟩ := hget i' r g1
      rw [List.getElem?_map, Option.map_eq_some_iff] at g2
      obtain ⟨c', g4, rfl⟩ := g2
      exact (h.cellP hS hF hr (hcell i' j c' g3 g4)).2.2)
  rw [frzRows_eq]
  rw [List.length_map, chunks_length] at this
  exact this

theorem CellsAt.ptP {S' F : Nat → Prop} {l : Loc} {rows : Rows} (h : CellsAt ρ S w l rows F) (hS : ∀ i, S i → S' i) (hF : ∀ i, F i → S' i) (hl : S' l.blk) (i o : Nat) : RepP S' w (.pointer (some (l.addr i o))) (.bp (frzL (rows.getD i [])) o) := by
  rw [frzL_eq]
  have hr : ∀ (j : Nat) (c : SV), ((rows.getD i []).map SV.frz)[j]? = some c → ∃ r c', rows[i]? = some r ∧ r[j]? = some c' ∧ c = c'.frz := fun j c g => by
    rw [List.getElem?_map, Option.map_eq_some_iff] at g
    obtain ⟨c', g1, g2⟩ := g
    rw [List.getD_eq_getElem?_getD] at g1
    cases e : rows[i]? with
    | none => rw [e] at g1; simp at g1
    | some r => rw [e] at g1; exact ⟨r, c', rfl, g1, g2.symm⟩
  exact RepP.bp l.blk (l.base + i * l.esz) o _ (fun j => (w.cell? (l.addr i j)).getD undef) hl (fun j c g => by
      obtain ⟨r, c', g1, g2, rfl⟩ := hr j c g
      obtain ⟨e1, e2, _⟩ := h.cellP hS hF g1 g2
      exact ⟨e1, e2⟩)
    (fun j c g => by
      obtain ⟨r, c', g1, g2, rfl⟩ := hr j c g
      exact (h.cellP hS hF g1 g2).2.2)

/-- References into a block that is kept for good. -/
theorem frzRef_ok {S' F : Nat → Prop} {b : Nat} {k : Bk} (h : BkOk ρ S w F b k) (hS : ∀ i, S i → S' i) (hF : ∀ i, F i → S' i) (hl : ∀ l, ρ b = some l → S' l.blk) {v : Value} {s : SV} (hn : s.Names b) (hr : Rep ρ S w v s) : RepP S' w v (frzRef k s) := by
  cases k with
  | c k rows =>
    cases hr with
    | sl _ i n cap l hb hc hi hz =>
      cases hn
      rcases h with ⟨h1, _⟩ | ⟨l', h1, h2, h3⟩
      · rw [hb] at h1; cases h1
      · rw [hb] at h1; obtain rfl := Option.some.inj h1
        exact h3.rowsP hS hF (hl l hb) i n cap hc hi
    | sl0 ad _ i => rw [frzRef, List.take_zero, frzRows]; exact .pd0 ad 0
    | sa _ i o k' n cap l hb hc hi ho =>
      cases hn
      rcases h with ⟨h1, _⟩ | ⟨l', h1, h2, h3⟩
      · rw [hb] at h1; cases h1
      · rw [hb] at h1; obtain rfl := Option.some.inj h1
        exact h3.sliceP hS hF (hl l hb) i o k' n cap hc hi ho
    | pt _ i o l hb =>
      cases hn
      rcases h with ⟨h1, _⟩ | ⟨l', h1, h2, h3⟩
      · rw [hb] at h1; cases h1
      · rw [hb] at h1; obtain rfl := Option.some.inj h1
        exact h3.ptP hS hF (hl l hb) i o
    | per hp => cases hn <;> first | (cases hp; done) | exact .dead _
    | _ => exact .dead _
  | m es =>
    cases hr with
    | mr _ l hb =>
      cases hn
      obtain ⟨l', h1, h2⟩ := h
      rw [hb] at h1; obtain rfl := Option.some.inj h1
      obtain ⟨ents, clk, vs, G, e0, e1, e2, e3, e4, e5⟩ := h2.ex
      rw [frzRef, frzE_eq]
      refine .pm l.blk clk ents _ vs (hl l hb) e0 ?_ (by simpa using e2) (fun i v e g1 g2 => ?_)
      · rw [List.map_map]; exact e1
      · rw [List.getElem?_map, Option.map_eq_some_iff] at g2
        obtain ⟨c', g2, rfl⟩ := g2
        exact (e5 i v c' g1 g2).frz hS fun x hx => hF x (e3 i x hx)
    | per hp => cases hn <;> first | (cases hp; done) | exact .dead _
    | _ => exact .dead _

def St.frzWith (st : St) (b : Nat) (k : Bk) : St :=
  { n := st.n, sl := st.sl.map fun p => (p.1, p.2.sb b (frzRef k)), bl := (st.bl.filter fun p => p.1 != b).map fun p => (p.1, p.2.sb b (frzRef k)), df := st.df.map (Dfd.mp (SV.sb b (frzRef k))) }
def St.frz (st : St) (b : Nat) : St := match st.blk b with
  | some k => st.frzWith b k
  | none => st
theorem St.get_frzWith (st : St) (b : Nat) (k : Bk) (t : Nat) : (st.frzWith b k).get t = (st.get t).sb b (frzRef k) := by
  unfold St.get St.frzWith
  simp only [lookup_map_snd]
  cases st.sl.lookup t <;> rfl
theorem St.dget_frzWith (st : St) (b : Nat) (k : Bk) (i j : Nat) : (st.frzWith b k).dget i j = (st.dget i j).sb b (frzRef k) := dget_mp st.df (SV.sb b (frzRef k)) rfl i j
theorem St.blk_frzWith (st : St) (b : Nat) (k : Bk) (x : Nat) : (st.frzWith b k).blk x = if x = b then none else (st.blk x).map (Bk.sb b (frzRef k)) := by
  unfold St.blk St.frzWith
  simp only [lookup_map_snd, lookup_filter_ne]
  split <;> rfl

/-- A block is kept for good. -/
theorem Sim.frz (h : Sim w0 M S0 ρ φ S st a w) (b : Nat) : ∃ S', (∀ i, S i → S' i) ∧ Sim w0 M S0 ρ φ S' (st.frz b) a w := by
  unfold St.frz
  split
  · rename_i k hk
    have hne : st.blk b ≠ none := by rw [hk]; simp
    have hs : Sb ρ ρ S (fun x => S x ∨ owns ρ φ b x) w b (frzRef k) := ⟨fun v s hn hr => .per (frzRef_ok (h.heap.blk b k hk) (fun _ hi => .inl hi) (fun _ hi => .inr (.inr hi)) (fun l hl => .inr (.inl ⟨l, hl, rfl⟩)) hn hr),
      fun _ _ => rfl, fun _ hi => .inl hi, fun ad i => by
        cases k with
        | c k rows => rw [frzRef, List.take_zero, frzRows]; exact .per (.pd0 ad 0)
        | m es => exact .dead _⟩
    have hh : ∀ x, (st.frzWith b k).blk x ≠ none → x ≠ b ∧ st.blk x ≠ none := fun x hx => by
      rw [St.blk_frzWith] at hx
      by_cases e : x = b
      · rw [if_pos e] at hx; exact absurd rfl hx
      · rw [if_neg e] at hx
        exact ⟨e, fun g => hx (by rw [g]; rfl)⟩
    refine ⟨fun x => S x ∨ owns ρ φ b x, fun _ hi => .inl hi, h.size, h.defers.trans (sh_mp st.df _).symm, fun t => by rw [St.get_frzWith]; exact (h.slot t).sb hs, fun i j => by rw [St.dget_frzWith]; exact (h.dslot i j).sb hs, ⟨fun x r hx => ?_, fun x x' y h1 h2 => h.heap.inj x x' y (hh x h1).2 (hh x' h2).2, fun x l h1 => h.heap.self x l (hh x h1).2, fun x y h1 h2 h3 => ?_,
      fun x y h1 => h.heap.lt x y (hh x h1).2⟩, fun i hi => hi.elim (h.sb i) (h.heap.lt b i hne), fun i hi => .inl (h.base i hi), fun i hi => ?_, h.grow, h.keep, fun x y h1 => h.own x y (hh x h1).2, fun x h1 h2 => h.pin x h1 (hh x h2).2, h.small, h.wide⟩
    · rw [St.blk_frzWith] at hx
      split at hx
      · cases hx
      · rw [Option.map_eq_some_iff] at hx
        obtain ⟨r', g1, rfl⟩ := hx
        exact (h.heap.blk x r' g1).sb hs rfl h.sb
    · rcases h3 with h3 | h3
      · exact h.heap.notS x y (hh x h1).2 h2 h3
      · exact (hh x h1).1 (h.heap.inj x b y (hh x h1).2 hne h2 h3)
    · rcases hi with hi | hi
      · exact h.from_ i hi
      · rcases h.own b i hne hi with (g | g) | g
        · exact .inr (.inl g)
        · exact .inr (.inr (.inl g))
        · exact .inr (.inr (.inr ⟨b, g.2⟩))
  · exact ⟨S, fun _ h => h, h⟩

/-! ## A name is turned -/

def renRef (d' : Nat) : SV → SV
  | .sl _ i n => .sl d' i n
  | .sa _ i o k n => .sa d' i o k n
  | .pt _ i o => .pt d' i o
  | .mr _ => .mr d'
  | s => s

def St.renWith (st : St) (d d' : Nat) (k : Bk) : St :=
  { n := st.n, sl := st.sl.map fun p => (p.1, p.2.sb d (renRef d')), bl := (d', k.sb d (renRef d')) :: (st.bl.filter fun p => p.1 != d).map fun p => (p.1, p.2.sb d (renRef d')), df := st.df.map (Dfd.mp (SV.sb d (renRef d'))) }
/-- The name d is turned into d', which is forgotten before. -/
def St.ren (st : St) (d d' : Nat) : St := match (st.kill d').blk d with
  | some k => if isPin d' then st else (st.kill d').renWith d d' k
  | none => st
theorem St.get_renWith (st : St) (d d' : Nat) (k : Bk) (t : Nat) : (st.renWith d d' k).get t = (st.get t).sb d (renRef d') := by
  unfold St.get St.renWith
  simp only [lookup_map_snd]
  cases st.sl.lookup t <;> rfl
theorem St.dget_renWith (st : St) (d d' : Nat) (k : Bk) (i j : Nat) : (st.renWith d d' k).dget i j = (st.dget i j).sb d (renRef d') := dget_mp st.df (SV.sb d (renRef d')) rfl i j
theorem St.blk_renWith (st : St) (d d' : Nat) (k : Bk) (x : Nat) : (st.renWith d d' k).blk x = if x = d' then some (k.sb d (renRef d')) else if x = d then none else (st.blk x).map (Bk.sb d (renRef d')) := by
  unfold St.blk St.renWith
  rw [lookup_cons_if]
  split
  · rfl
  · simp only [lookup_map_snd, lookup_filter_ne]
    split <;> rfl

theorem Sim.ren (h : Sim w0 M S0 ρ φ S st a w) (d d' : Nat) (hw : M.wr d) : ∃ ρ' φ', Sim w0 M S0 ρ' φ' S (st.ren d d') a w := by
  unfold St.ren
  split
  · rename_i k hk
    split
    · exact ⟨ρ, φ, h⟩
    rename_i hpin
    have h0 := h.kill d'
    have hdd : d ≠ d' := (blk_kill_ne hk).1
    have hf := st.kill_free d'
    have h1 := h0.rename hf (ρ d) (φ d)
    have hne : (st.kill d').blk d ≠ none := by rw [hk]; simp
    generalize st.kill d' = s0 at hk h0 hf h1 hne
    have hs : Sb (fun x => if x = d' then ρ d else ρ x) (fun x => if x = d' then ρ d else ρ x) S S w d (renRef d') := ⟨fun v s hn hr => by
        cases hn with
        | sl _ i n => cases hr with
          | sl _ _ _ cap l hb hc hi hz => exact .sl d' i n cap l (by simp only [if_true]; rw [if_neg hdd] at hb; exact hb) hc hi hz
          | sl0 ad => exact .sl0 ad d' i
          | per h => cases h
        | sa _ i o k n => cases hr with
          | sa _ _ _ _ _ cap l hb hc hi ho => exact .sa d' i o k n cap l (by simp only [if_true]; rw [if_neg hdd] at hb; exact hb) hc hi ho
          | per h => cases h
        | pt _ i o => cases hr with
          | pt _ _ _ l hb => exact .pt d' i o l (by simp only [if_true]; rw [if_neg hdd] at hb; exact hb)
          | per h => cases h
        | mr _ => cases hr with
          | mr _ l hb => exact .mr d' l (by simp only [if_true]; rw [if_neg hdd] at hb; exact hb)
          | per h => cases h
        | _ => exact hr, fun _ _ => rfl, fun _ h => h, fun ad i => .sl0 ad d' i⟩
    have hh : ∀ x, (s0.renWith d d' k).blk x ≠ none → x = d' ∨ (x ≠ d' ∧ x ≠ d ∧ s0.blk x ≠ none) := fun x hx => by
      rw [St.blk_renWith] at hx
      by_cases e : x = d'
      · exact .inl e
      · rw [if_neg e] at hx
        by_cases e' : x = d
        · rw [if_pos e'] at hx; exact absurd rfl hx
        · rw [if_neg e'] at hx
          exact .inr ⟨e, e', fun g => hx (by rw [g]; rfl)⟩
    have ho : ∀ x y, (s0.renWith d d' k).blk x ≠ none → owns (fun x => if x = d' then ρ d else ρ x) (fun x => if x = d' then φ d else φ x) x y → ∃ x', s0.blk x' ≠ none ∧ owns ρ φ x' y ∧ ((x = d' ∧ x' = d) ∨ (x' = x ∧ x ≠ d)) := fun x y hx hy => by
      rcases hh x hx with rfl | ⟨e1, e2, e3⟩
      · exact ⟨d, hne, (owns_same.mp hy), .inl ⟨rfl, rfl⟩⟩
      · exact ⟨x, e3, (owns_ne e1).mp hy, .inr ⟨rfl, e2⟩⟩
    refine ⟨_, fun x => if x = d' then φ d else φ x, h0.size, h0.defers.trans (sh_mp s0.df _).symm, fun t => by rw [St.get_renWith]; exact (h1.slot t).sb hs, fun i j => by rw [St.dget_renWith]; exact (h1.dslot i j).sb hs, ⟨fun x r hx => ?_, fun x x' y g1 g2 e1 e2 => ?_, fun x l g1 e1 e2 => ?_, fun x y g1 e1 => ?_, fun x y g1 e1 => ?_⟩, h0.sb, h0.base, h0.from_, h0.grow, h0.keep, fun x y g1 e1 => ?_, fun x g1 g2 => ?_, h0.small, h0.wide⟩
    · rw [St.blk_renWith] at hx
      by_cases e : x = d'
      · rw [if_pos e] at hx
        obtain rfl := Option.some.inj hx
        subst e
        have := h1.heap.blk d k hk
        simp only [if_neg hdd] at this
        simp only [if_true]
        exact this.sb hs (by simp only [if_true, if_neg hdd]) h0.sb
      · rw [if_neg e] at hx
        split at hx
        · cases hx
        · rw [Option.map_eq_some_iff] at hx
          obtain ⟨r', g1, rfl⟩ := hx
          exact (h1.heap.blk x r' g1).sb hs rfl h0.sb
    · obtain ⟨z, f1, f2, f3⟩ := ho x y g1 e1
      obtain ⟨z', f1', f2', f3'⟩ := ho x' y g2 e2
      have := h0.heap.inj z z' y f1 f1' f2 f2'
      rcases f3 with ⟨q1, q2⟩ | ⟨q1, q2⟩ <;> rcases f3' with ⟨q3, q4⟩ | ⟨q3, q4⟩ <;> omega
    · rcases hh x g1 with rfl | ⟨q1, q2, q3⟩
      · simp only [if_true] at e1 e2
        exact h0.heap.self d l hne e1 e2
      · simp only [if_neg q1] at e1 e2
        exact h0.heap.self x l q3 e1 e2
    · obtain ⟨z, f1, f2, _⟩ := ho x y g1 e1
      exact h0.heap.notS z y f1 f2
    · obtain ⟨z, f1, f2, _⟩ := ho x y g1 e1
      exact h0.heap.lt z y f1 f2
    · obtain ⟨z, f1, f2, f3⟩ := ho x y g1 e1
      rcases f3 with ⟨q1, q2⟩ | ⟨q1, q2⟩
      · subst q2
        rcases h0.own z y f1 f2 with g | g
        · exact .inl g
        · exact absurd hw g.1
      · subst q1
        exact h0.own z y f1 f2
    · rcases hh x g2 with rfl | ⟨q1, q2, q3⟩
      · exact absurd g1 hpin
      · simp only [if_neg q1]; exact h0.pin x g1 q3
  · exact ⟨ρ, φ, h⟩

end Go.Vcg
/- What a cell names becomes the cell's own, and the other way round; a nil slice is taken for an empty buffer; a state that says less. -/
namespace Go.Vcg

variable {w0 : World} {M : Perm} {S0 : Nat → Prop} {ρ : Nat → Option Loc} {φ : Nat → Nat → Prop} {S : Nat → Prop} {st : St} {a : Act} {w : World}

/-- Kept for good. -/
def SV.cloP : SV → Bool
  | .pl _ | .nl | .pd _ | .bp _ _ | .pm _ | .dead => true
  | _ => false
/-- No names. -/
def SV.clo0 : SV → Bool
  | .pl _ | .nl | .pd _ | .bp _ _ | .pm _ | .dead | .ow _ _ | .bo _ | .mo _ => true
  | _ => false
def SV.clo : SV → Bool
  | .ifc _ s => s.clo0
  | .fn _ a b => a.all SV.cloP && b.all SV.cloP
  | s => s.clo0
def cloRow (row : List SV) : Bool := row.all SV.clo
def cloRows (rows : Rows) : Bool := rows.all cloRow
def cloE (es : List (Value × SV)) : Bool := es.all fun e => e.2.clo

theorem Rep.cloP {v : Value} {s : SV} (h : Rep ρ S w v s) (hc : s.cloP = true) : RepP S w v s := by
  cases h with
  | per h => exact h
  | _ => cases hc
theorem Rep.clo0 {v : Value} {s : SV} (h : Rep ρ S w v s) (hc : s.clo0 = true) : RepP S w v s := by
  cases h with
  | per h => exact h
  | _ => cases hc
theorem CRep.toO {F : Nat → Prop} {v : Value} {c : SV} (h : CRep ρ S w v c F) (hc : c.clo = true) : RepO S w v c F := by
  rcases h with h | h
  · cases h with
    | per h => exact .per h
    | ifc t h => exact .ifc t (.per (h.clo0 hc))
    | fn f va vb x y ha hb h1 h2 =>
      simp only [SV.clo, Bool.and_eq_true, List.all_eq_true] at hc
      exact .per (.fn f va vb x y ha hb (fun i v c g1 g2 => (h1 i v c g1 g2).cloP (hc.1 c (List.mem_of_getElem? g2))) (fun i v c g1 g2 => (h2 i v c g1 g2).cloP (hc.2 c (List.mem_of_getElem? g2))))
    | _ => cases hc
  · exact h
theorem cloRows_get {rows : Rows} (h : cloRows rows = true) {i : Nat} {r : List SV} {j : Nat} {c : SV} (h1 : rows[i]? = some r) (h2 : r[j]? = some c) : c.clo = true := by
  simp only [cloRows, cloRow, List.all_eq_true] at h
  exact h r (List.mem_of_getElem? h1) c (List.mem_of_getElem? h2)

/-- What a reference stands for, as something that owns its memory; what must hold; the name that is used up. -/
def foldRef0 (B : Nat → Option Bk) : SV → Option (Prop × SV × Nat)
  | .sl n i m => match B n with
    | some (.c k rows) => some (cloRows rows = true, .ow k ((rows.drop i).take m), n)
    | _ => none
  | .pt n i o => match B n with
    | some (.c _ rows) => some (i = 0 ∧ o = 0 ∧ rows.length = 1 ∧ cloRows rows = true, .bo (rows.getD 0 []), n)
    | _ => none
  | .mr n => match B n with
    | some (.m es) => some (cloE es = true, .mo es, n)
    | _ => none
  | _ => none
def foldRef (B : Nat → Option Bk) : SV → Option (Prop × SV × Nat)
  | .ifc t s => match foldRef0 B s with
    | some (p, s', n) => some (p, .ifc t s', n)
    | none => none
  | s => foldRef0 B s

theorem CellsAt.toO {F F' : Nat → Prop} {l : Loc} {rows : Rows} (h : CellsAt ρ S w l rows F) (hc : cloRows rows = true) (hl : F' l.blk) (hF : ∀ x, F x → F' x) (hs : ¬ F l.blk) (hlt : l.blk < w.heap.size) (i n cap : Nat) (h1 : n ≤ cap) (h2 : i + n ≤ l.len) (hz : l.base + (i + cap) * l.esz ≤ rowSize w l.blk) :
    RepO S w (.slice (some (l.addr i 0)) n cap) (.ow l.esz ((rows.drop i).take n)) F' := by
  obtain ⟨G, e1, e2, e3⟩ := h.cell
  have hn : ((rows.drop i).take n).length = n := by rw [List.length_take, List.length_drop, h.long]; omega
  have hget : ∀ (i' : Nat) (r : List SV), ((rows.drop i).take n)[i']? = some r → rows[i + i']? = some r := fun i' r g1 => by
    rw [List.getElem?_take] at g1
    split at g1
    · rw [List.getElem?_drop] at g1; exact g1
    · cases g1
  have hcell : ∀ (i' : Nat) (r : List SV) (j : Nat) (c : SV), ((rows.drop i).take n)[i']? = some r → r[j]? = some c → w.cell? (l.addr (i + i') j) = some ((w.cell? (l.addr (i + i') j)).getD undef) ∧ ((w.cell? (l.addr (i + i') j)).getD undef).oneCell' = true ∧
      RepO S w ((w.cell? (l.addr (i + i') j)).getD undef) c (G (i + i') j) := fun i' r j c g1 g2 => by
    obtain ⟨v, f1, f2, f3⟩ := e3 _ r j c (hget i' r g1) g2
    rw [f1]
    exact ⟨rfl, f2, f3.toO (cloRows_get hc (hget i' r g1) g2)⟩
  have := RepO.ow (S := S) (w := w) l.blk (l.base + i * l.esz + 0) l.esz cap ((rows.drop i).take n) (fun i' j => (w.cell? (l.addr (i + i') j)).getD undef) (fun i' j => G (i + i') j) F' hl (fun i' j x g => ⟨hF x (e1 _ _ x g), fun e => hs (e ▸ e1 _ _ x g)⟩)
    (fun p q p' q' x g1 g2 => by have := e2 _ _ _ _ x g1 g2; omega) hlt h.free (by rw [hn]; exact h1) (by rw [Nat.add_mul] at hz; omega) (fun i' r g => h.len _ r (hget i' r g))
    (fun i' r j c g1 g2 => by
      obtain ⟨f1, f2, _⟩ := hcell i' r j c g1 g2
      refine ⟨?_, f2⟩
      rw [← f1]
      congr 2
      show l.base + i * l.esz + 0 + i' * l.esz + j = l.base + (i + i') * l.esz + j
      rw [Nat.add_mul]; omega)
    (fun i' r j c g1 g2 => (hcell i' r j c g1 g2).2.2)
  rw [hn] at this
  exact this

theorem foldRef0_ok (h : Sim w0 M S0 ρ φ S st a w) {v : Value} {s s' : SV} {n : Nat} {p : Prop} (hr : Rep ρ S w v s) (he : foldRef0 st.blk s = some (p, s', n)) (hp : p) : st.blk n ≠ none ∧ RepO S w v s' (owns ρ φ n) := by
  unfold foldRef0 at he
  split at he
  · rename_i n' i m
    split at he <;> try (cases he; done)
    rename_i k rows hB
    simp only [Option.some.injEq, Prod.mk.injEq] at he
    obtain ⟨rfl, rfl, rfl⟩ := he
    have hne : st.blk n' ≠ none := by rw [hB]; simp
    refine ⟨hne, ?_⟩
    cases hr with
    | sl _ _ _ cap l hb hc hi hz =>
      have hok := h.heap.blk n' _ hB
      rcases hok with ⟨h1, _⟩ | ⟨l', h1, h2, h3⟩
      · rw [hb] at h1; cases h1
      · rw [hb] at h1; obtain rfl := Option.some.inj h1
        subst h2
        exact h3.toO hp (.inl ⟨l, hb, rfl⟩) (fun x hx => .inr hx) (h.heap.self n' l hne hb) (h.heap.lt n' _ hne (.inl ⟨l, hb, rfl⟩)) i m cap hc hi hz
    | sl0 ad => rw [List.take_zero]; exact .ow0 ad k _
    | per h => cases h
  · rename_i n' i o
    split at he <;> try (cases he; done)
    rename_i k rows hB
    simp only [Option.some.injEq, Prod.mk.injEq] at he
    obtain ⟨rfl, rfl, rfl⟩ := he
    have hne : st.blk n' ≠ none := by rw [hB]; simp
    refine ⟨hne, ?_⟩
    obtain ⟨rfl, rfl, hlen, hclo⟩ := hp
    cases hr with
    | pt _ _ _ l hb =>
      have hok := h.heap.blk n' _ hB
      rcases hok with ⟨h1, _⟩ | ⟨l', h1, h2, h3⟩
      · rw [hb] at h1; cases h1
      · rw [hb] at h1; obtain rfl := Option.some.inj h1
        obtain ⟨G, e1, e2, e3⟩ := h3.cell
        have hr0 : rows[0]? = some (rows.getD 0 []) := by simp [List.getD_eq_getElem?_getD, hlen]
        refine RepO.bo l.blk (l.base + 0 * l.esz + 0) _ (fun j => (w.cell? (l.addr 0 j)).getD undef) (fun j => G 0 j) _ (.inl ⟨l, hb, rfl⟩) (fun j x g => ⟨.inr (e1 _ _ x g), fun e => h.heap.self n' l hne hb (e ▸ e1 _ _ x g)⟩)
          (fun p q x g1 g2 => (e2 _ _ _ _ x g1 g2).2) (h.heap.lt n' _ hne (.inl ⟨l, hb, rfl⟩)) h3.free (fun j c g => ?_) (fun j c g => ?_)
        · obtain ⟨v, f1, f2, _⟩ := e3 0 _ j c hr0 g
          have : w.cell? ⟨l.blk, l.base + 0 * l.esz + 0 + j, none⟩ = w.cell? (l.addr 0 j) := by unfold Loc.addr; simp
          rw [this, f1]
          exact ⟨rfl, f2⟩
        · obtain ⟨v, f1, _, f3⟩ := e3 0 _ j c hr0 g
          rw [f1]
          exact f3.toO (cloRows_get hclo hr0 g)
    | per h => cases h
  · rename_i n'
    split at he <;> try (cases he; done)
    rename_i es hB
    simp only [Option.some.injEq, Prod.mk.injEq] at he
    obtain ⟨rfl, rfl, rfl⟩ := he
    have hne : st.blk n' ≠ none := by rw [hB]; simp
    refine ⟨hne, ?_⟩
    cases hr with
    | mr _ l hb =>
      have hok := h.heap.blk n' _ hB
      obtain ⟨l', h1, h2⟩ := hok
      rw [hb] at h1; obtain rfl := Option.some.inj h1
      obtain ⟨ents, clk, vs, G, e0, e1, e2, e3, e4, e5⟩ := h2.ex
      simp only [cloE, List.all_eq_true] at hp
      exact .mo l.blk clk ents es vs G _ (.inl ⟨l, hb, rfl⟩) (fun j x g => ⟨.inr (e3 j x g), fun e => h.heap.self n' l hne hb (e ▸ e3 j x g)⟩) e4 e0 e1 e2 fun i v e g1 g2 => (e5 i v e g1 g2).toO (hp e (List.mem_of_getElem? g2))
    | per h => cases h
  · cases he
theorem foldRef_ok (h : Sim w0 M S0 ρ φ S st a w) {v : Value} {s s' : SV} {n : Nat} {p : Prop} (hr : Rep ρ S w v s) (he : foldRef st.blk s = some (p, s', n)) (hp : p) : st.blk n ≠ none ∧ RepO S w v s' (owns ρ φ n) := by
  unfold foldRef at he
  split at he
  · rename_i t s
    split at he <;> try (cases he; done)
    rename_i p' s2 n' h1
    simp only [Option.some.injEq, Prod.mk.injEq] at he
    obtain ⟨rfl, rfl, rfl⟩ := he
    cases hr with
    | ifc _ hr =>
      obtain ⟨g1, g2⟩ := foldRef0_ok h hr h1 hp
      exact ⟨g1, .ifc t g2⟩
    | per hr => cases hr with
      | ifc _ hr =>
        obtain ⟨g1, g2⟩ := foldRef0_ok h (.per hr) h1 hp
        exact ⟨g1, .ifc t g2⟩
  · exact foldRef0_ok h hr he hp

/-- The block n goes into the block b. -/
theorem Sim.absorb (h : Sim w0 M S0 ρ φ S st a w) {b n : Nat} (hbn : b ≠ n) (hb : st.blk b ≠ none) (hn : st.blk n ≠ none) (hw : M.wr n) {k' : Bk} (hok : BkOk ρ S w (fun x => φ b x ∨ owns ρ φ n x) b k') :
    Sim w0 M S0 ρ (fun x => if x = b then (fun y => φ b y ∨ owns ρ φ n y) else φ x) S ((st.kill n).setBlk b k') a w := by
  have h0 := h.kill n
  have hh : ∀ x, ((st.kill n).setBlk b k').blk x ≠ none → st.blk x ≠ none ∧ x ≠ n := fun x hx => by
    rw [St.blk_setBlk] at hx
    by_cases e : x = b
    · subst e; exact ⟨hb, hbn⟩
    · rw [if_neg e] at hx; exact (blk_kill_has hx).symm
  have ho : ∀ x y, owns ρ (fun x => if x = b then (fun y => φ b y ∨ owns ρ φ n y) else φ x) x y → owns ρ φ x y ∨ (x = b ∧ owns ρ φ n y) := fun x y hy => by
    unfold owns at hy
    rcases hy with hy | hy
    · exact .inl (.inl hy)
    · by_cases e : x = b
      · simp only [if_pos e] at hy
        subst e
        exact hy.elim (fun g => .inl (.inr g)) fun g => .inr ⟨rfl, g⟩
      · simp only [if_neg e] at hy; exact .inl (.inr hy)
  refine ⟨h0.size, h0.defers, h0.slot, h0.dslot, ⟨fun x r hx => ?_, fun x x' y g1 g2 e1 e2 => ?_, fun x l g1 e1 e2 => ?_, fun x y g1 e1 => ?_, fun x y g1 e1 => ?_⟩, h0.sb, h0.base, h0.from_, h0.grow, h0.keep, fun x y g1 e1 => ?_, fun x g1 g2 => h.pin x g1 (hh x g2).1, h0.small, h0.wide⟩
  · rw [St.blk_setBlk] at hx
    by_cases e : x = b
    · rw [if_pos e] at hx; obtain rfl := Option.some.inj hx
      subst e
      simp only [if_true]
      exact hok
    · rw [if_neg e] at hx
      simp only [if_neg e]
      exact h0.heap.blk x r hx
  · obtain ⟨f1, f2⟩ := hh x g1
    obtain ⟨f3, f4⟩ := hh x' g2
    rcases ho x y e1 with q1 | ⟨rfl, q1⟩ <;> rcases ho x' y e2 with q2 | ⟨rfl, q2⟩
    · exact h.heap.inj x x' y f1 f3 q1 q2
    · exact absurd (h.heap.inj x n y f1 hn q1 q2) f2
    · exact absurd (h.heap.inj x' n y f3 hn q2 q1) f4
    · rfl
  · obtain ⟨f1, f2⟩ := hh x g1
    by_cases e : x = b
    · simp only [if_pos e] at e2
      subst e
      rcases e2 with e2 | e2
      · exact h.heap.self x l f1 e1 e2
      · exact f2 (h.heap.inj x n _ f1 hn (.inl ⟨l, e1, rfl⟩) e2)
    · simp only [if_neg e] at e2; exact h.heap.self x l f1 e1 e2
  · rcases ho x y e1 with q | ⟨_, q⟩
    · exact h.heap.notS x y (hh x g1).1 q
    · exact h.heap.notS n y hn q
  · rcases ho x y e1 with q | ⟨_, q⟩
    · exact h.heap.lt x y (hh x g1).1 q
    · exact h.heap.lt n y hn q
  · rcases ho x y e1 with q | ⟨_, q⟩
    · exact h.own x y (hh x g1).1 q
    · rcases h.own n y hn q with g | g
      · exact .inl g
      · exact absurd hw g.1

/-- What cell (i, j) of block b names becomes its own. -/
def St.foldAt (st : St) (b i j : Nat) : Option (Prop × St) := match st.blk b with
  | some (.c k rows) => match foldRef st.blk ((rows.getD i []).getD j .dead) with
    | some (p, c', n) => some (p ∧ b ≠ n ∧ i < rows.length ∧ j < (rows.getD i []).length, (st.kill n).setBlk b (Bk.kill n (.c k (rows.set i ((rows.getD i []).set j c')))))
    | none => none
  | some (.m es) => match foldRef st.blk (es.getD i (.nilIface, .dead)).2 with
    | some (p, c', n) => some (p ∧ b ≠ n ∧ i < es.length ∧ j = 0, (st.kill n).setBlk b (Bk.kill n (.m (es.set i ((es.getD i (.nilIface, .dead)).1, c')))))
    | none => none
  | none => none

theorem getD_some' {α : Type} {l : List α} {i : Nat} {x : α} (h : i < l.length) : l[i]? = some (l.getD i x) := by
  rw [List.getD_eq_getElem?_getD, List.getElem?_eq_getElem h]; rfl

theorem CellsAt.setCell {F F' : Nat → Prop} {l : Loc} {rows : Rows} (h : CellsAt ρ S w l rows F) {i j : Nat} (hi : i < rows.length) (hj : j < (rows.getD i []).length) {c' : SV} {X : Nat → Prop} (hX : ∀ x, X x → ¬ F x) (hF : ∀ x, F x ∨ X x → F' x)
    (hc : ∀ v, w.cell? (l.addr i j) = some v → v.oneCell' = true → (∃ F0 : Nat → Prop, CRep ρ S w v ((rows.getD i []).getD j .dead) F0) → CRep ρ S w v c' X) : CellsAt ρ S w l (rows.set i ((rows.getD i []).set j c')) F' := by
  obtain ⟨G, e1, e2, e3⟩ := h.cell
  have hri := getD_some' (x := ([] : List SV)) hi
  have hrj := getD_some' (x := SV.dead) hj
  generalize rows.getD i [] = row at *
  generalize row.getD j .dead = c at *
  refine ⟨h.free, fun i' r g => ?_, by simpa using h.long, fun p q x => (if p = i ∧ q = j then X x else G p q x), fun p q x g => ?_, fun p q p' q' x g1 g2 => ?_, fun p r q d g1 g2 => ?_⟩
  · rw [List.getElem?_set] at g
    by_cases e : i = i'
    · rw [if_pos e, if_pos (by omega)] at g
      obtain rfl := Option.some.inj g; rw [List.length_set]; exact h.len _ _ hri
    · rw [if_neg e] at g; exact h.len _ _ g
  · dsimp only at g
    split at g
    · exact hF x (.inr g)
    · exact hF x (.inl (e1 p q x g))
  · dsimp only at g1 g2
    split at g1 <;> split at g2
    · rename_i u1 u2; exact ⟨u1.1.trans u2.1.symm, u1.2.trans u2.2.symm⟩
    · exact absurd (e1 _ _ x g2) (hX x g1)
    · exact absurd (e1 _ _ x g1) (hX x g2)
    · exact e2 _ _ _ _ x g1 g2
  · rw [List.getElem?_set] at g1
    by_cases ep : i = p
    · subst ep
      rw [if_pos rfl, if_pos hi] at g1
      obtain rfl := Option.some.inj g1
      rw [List.getElem?_set] at g2
      by_cases eq : j = q
      · subst eq
        rw [if_pos rfl, if_pos hj] at g2
        obtain rfl := Option.some.inj g2
        obtain ⟨v, f1, f2, f3⟩ := e3 _ _ _ _ hri hrj
        exact ⟨v, f1, f2, by simp only [and_self, if_true]; exact hc v f1 f2 ⟨_, f3⟩⟩
      · rw [if_neg eq] at g2
        obtain ⟨v, f1, f2, f3⟩ := e3 _ _ _ _ hri g2
        refine ⟨v, f1, f2, ?_⟩
        have : (fun x => if i = i ∧ q = j then X x else G i q x) = G i q := funext fun x => if_neg fun g => eq g.2.symm
        show CRep ρ S w v d (fun x => if i = i ∧ q = j then X x else G i q x)
        rw [this]; exact f3
    · rw [if_neg ep] at g1
      obtain ⟨v, f1, f2, f3⟩ := e3 _ _ _ _ g1 g2
      refine ⟨v, f1, f2, ?_⟩
      have : ¬ (p = i ∧ q = j) := fun g => ep g.1.symm
      simp only [if_neg this]; exact f3

theorem MapAt.setVal {F F' : Nat → Prop} {l : Loc} {es : List (Value × SV)} (h : MapAt ρ S w l es F) {i : Nat} (hi : i < es.length) {c' : SV} {X : Nat → Prop} (hX : ∀ x, X x → ¬ F x) (hF : ∀ x, F x ∨ X x → F' x)
    (hc : ∀ v, (∃ F0 : Nat → Prop, CRep ρ S w v (es.getD i (.nilIface, .dead)).2 F0) → CRep ρ S w v c' X) : MapAt ρ S w l (es.set i ((es.getD i (.nilIface, .dead)).1, c')) F' := by
  obtain ⟨ents, clk, vs, G, e0, e1, e2, e3, e4, e5⟩ := h.ex
  have hri := getD_some' (x := ((.nilIface, .dead) : Value × SV)) hi
  generalize es.getD i (.nilIface, .dead) = c at *
  refine ⟨ents, clk, vs, fun p x => (if p = i then X x else G p x), e0, ?_, by simpa using e2, fun p x g => ?_, fun p q x g1 g2 => ?_, fun p v e g1 g2 => ?_⟩
  · rw [List.map_set]
    have : (es.map (·.1)).set i c.1 = es.map (·.1) := by
      apply List.ext_getElem?
      intro q
      rw [List.getElem?_set]
      split
      · rename_i g; subst g
        rw [if_pos (by simpa using hi), List.getElem?_map, hri]; rfl
      · rfl
    rw [this]; exact e1
  · dsimp only at g
    split at g
    · exact hF x (.inr g)
    · exact hF x (.inl (e3 p x g))
  · dsimp only at g1 g2
    split at g1 <;> split at g2
    · rename_i u1 u2; exact u1.trans u2.symm
    · exact absurd (e3 _ x g2) (hX x g1)
    · exact absurd (e3 _ x g1) (hX x g2)
    · exact e4 _ _ x g1 g2
  · rw [List.getElem?_set] at g2
    by_cases ep : i = p
    · subst ep
      rw [if_pos rfl, if_pos hi] at g2
      obtain rfl := Option.some.inj g2
      simp only [if_true]
      exact hc v ⟨_, e5 _ _ _ g1 hri⟩
    · rw [if_neg ep] at g2
      have : ¬ p = i := fun g => ep g.symm
      simp only [if_neg this]
      exact e5 _ _ _ g1 g2

theorem Sim.foldAt (h : Sim w0 M S0 ρ φ S st a w) {b i j : Nat} {p : Prop} {st' : St} (he : st.foldAt b i j = some (p, st')) (hp : p) (hw : ∀ n, M.wr n) : ∃ φ', Sim w0 M S0 ρ φ' S st' a w := by
  unfold St.foldAt at he
  split at he
  · rename_i k rows hB
    split at he <;> try (cases he; done)
    rename_i p' c' n hf
    simp only [Option.some.injEq, Prod.mk.injEq] at he
    obtain ⟨rfl, rfl⟩ := he
    obtain ⟨hp, hbn, hi, hj⟩ := hp
    have hb : st.blk b ≠ none := by rw [hB]; simp
    have hok := h.heap.blk b _ hB
    rcases hok with ⟨_, h2⟩ | ⟨l, h1, h2, h3⟩
    · subst h2; simp at hi
    have hnn : st.blk n ≠ none := by
      obtain ⟨G, e1, e2, e3⟩ := h3.cell
      obtain ⟨v, f1, f2, f3⟩ := e3 _ _ _ _ (getD_some' (x := ([] : List SV)) hi) (getD_some' (x := SV.dead) hj)
      have hr : Rep ρ S w v ((rows.getD i []).getD j .dead) := by
        rcases f3 with f3 | f3
        · exact f3
        · generalize (rows.getD i []).getD j .dead = c at hf f3
          unfold foldRef at hf
          split at hf
          · rename_i t s
            split at hf <;> try (cases hf; done)
            rename_i h1
            cases f3 with
            | per h => exact .per h
            | ifc _ h => cases h with
              | per h => exact .ifc t (.per h)
              | _ => unfold foldRef0 at h1; cases h1
          · cases f3 with
            | per h => exact .per h
            | _ => unfold foldRef0 at hf; cases hf
      exact (foldRef_ok h hr hf hp).1
    refine ⟨_, h.absorb hbn hb hnn (hw n) (BkOk.kill n (.inr ⟨l, h1, h2, h3.setCell hi hj (X := owns ρ φ n) (fun x hx hx' => hbn (h.heap.inj b n x hb hnn (.inr hx') hx)) (fun x hx => hx) ?_⟩))⟩
    rintro v f1 f2 ⟨F0, f3⟩
    have hr : Rep ρ S w v ((rows.getD i []).getD j .dead) := by
      rcases f3 with f3 | f3
      · exact f3
      · generalize (rows.getD i []).getD j .dead = c at hf f3
        unfold foldRef at hf
        split at hf
        · rename_i t s
          split at hf <;> try (cases hf; done)
          rename_i h1
          cases f3 with
          | per h => exact .per h
          | ifc _ h => cases h with
            | per h => exact .ifc t (.per h)
            | _ => unfold foldRef0 at h1; cases h1
        · cases f3 with
          | per h => exact .per h
          | _ => unfold foldRef0 at hf; cases hf
    exact .inr (foldRef_ok h hr hf hp).2
  · rename_i es hB
    split at he <;> try (cases he; done)
    rename_i p' c' n hf
    simp only [Option.some.injEq, Prod.mk.injEq] at he
    obtain ⟨rfl, rfl⟩ := he
    obtain ⟨hp, hbn, hi, _⟩ := hp
    have hb : st.blk b ≠ none := by rw [hB]; simp
    obtain ⟨l, h1, h3⟩ := h.heap.blk b _ hB
    have hconv : ∀ v (F0 : Nat → Prop), CRep ρ S w v (es.getD i (.nilIface, .dead)).2 F0 → Rep ρ S w v (es.getD i (.nilIface, .dead)).2 := fun v F0 f3 => by
      rcases f3 with f3 | f3
      · exact f3
      · generalize (es.getD i (.nilIface, .dead)).2 = c at hf f3
        unfold foldRef at hf
        split at hf
        · rename_i t s
          split at hf <;> try (cases hf; done)
          rename_i h1
          cases f3 with
          | per h => exact .per h
          | ifc _ h => cases h with
            | per h => exact .ifc t (.per h)
            | _ => unfold foldRef0 at h1; cases h1
        · cases f3 with
          | per h => exact .per h
          | _ => unfold foldRef0 at hf; cases hf
    have hnn : st.blk n ≠ none := by
      obtain ⟨ents, clk, vs, G, e0, e1, e2, e3, e4, e5⟩ := h3.ex
      have hv : i < vs.length := by rw [e2]; exact hi
      have := e5 i vs[i] _ (by simp [hv]) (getD_some' (x := ((.nilIface, .dead) : Value × SV)) hi)
      exact (foldRef_ok h (hconv _ _ this) hf hp).1
    refine ⟨_, h.absorb hbn hb hnn (hw n) (BkOk.kill n ⟨l, h1, h3.setVal hi (X := owns ρ φ n) (fun x hx hx' => hbn (h.heap.inj b n x hb hnn (.inr hx') hx)) (fun x hx => hx) ?_⟩)⟩
    rintro v ⟨F0, f3⟩
    exact .inr (foldRef_ok h (hconv v F0 f3) hf hp).2
  · cases he

end Go.Vcg
/- What a cell owns gets a name; a nil slice is taken for an empty buffer; a state that says less. -/
namespace Go.Vcg

variable {w0 : World} {M : Perm} {S0 : Nat → Prop} {ρ : Nat → Option Loc} {φ : Nat → Nat → Prop} {S : Nat → Prop} {st : St} {a : Act} {w : World}

def openC0 (n : Nat) : SV → Option (SV × Bk)
  | .ow k rows => some (.sl n 0 rows.length, .c k rows)
  | .bo row => some (.pt n 0 0, .c row.length [row])
  | .mo es => some (.mr n, .m es)
  | _ => none
def openC (n : Nat) : SV → Option (SV × Bk)
  | .ifc t s => match openC0 n s with
    | some (s', k) => some (.ifc t s', k)
    | none => none
  | s => openC0 n s

/-- What owns its memory can get a name. -/
structure Opens (S : Nat → Prop) (w : World) (v : Value) (c' : SV) (n : Nat) (Bn : Bk) (F : Nat → Prop) (lo : Option Loc) (Fn : Nat → Prop) : Prop where
  ok : ∀ ρ' : Nat → Option Loc, ρ' n = lo → BkOk ρ' S w Fn n Bn ∧ Rep ρ' S w v c'
  sub : ∀ x, Fn x → F x
  loc : ∀ l, lo = some l → F l.blk ∧ ¬ Fn l.blk

theorem open0_ok {v : Value} {c c' : SV} {n : Nat} {Bn : Bk} {F : Nat → Prop} (h : RepO S w v c F) (he : openC0 n c = some (c', Bn)) : ∃ lo Fn, Opens S w v c' n Bn F lo Fn := by
  cases h with
  | per h => cases h <;> cases he
  | ow0 ad k =>
    simp only [openC0, Option.some.injEq, Prod.mk.injEq] at he
    obtain ⟨rfl, rfl⟩ := he
    exact ⟨none, fun _ => False, fun ρ' h => ⟨.inl ⟨h, rfl⟩, .sl0 ad n 0⟩, fun _ h => h.elim, fun l h => by cases h⟩
  | ow blk off k cap rows f G _ h1 h2 h3 h4 h5 h6 h7 h8 h9 h10 =>
    simp only [openC0, Option.some.injEq, Prod.mk.injEq] at he
    obtain ⟨rfl, rfl⟩ := he
    have e : (⟨blk, off, none⟩ : Addr) = Loc.addr ⟨blk, off, k, rows.length⟩ 0 0 := by simp [Loc.addr]
    refine ⟨some ⟨blk, off, k, rows.length⟩, fun x => F x ∧ x ≠ blk, fun ρ' h => ⟨.inr ⟨_, h, rfl, h5, h8, rfl, G, fun i j x g => h2 i j x g, h3, fun i r j c g1 g2 => ?_⟩, ?_⟩, fun x g => g.1, fun l g => ?_⟩
    · obtain ⟨f1, f2⟩ := h9 i r j c g1 g2
      exact ⟨f i j, f1, f2, .inr (h10 i r j c g1 g2)⟩
    · rw [e]
      exact .sl n 0 rows.length cap _ h h6 (by simp) (by simpa using h7)
    · obtain rfl := Option.some.inj g
      exact ⟨h1, fun g => g.2 rfl⟩
  | bo blk off row f G _ h1 h2 h3 h4 h5 h6 h7 =>
    simp only [openC0, Option.some.injEq, Prod.mk.injEq] at he
    obtain ⟨rfl, rfl⟩ := he
    have e : (⟨blk, off, none⟩ : Addr) = Loc.addr ⟨blk, off, row.length, 1⟩ 0 0 := by simp [Loc.addr]
    have hr : ∀ (i : Nat) (r : List SV), [row][i]? = some r → i = 0 ∧ r = row := fun i r g => by
      cases i with
      | zero => simp at g; exact ⟨rfl, g.symm⟩
      | succ i => simp at g
    refine ⟨some ⟨blk, off, row.length, 1⟩, fun x => F x ∧ x ≠ blk, fun ρ' h => ⟨.inr ⟨_, h, rfl, h5, fun i r g => by rw [(hr i r g).2], rfl, fun i j x => i = 0 ∧ G j x, fun i j x g => h2 j x g.2, fun i j i' j' x g g' => ⟨g.1.trans g'.1.symm, h3 _ _ x g.2 g'.2⟩, fun i r j c g1 g2 => ?_⟩, ?_⟩, fun x g => g.1, fun l g => ?_⟩
    · obtain ⟨rfl, rfl⟩ := hr i r g1
      obtain ⟨f1, f2⟩ := h6 j c g2
      refine ⟨f j, ?_, f2, .inr ((h7 j c g2).sub fun x hx => ⟨rfl, hx⟩)⟩
      rw [← f1]; simp [Loc.addr]
    · rw [e]; exact .pt n 0 0 _ h
    · obtain rfl := Option.some.inj g
      exact ⟨h1, fun g => g.2 rfl⟩
  | mo blk clk ents es vs G _ h1 h2 h3 h4 h5 h6 h7 =>
    simp only [openC0, Option.some.injEq, Prod.mk.injEq] at he
    obtain ⟨rfl, rfl⟩ := he
    refine ⟨some ⟨blk, 0, 0, 0⟩, fun x => F x ∧ x ≠ blk, fun ρ' h => ⟨⟨_, h, ents, clk, vs, G, h4, h5, h6, fun i x g => h2 i x g, h3, fun i v e g1 g2 => .inr (h7 i v e g1 g2)⟩, .mr n ⟨blk, 0, 0, 0⟩ h⟩, fun x g => g.1, fun l g => ?_⟩
    obtain rfl := Option.some.inj g
    exact ⟨h1, fun g => g.2 rfl⟩
  | ifc | ag | tu => cases he
theorem open_ok {v : Value} {c c' : SV} {n : Nat} {Bn : Bk} {F : Nat → Prop} (h : RepO S w v c F) (he : openC n c = some (c', Bn)) : ∃ lo Fn, Opens S w v c' n Bn F lo Fn := by
  unfold openC at he
  split at he
  · rename_i t s
    split at he <;> try (cases he; done)
    rename_i s' k h1
    simp only [Option.some.injEq, Prod.mk.injEq] at he
    obtain ⟨rfl, rfl⟩ := he
    cases h with
    | per h => cases h with
      | ifc _ h => cases h <;> cases h1
    | ifc _ h =>
      obtain ⟨lo, Fn, g⟩ := open0_ok h h1
      exact ⟨lo, Fn, fun ρ' hρ => ⟨(g.ok ρ' hρ).1, .ifc t (g.ok ρ' hρ).2⟩, g.sub, g.loc⟩
  · exact open0_ok h he

/-- The block b gives a part of what it owns to the name n. -/
theorem Sim.split (h : Sim w0 M S0 ρ φ S st a w) {b n : Nat} (hf : st.Free n) (hp : ¬ isPin n) (hb : st.blk b ≠ none) (hw : M.wr b) (X : Nat → Prop) (hX : ∀ x, X x → φ b x) {B' Bn : Bk} {lo : Option Loc} {Fn : Nat → Prop} (hsub : ∀ x, Fn x → X x) (hlo : ∀ l, lo = some l → X l.blk ∧ ¬ Fn l.blk)
    (hB' : ∀ ρ' : Nat → Option Loc, (∀ x, x ≠ n → ρ' x = ρ x) → ρ' n = lo → BkOk ρ' S w (fun x => φ b x ∧ ¬ X x) b B') (hBn : ∀ ρ' : Nat → Option Loc, ρ' n = lo → BkOk ρ' S w Fn n Bn) :
    ∃ ρ' φ', Sim w0 M S0 ρ' φ' S ((st.setBlk b B').setBlk n Bn) a w := by
  have hbn : b ≠ n := fun e => hb (e ▸ hf.1)
  have h1 := h.rename hf lo Fn
  have hh : ∀ x, ((st.setBlk b B').setBlk n Bn).blk x ≠ none → x = n ∨ (x ≠ n ∧ st.blk x ≠ none) := fun x hx => by
    rw [St.blk_setBlk] at hx
    by_cases e : x = n
    · exact .inl e
    · rw [if_neg e, St.blk_setBlk] at hx
      refine .inr ⟨e, ?_⟩
      by_cases e' : x = b
      · subst e'; exact hb
      · rw [if_neg e'] at hx; exact hx
  let ρ' : Nat → Option Loc := fun x => if x = n then lo else ρ x
  let φ' : Nat → Nat → Prop := fun x => if x = n then Fn else if x = b then (fun y => φ b y ∧ ¬ X y) else φ x
  have hon : ∀ y, owns ρ' φ' n y → X y := fun y hy => by
    rcases hy with ⟨l, e1, e2⟩ | hy
    · simp only [ρ', if_true] at e1
      exact e2 ▸ (hlo l e1).1
    · simp only [φ', if_true] at hy; exact hsub y hy
  have ho : ∀ x y, x ≠ n → owns ρ' φ' x y → owns ρ φ x y ∧ (x = b → ¬ X y ∨ ∃ l, ρ b = some l ∧ l.blk = y) := fun x y hx hy => by
    rcases hy with ⟨l, e1, e2⟩ | hy
    · simp only [ρ', if_neg hx] at e1
      exact ⟨.inl ⟨l, e1, e2⟩, fun e => .inr ⟨l, e ▸ e1, e2⟩⟩
    · simp only [φ', if_neg hx] at hy
      by_cases e : x = b
      · simp only [if_pos e] at hy
        subst e
        exact ⟨.inr hy.1, fun _ => .inl hy.2⟩
      · simp only [if_neg e] at hy
        exact ⟨.inr hy, fun g => absurd g e⟩
  have hXo : ∀ y, X y → owns ρ φ b y := fun y hy => .inr (hX y hy)
  have hdis : ∀ x y, x ≠ n → st.blk x ≠ none → owns ρ' φ' x y → ¬ X y := fun x y hx hb' hy hXy => by
    obtain ⟨g1, g2⟩ := ho x y hx hy
    have := h.heap.inj x b y hb' hb g1 (hXo y hXy)
    subst this
    rcases g2 rfl with g | ⟨l, g3, g4⟩
    · exact g hXy
    · exact h.heap.self _ l hb g3 (g4 ▸ hX y hXy)
  refine ⟨ρ', φ', h1.size, h1.defers, h1.slot, h1.dslot, ⟨fun x r hx => ?_, fun x x' y g1 g2 e1 e2 => ?_, fun x l g1 e1 e2 => ?_, fun x y g1 e1 => ?_, fun x y g1 e1 => ?_⟩, h1.sb, h1.base, h1.from_, h1.grow, h1.keep, fun x y g1 e1 => ?_, fun x g1 g2 => ?_, h1.small, h1.wide⟩
  · rw [St.blk_setBlk] at hx
    by_cases e : x = n
    · rw [if_pos e] at hx
      obtain rfl := Option.some.inj hx
      subst e
      simp only [φ', if_true]
      exact hBn _ (if_pos rfl)
    · rw [if_neg e, St.blk_setBlk] at hx
      by_cases e' : x = b
      · rw [if_pos e'] at hx
        obtain rfl := Option.some.inj hx
        subst e'
        simp only [φ', if_neg e, if_true]
        exact hB' _ (fun y hy => if_neg hy) (if_pos rfl)
      · rw [if_neg e'] at hx
        have := h1.heap.blk x r hx
        simp only [if_neg e] at this
        simp only [φ', if_neg e, if_neg e']
        exact this
  · rcases hh x g1 with rfl | ⟨q1, q2⟩ <;> rcases hh x' g2 with rfl | ⟨q3, q4⟩
    · rfl
    · exact absurd (hon y e1) (hdis x' y q3 q4 e2)
    · exact absurd (hon y e2) (hdis x y q1 q2 e1)
    · exact h.heap.inj x x' y q2 q4 (ho x y q1 e1).1 (ho x' y q3 e2).1
  · rcases hh x g1 with rfl | ⟨q1, q2⟩
    · simp only [ρ', φ', if_true] at e1 e2
      exact (hlo l e1).2 e2
    · simp only [ρ', φ', if_neg q1] at e1 e2
      by_cases e : x = b
      · simp only [if_pos e] at e2
        subst e
        exact h.heap.self _ l q2 e1 e2.1
      · simp only [if_neg e] at e2
        exact h.heap.self x l q2 e1 e2
  · rcases hh x g1 with rfl | ⟨q1, q2⟩
    · exact h.heap.notS b y hb (hXo y (hon y e1))
    · exact h.heap.notS x y q2 (ho x y q1 e1).1
  · rcases hh x g1 with rfl | ⟨q1, q2⟩
    · exact h.heap.lt b y hb (hXo y (hon y e1))
    · exact h.heap.lt x y q2 (ho x y q1 e1).1
  · rcases hh x g1 with rfl | ⟨q1, q2⟩
    · rcases h.own b y hb (hXo y (hon y e1)) with g | g
      · exact .inl g
      · exact absurd hw g.1
    · exact h.own x y q2 (ho x y q1 e1).1
  · rcases hh x g2 with rfl | ⟨q1, q2⟩
    · exact absurd g1 hp
    · simp only [ρ', if_neg q1]; exact h.pin x g1 q2

/-- What cell (i, j) of block b owns gets the name n. -/
def St.unfoldAt (st : St) (b i j n : Nat) : Option (Prop × St) := match (st.kill n).blk b with
  | some (.c k rows) => match openC n ((rows.getD i []).getD j .dead) with
    | some (c', Bn) => some (¬ isPin n ∧ i < rows.length ∧ j < (rows.getD i []).length, ((st.kill n).setBlk b (.c k (rows.set i ((rows.getD i []).set j c')))).setBlk n Bn)
    | none => none
  | some (.m es) => match openC n (es.getD i (.nilIface, .dead)).2 with
    | some (c', Bn) => some (¬ isPin n ∧ i < es.length ∧ j = 0, ((st.kill n).setBlk b (.m (es.set i ((es.getD i (.nilIface, .dead)).1, c')))).setBlk n Bn)
    | none => none
  | none => none

theorem openC_rep {F : Nat → Prop} {v : Value} {c : SV} {n : Nat} {p : SV × Bk} (he : openC n c = some p) (h : CRep ρ S w v c F) : RepO S w v c F := by
  rcases h with h | h
  · unfold openC at he
    split at he
    · rename_i t s
      split at he <;> try (cases he; done)
      rename_i h1
      cases h with
      | per h => exact .per h
      | ifc _ h => cases h with
        | per h => exact .per (.ifc t h)
        | _ => cases h1
    · cases h with
      | per h => exact .per h
      | _ => cases he
  · exact h

theorem Sim.unfoldAt (h : Sim w0 M S0 ρ φ S st a w) {b i j n : Nat} {p : Prop} {st' : St} (he : st.unfoldAt b i j n = some (p, st')) (hp : p) (hw : ∀ b, M.wr b) : ∃ ρ' φ', Sim w0 M S0 ρ' φ' S st' a w := by
  have h0 := h.kill n
  have hf := st.kill_free n
  unfold St.unfoldAt at he
  generalize st.kill n = s0 at he h0 hf
  split at he
  · rename_i k rows hB
    split at he <;> try (cases he; done)
    rename_i c' Bn ho
    simp only [Option.some.injEq, Prod.mk.injEq] at he
    obtain ⟨rfl, rfl⟩ := he
    obtain ⟨hp, hi, hj⟩ := hp
    have hb : s0.blk b ≠ none := by rw [hB]; simp
    have hnm : ¬ (Bk.c k rows).Names n := hf.2.2 b _ hB
    have hbn : b ≠ n := fun e => hb (e ▸ hf.1)
    rcases h0.heap.blk b _ hB with ⟨_, h2⟩ | ⟨l, h1, h2, h3⟩
    · subst h2; simp at hi
    obtain ⟨G, e1, e2, e3⟩ := h3.cell
    have hri := getD_some' (x := ([] : List SV)) hi
    have hrj := getD_some' (x := SV.dead) hj
    obtain ⟨v, f1, f2, f3⟩ := e3 _ _ _ _ hri hrj
    obtain ⟨lo, Fn, hO⟩ := open_ok (openC_rep ho f3) ho
    refine h0.split hf hp hb (hw b) (G i j) (fun x hx => e1 i j x hx) hO.sub hO.loc (fun ρ' hρ hn => ?_) (fun ρ' hn => (hO.ok ρ' hn).1)
    refine .inr ⟨l, (hρ b hbn).trans h1, h2, h3.free, fun i' r g => ?_, by simpa using h3.long, fun p q x => (if p = i ∧ q = j then False else G p q x), fun p q x g => ?_, fun p q p' q' x g1 g2 => ?_, fun p r q d g1 g2 => ?_⟩
    · rw [List.getElem?_set] at g
      by_cases e : i = i'
      · rw [if_pos e, if_pos (by omega)] at g
        obtain rfl := Option.some.inj g; rw [List.length_set]; exact h3.len _ _ hri
      · rw [if_neg e] at g; exact h3.len _ _ g
    · dsimp only at g
      split at g
      · exact g.elim
      · rename_i hne
        exact ⟨e1 p q x g, fun g' => hne (e2 _ _ _ _ x g g')⟩
    · dsimp only at g1 g2
      split at g1
      · exact g1.elim
      · split at g2
        · exact g2.elim
        · exact e2 _ _ _ _ x g1 g2
    · have hm : ∀ {v : Value} {c : SV} {F : Nat → Prop}, ¬ c.Names n → CRep ρ S w v c F → CRep ρ' S w v c F := fun {v c F} hc h => h.mono (fun _ h => h) (Nat.le_refl _) (fun _ _ _ => rfl) h0.sb (fun x hx => hρ x fun e => hc (e ▸ hx)) (fun _ => Nat.le_refl _) (fun _ h => h)
      rw [List.getElem?_set] at g1
      by_cases ep : i = p
      · subst ep
        rw [if_pos rfl, if_pos hi] at g1
        obtain rfl := Option.some.inj g1
        rw [List.getElem?_set] at g2
        by_cases eq : j = q
        · subst eq
          rw [if_pos rfl, if_pos hj] at g2
          obtain rfl := Option.some.inj g2
          exact ⟨v, f1, f2, .inl (hO.ok ρ' hn).2⟩
        · rw [if_neg eq] at g2
          obtain ⟨v', f1', f2', f3'⟩ := e3 _ _ _ _ hri g2
          refine ⟨v', f1', f2', ?_⟩
          have : (fun x => if i = i ∧ q = j then False else G i q x) = G i q := funext fun x => if_neg fun g => eq g.2.symm
          show CRep ρ' S w v' d (fun x => if i = i ∧ q = j then False else G i q x)
          rw [this]
          exact hm (fun g => hnm (.c k rows _ d n (List.mem_of_getElem? hri) (List.mem_of_getElem? g2) g)) f3'
      · rw [if_neg ep] at g1
        obtain ⟨v', f1', f2', f3'⟩ := e3 _ _ _ _ g1 g2
        refine ⟨v', f1', f2', ?_⟩
        have : (fun x => if p = i ∧ q = j then False else G p q x) = G p q := funext fun x => if_neg fun g => ep g.1.symm
        show CRep ρ' S w v' d (fun x => if p = i ∧ q = j then False else G p q x)
        rw [this]
        exact hm (fun g => hnm (.c k rows r d n (List.mem_of_getElem? g1) (List.mem_of_getElem? g2) g)) f3'
  · rename_i es hB
    split at he <;> try (cases he; done)
    rename_i c' Bn ho
    simp only [Option.some.injEq, Prod.mk.injEq] at he
    obtain ⟨rfl, rfl⟩ := he
    obtain ⟨hp, hi, _⟩ := hp
    have hb : s0.blk b ≠ none := by rw [hB]; simp
    have hnm : ¬ (Bk.m es).Names n := hf.2.2 b _ hB
    have hbn : b ≠ n := fun e => hb (e ▸ hf.1)
    obtain ⟨l, h1, h3⟩ := h0.heap.blk b _ hB
    obtain ⟨ents, clk, vs, G, e0, e1, e2, e3, e4, e5⟩ := h3.ex
    have hri := getD_some' (x := ((.nilIface, .dead) : Value × SV)) hi
    have hv : i < vs.length := by rw [e2]; exact hi
    have f3 := e5 i vs[i] _ (by simp [hv]) hri
    obtain ⟨lo, Fn, hO⟩ := open_ok (openC_rep ho f3) ho
    refine h0.split hf hp hb (hw b) (G i) (fun x hx => e3 i x hx) hO.sub hO.loc (fun ρ' hρ hn => ?_) (fun ρ' hn => (hO.ok ρ' hn).1)
    refine ⟨l, (hρ b hbn).trans h1, ents, clk, vs, fun p x => (if p = i then False else G p x), e0, ?_, by simpa using e2, fun p x g => ?_, fun p q x g1 g2 => ?_, fun p v' e g1 g2 => ?_⟩
    · rw [List.map_set]
      have : (es.map (·.1)).set i (es.getD i (.nilIface, .dead)).1 = es.map (·.1) := by
        apply List.ext_getElem?
        intro q
        rw [List.getElem?_set]
        split
        · rename_i g; subst g
          rw [if_pos (by simpa using hi), List.getElem?_map, hri]; rfl
        · rfl
      rw [this]; exact e1
    · dsimp only at g
      split at g
      · exact g.elim
      · rename_i hne
        exact ⟨e3 p x g, fun g' => hne (e4 _ _ x g g')⟩
    · dsimp only at g1 g2
      split at g1
      · exact g1.elim
      · split at g2
        · exact g2.elim
        · exact e4 _ _ x g1 g2
    · rw [List.getElem?_set] at g2
      by_cases ep : i = p
      · subst ep
        rw [if_pos rfl, if_pos hi] at g2
        obtain rfl := Option.some.inj g2
        have : v' = vs[i] := by
          rw [List.getElem?_eq_getElem hv] at g1; exact (Option.some.inj g1).symm
        subst this
        exact .inl (hO.ok ρ' hn).2
      · rw [if_neg ep] at g2
        have : (fun x => if p = i then False else G p x) = G p := funext fun x => if_neg fun g => ep g.symm
        show CRep ρ' S w v' e.2 (fun x => if p = i then False else G p x)
        rw [this]
        exact (e5 _ _ _ g1 g2).mono (fun _ h => h) (Nat.le_refl _) (fun _ _ _ => rfl) h0.sb (fun x hx => hρ x fun e' => hnm (.m es e n (List.mem_of_getElem? g2) (e' ▸ hx))) (fun _ => Nat.le_refl _) (fun _ h => h)
  · cases he

/-! ## Nil slices -/

/-- An empty buffer without a place. -/
theorem Sim.virtBlk (h : Sim w0 M S0 ρ φ S st a w) (d k : Nat) (hp : ¬ isPin d) : ∃ ρ' φ', Sim w0 M S0 ρ' φ' S ((st.kill d).setBlk d (.c k [])) a w ∧ ∀ x, x ≠ d → ρ' x = ρ x := by
  have h1 := (h.kill d).rename (st.kill_free d) none (fun _ => False)
  have hno : ∀ x, ¬ owns (fun x => if x = d then none else ρ x) (fun x => if x = d then (fun _ => False) else φ x) d x := fun x hx => by
    rcases owns_same.mp hx with ⟨l, e, _⟩ | g
    · cases e
    · exact g
  exact ⟨_, _, h1.addBlk (st.kill_free d).1 hp (.inl ⟨if_pos rfl, rfl⟩) (fun b x _ _ hx => hno x hx) (fun l e => by simp only [if_true] at e; cases e) (fun x hx => absurd hx (hno x)) (fun x hx => absurd hx (hno x)) (fun x hx => absurd hx (hno x)), fun x hx => if_neg hx⟩

theorem Rep.pl_eq {v u : Value} (h : Rep ρ S w v (.pl u)) : v = u := by
  cases h with | per h => cases h; rfl
theorem Rep.nl_eq {v : Value} (h : Rep ρ S w v .nl) : v = .slice none 0 0 := by
  cases h with | per h => cases h; rfl

/-- The nil slice in slot t is taken for the empty buffer d, of rows of k cells. -/
def St.virt (st : St) (t d k : Nat) : St := match st.get t with
  | .nl => if isPin d then st else ((st.kill d).setBlk d (.c k [])).set t (.sl d 0 0)
  | _ => st
theorem Sim.virt (h : Sim w0 M S0 ρ φ S st a w) (t d k : Nat) : ∃ ρ' φ', Sim w0 M S0 ρ' φ' S (st.virt t d k) a w := by
  unfold St.virt
  split
  · rename_i e
    split
    · exact ⟨_, _, h⟩
    · rename_i hp
      obtain ⟨ρ', φ', h', _⟩ := h.virtBlk d k hp
      refine ⟨ρ', φ', h'.reslot t ?_⟩
      have := h.slot t
      rw [e] at this
      rw [this.nl_eq]
      exact .sl0 none d 0
  · exact ⟨_, _, h⟩

/-- The nil slice in cell (i, j) of block b is taken for the empty buffer d. -/
def St.virtAt (st : St) (b i j d k : Nat) : St := match (st.kill d).blk b with
  | some (.c k' rows) => match (rows.getD i []).getD j .dead with
    | .nl => if isPin d ∨ ¬ (i < rows.length ∧ j < (rows.getD i []).length) then st else ((st.kill d).setBlk d (.c k [])).setBlk b (.c k' (rows.set i ((rows.getD i []).set j (.sl d 0 0))))
    | _ => st
  | _ => st
theorem Sim.reblk (h : Sim w0 M S0 ρ φ S st a w) {b : Nat} {B B' : Bk} (hb : st.blk b = some B) (hok : BkOk ρ S w (φ b) b B → BkOk ρ S w (φ b) b B') : Sim w0 M S0 ρ φ S (st.setBlk b B') a w := by
  have hne : st.blk b ≠ none := by rw [hb]; simp
  have hh : ∀ x, (st.setBlk b B').blk x ≠ none → st.blk x ≠ none := fun x hx => by
    rw [St.blk_setBlk] at hx
    by_cases e : x = b
    · subst e; exact hne
    · rw [if_neg e] at hx; exact hx
  refine ⟨h.size, h.defers, h.slot, h.dslot, ⟨fun x r hx => ?_, fun x x' y h1 h2 => h.heap.inj x x' y (hh x h1) (hh x' h2), fun x l h1 => h.heap.self x l (hh x h1), fun x y h1 => h.heap.notS x y (hh x h1), fun x y h1 => h.heap.lt x y (hh x h1)⟩, h.sb, h.base, h.from_, h.grow, h.keep,
    fun x y h1 => h.own x y (hh x h1), fun x h1 h2 => h.pin x h1 (hh x h2), h.small, h.wide⟩
  rw [St.blk_setBlk] at hx
  by_cases e : x = b
  · rw [if_pos e] at hx; obtain rfl := Option.some.inj hx; subst e; exact hok (h.heap.blk _ _ hb)
  · rw [if_neg e] at hx; exact h.heap.blk x r hx
theorem Sim.virtAt (h : Sim w0 M S0 ρ φ S st a w) (b i j d k : Nat) : ∃ ρ' φ', Sim w0 M S0 ρ' φ' S (st.virtAt b i j d k) a w := by
  unfold St.virtAt
  split
  · rename_i k' rows hB
    split
    · rename_i hc
      split
      · exact ⟨_, _, h⟩
      · rename_i hp
        have hpd : ¬ isPin d := fun g => hp (.inl g)
        have hij : i < rows.length ∧ j < (rows.getD i []).length := Classical.byContradiction fun g => hp (.inr g)
        obtain ⟨ρ', φ', h', _⟩ := h.virtBlk d k hpd
        have hbd : b ≠ d := (blk_kill_ne hB).1
        refine ⟨ρ', φ', h'.reblk (B := .c k' rows) (by rw [St.blk_setBlk, if_neg hbd]; exact hB) fun hok => ?_⟩
        rcases hok with ⟨h1, h2⟩ | ⟨l, h1, h2, h3⟩
        · subst h2; exact absurd hij.1 (by simp)
        · refine .inr ⟨l, h1, h2, h3.setCell hij.1 hij.2 (X := fun _ => False) (fun _ g => g.elim) (fun x hx => hx.elim id False.elim) ?_⟩
          rintro v _ _ ⟨F0, f3⟩
          rw [hc] at f3
          rcases f3 with f3 | f3
          · cases f3 with | per g => cases g; exact .inl (.sl0 none d 0)
          · cases f3 with | per g => cases g; exact .inl (.sl0 none d 0)
    · exact ⟨_, _, h⟩
  · exact ⟨_, _, h⟩

/-! ## A state that says less -/

theorem Sim.sub {st' : St} (h : Sim w0 M S0 ρ φ S st a w) (hn : st'.n = st.n) (hg : ∀ t, st'.get t = st.get t ∨ st'.get t = .dead) (hb : ∀ b r, st'.blk b = some r → st.blk b = some r) (hd : st'.df = st.df) : Sim w0 M S0 ρ φ S st' a w := by
  have hb' : ∀ b, st'.blk b ≠ none → st.blk b ≠ none := fun b hr => by
    obtain ⟨r, hr⟩ := Option.ne_none_iff_exists'.mp hr
    rw [hb b r hr]; simp
  refine ⟨by rw [hn]; exact h.size, by rw [hd]; exact h.defers, fun t => ?_, fun i j => by unfold St.dget; rw [hd]; exact h.dslot i j, ⟨fun b r hr => h.heap.blk b r (hb b r hr), fun b b' x h1 h2 => h.heap.inj b b' x (hb' b h1) (hb' b' h2), fun b l h1 => h.heap.self b l (hb' b h1), fun b x h1 => h.heap.notS b x (hb' b h1), fun b x h1 => h.heap.lt b x (hb' b h1)⟩,
    h.sb, h.base, h.from_, h.grow, h.keep, fun b x h1 => h.own b x (hb' b h1), fun b h1 h2 => h.pin b h1 (hb' b h2), by rw [hn]; exact h.small, h.wide⟩
  rcases hg t with e | e
  · rw [e]; exact h.slot t
  · rw [e]; exact .dead _

def slOk (st : St) : List (Nat × SV) → Prop
  | [] => True
  | (t, s) :: l => st.get t = s ∧ slOk st l
def blOk (st : St) : List (Nat × Bk) → Prop
  | [] => True
  | (b, r) :: l => st.blk b = some r ∧ blOk st l
theorem slOk_get : ∀ {l : List (Nat × SV)}, slOk st l → ∀ t, (l.lookup t).getD .dead = st.get t ∨ (l.lookup t).getD .dead = .dead := by
  intro l
  induction l with
  | nil => intro _ t; exact .inr rfl
  | cons p l ih =>
    obtain ⟨x, s⟩ := p
    intro h t
    rw [lookup_cons_if]
    split
    · rename_i e; subst e; exact .inl h.1.symm
    · exact ih h.2 t
theorem blOk_get : ∀ {l : List (Nat × Bk)}, blOk st l → ∀ t r, l.lookup t = some r → st.blk t = some r := by
  intro l
  induction l with
  | nil => intro _ t r h; simp at h
  | cons p l ih =>
    obtain ⟨x, s⟩ := p
    intro h t r
    rw [lookup_cons_if]
    split
    · rename_i e; subst e; intro g; obtain rfl := Option.some.inj g; exact h.1
    · exact ih h.2 t r
theorem Sim.to {n : Nat} {sl : List (Nat × SV)} {bl : List (Nat × Bk)} {df : List Dfd} (h : Sim w0 M S0 ρ φ S st a w) (hn : st.n = n) (h1 : slOk st sl) (h3 : blOk st bl) (hd : st.df = df) : Sim w0 M S0 ρ φ S ⟨n, sl, bl, df⟩ a w := h.sub hn.symm (slOk_get h1) (blOk_get h3) hd.symm

end Go.Vcg
/- Types as a table; the operations that only compute or read. -/
namespace Go.Vcg

/-! ## Types -/

inductive TK where
  | int (k : IntKind) | bool | str | slice (e : Nat) | arr (n e : Nat) | struct (fs : List (Nat × Nat)) | ptr (e : Nat) | map (k e : Nat) | iface | other

def tkOf : TypeDesc → TK
  | .int k => .int k
  | .bool => .bool
  | .string => .str
  | .slice e => .slice e
  | .array n e => .arr n e
  | .struct fs => .struct (fs.toList.map fun f => (f.offset, f.type))
  | .pointer e => .ptr e
  | .map k e => .map k e
  | .interface _ => .iface
  | _ => .other

structure TI where
  k : TK
  size : Nat
  bytes : Nat
  zero : List Value

structure TI.Ok (P : Program) (t : Nat) (ti : TI) : Prop where
  info : (P.info? t).map (fun i => (i.zero.map fun v => v.cells.toList, i.size, i.bytes)) = some (some ti.zero, ti.size, ti.bytes)
  desc : (P.underlying t).map tkOf = some ti.k

def TOk (P : Program) (T : Nat → Option TI) : Prop := ∀ t ti, T t = some ti → TI.Ok P t ti

def TK.agg : TK → Bool
  | .arr _ _ => true
  | .struct _ => true
  | _ => false

section
variable {P : Program} {t : Nat} {ti : TI} (w : World)
theorem TI.Ok.parts (h : TI.Ok P t ti) : ∃ i z, P.info? t = some i ∧ i.zero = some z ∧ z.cells.toList = ti.zero ∧ i.size = ti.size ∧ i.bytes = ti.bytes := by
  obtain ⟨i, h1, h2⟩ := Option.map_eq_some_iff.mp h.info
  simp only [Prod.mk.injEq, Option.map_eq_some_iff] at h2
  obtain ⟨⟨z, h3, h4⟩, h5, h6⟩ := h2
  exact ⟨i, z, h1, h3, h4, h5, h6⟩
theorem TI.Ok.und (h : TI.Ok P t ti) : ∃ d, P.underlying t = some d ∧ tkOf d = ti.k := Option.map_eq_some_iff.mp h.desc
theorem TI.Ok.run_info (h : TI.Ok P t ti) : ∃ i z, (typeInfo t).run P w = .ok i w ∧ i.zero = some z ∧ z.cells.toList = ti.zero ∧ i.size = ti.size ∧ i.bytes = ti.bytes := by
  obtain ⟨i, z, h1, h2⟩ := h.parts
  exact ⟨i, z, by simp [typeInfo, h1], h2⟩
theorem TI.Ok.run_size (h : TI.Ok P t ti) : (sizeOf t).run P w = .ok ti.size w := by
  obtain ⟨i, z, h1, _, _, h4, _⟩ := h.run_info w
  simp [sizeOf, h1, h4]
theorem TI.Ok.run_zero (h : TI.Ok P t ti) : ∃ z, (∀ w, (zeroValue t).run P w = .ok z w) ∧ z.cells.toList = ti.zero := by
  obtain ⟨i, z, h1, h2, h3, _⟩ := h.parts
  exact ⟨z, fun w => by simp [zeroValue, typeInfo, h1, h2], h3⟩
theorem TI.Ok.run_und (h : TI.Ok P t ti) : ∃ d, (∀ w, (underlying t).run P w = .ok d w) ∧ tkOf d = ti.k := by
  obtain ⟨d, h1, h2⟩ := h.und
  exact ⟨d, fun w => run_underlying h1 w, h2⟩
theorem TI.Ok.run_agg (h : TI.Ok P t ti) : (isAgg t).run P w = .ok ti.k.agg w := by
  obtain ⟨d, h1, h2⟩ := h.run_und
  rw [← h2]
  simp only [isAgg, Sem.run_bind, h1, Result.andThen_ok]
  cases d <;> rfl
theorem tk_slice {d : TypeDesc} {e : Nat} (h : tkOf d = .slice e) : d = .slice e := by cases d <;> simp [tkOf] at h <;> simp [h]
theorem tk_arr {d : TypeDesc} {n e : Nat} (h : tkOf d = .arr n e) : d = .array n e := by cases d <;> simp [tkOf] at h <;> simp [h]
theorem tk_int {d : TypeDesc} {k : IntKind} (h : tkOf d = .int k) : d = .int k := by cases d <;> simp [tkOf] at h <;> simp [h]
theorem tk_str {d : TypeDesc} (h : tkOf d = .str) : d = .string := by cases d <;> simp [tkOf] at h ⊢
theorem tk_struct {d : TypeDesc} {fs : List (Nat × Nat)} (h : tkOf d = .struct fs) : ∃ a : Array Field, d = .struct a ∧ a.toList.map (fun f => (f.offset, f.type)) = fs := by
  cases d <;> simp [tkOf] at h
  exact ⟨_, rfl, h⟩
end

/-! ## Operands -/

def conSV : Value → SV
  | .slice none 0 0 => .nl
  | v => .pl v
theorem conSV_rep (S : Nat → Prop) (w : World) (v : Value) : RepP S w v (conSV v) := by
  unfold conSV
  split
  · exact .nl
  · exact .pl v

def St.ev (st : St) : Operand → SV
  | .tmp t => st.get t
  | .const v => conSV v
  | .global g => .pl (.pointer (some ⟨g, 0, none⟩))
  | .func f => .pl (.func (.func f) #[] #[])

variable {w0 : World} {M : Perm} {S0 : Nat → Prop} {ρ : Nat → Option Loc} {φ : Nat → Nat → Prop} {S : Nat → Prop} {st : St} {a : Act} {w : World} {P : Program} {T : Nat → Option TI}

theorem Sim.ev (h : Sim w0 M S0 ρ φ S st a w) (x : Operand) : Rep ρ S w (a.eval x) (st.ev x) := by
  cases x with
  | tmp t => exact h.slot t
  | const v => exact .per (conSV_rep S w v)
  | global g => exact .per (.pl _)
  | func f => exact .per (.pl _)

theorem Rep.ag_inv {v : Value} {cs : List SV} (h : Rep ρ S w v (.ag cs)) : ∃ vs : List Value, v = .agg vs.toArray ∧ vs.length = cs.length ∧ ∀ (i : Nat) (u : Value) (c : SV), vs[i]? = some u → cs[i]? = some c → Rep ρ S w u c := by
  cases h with
  | ag vs _ hl h => exact ⟨vs, rfl, hl, h⟩
  | per h => cases h with
    | ag vs _ hl h => exact ⟨vs, rfl, hl, fun i u c h1 h2 => .per (h i u c h1 h2)⟩
theorem Rep.tu_inv {v : Value} {cs : List SV} (h : Rep ρ S w v (.tu cs)) : ∃ vs : List Value, v = .tuple vs.toArray ∧ vs.length = cs.length ∧ ∀ (i : Nat) (u : Value) (c : SV), vs[i]? = some u → cs[i]? = some c → Rep ρ S w u c := by
  cases h with
  | tu vs _ hl h => exact ⟨vs, rfl, hl, h⟩
  | per h => cases h with
    | tu vs _ hl h => exact ⟨vs, rfl, hl, fun i u c h1 h2 => .per (h i u c h1 h2)⟩

/-- What is seen of a cell by one who loads it. -/
def SV.vis0 : SV → SV
  | .ow _ _ => .dead
  | .bo _ => .dead
  | .mo _ => .dead
  | .ag _ => .dead
  | .tu _ => .dead
  | .ifc _ _ => .dead
  | s => s
def SV.vis : SV → SV
  | .ifc t s => .ifc t s.vis0
  | s => s.vis0
theorem Rep.vis0 {v : Value} {c : SV} (h : Rep ρ S w v c) : Rep ρ S w v c.vis0 := by
  cases c <;> first | exact h | exact .dead v
theorem Rep.vis {v : Value} {c : SV} (h : Rep ρ S w v c) : Rep ρ S w v c.vis := by
  cases c with
  | ifc t s => cases h with
    | ifc _ h => exact .ifc t h.vis0
    | per h => cases h with
      | ifc _ h => exact .ifc t (Rep.vis0 (.per h))
  | _ => exact h.vis0
theorem RepO.vis0 {v : Value} {c : SV} {F : Nat → Prop} (h : RepO S w v c F) : Rep ρ S w v c.vis0 := by
  cases h with
  | per h => exact Rep.vis0 (.per h)
  | _ => exact .dead _
theorem CRep.vis {v : Value} {c : SV} {F : Nat → Prop} (h : CRep ρ S w v c F) : Rep ρ S w v c.vis := by
  rcases h with h | h
  · exact h.vis
  · cases h with
    | per h => exact Rep.vis (.per h)
    | ifc t h => exact .ifc t h.vis0
    | _ => exact .dead _

theorem getD_some {rows : Rows} {i : Nat} (h : i < rows.length) : rows[i]? = some (rows.getD i []) := getD_some' h
theorem Sim.cellsAt (h : Sim w0 M S0 ρ φ S st a w) {b k : Nat} {l : Loc} {rows : Rows} (hb : st.blk b = some (.c k rows)) (hl : ρ b = some l) : l.esz = k ∧ CellsAt ρ S w l rows (φ b) := by
  rcases h.heap.blk b _ hb with ⟨h1, _⟩ | ⟨l', h1, h2, h3⟩
  · rw [hl] at h1; cases h1
  · rw [hl] at h1; obtain rfl := Option.some.inj h1; exact ⟨h2, h3⟩
theorem CellsAt.at {F : Nat → Prop} {l : Loc} {rows : Rows} (h : CellsAt ρ S w l rows F) {i : Nat} {r : List SV} {j : Nat} {c : SV} (h1 : rows[i]? = some r) (h2 : r[j]? = some c) : ∃ v, w.cell? (l.addr i j) = some v ∧ v.oneCell' = true ∧ Rep ρ S w v c.vis := by
  obtain ⟨G, _, _, e3⟩ := h.cell
  obtain ⟨v, f1, f2, f3⟩ := e3 i r j c h1 h2
  exact ⟨v, f1, f2, f3.vis⟩

/-- The row that an address points into, and where in it. -/
def St.at (st : St) : SV → Option (Prop × List SV × Nat)
  | .pt b i off => match st.blk b with
    | some (.c _ rows) => some (i < rows.length, rows.getD i [], off)
    | _ => none
  | .bp row off => some (True, row, off)
  | _ => none

/-- What stands at an address: a cell, or several. -/
theorem Sim.at (h : Sim w0 M S0 ρ φ S st a w) {v : Value} {s : SV} (hr : Rep ρ S w v s) {side : Prop} {row : List SV} {off : Nat} (he : st.at s = some (side, row, off)) (hs : side) :
    ∃ b o, v = .pointer (some ⟨b, o, none⟩) ∧ ∀ (j : Nat) (c : SV), row[off + j]? = some c → ∃ u, w.cell? ⟨b, o + j, none⟩ = some u ∧ Rep ρ S w u c.vis := by
  unfold St.at at he
  split at he
  · rename_i b i o
    split at he <;> try (cases he; done)
    rename_i k rows hb
    simp only [Option.some.injEq, Prod.mk.injEq] at he
    obtain ⟨rfl, rfl, rfl⟩ := he
    cases hr with
    | per h => cases h
    | pt _ _ _ l hl =>
      refine ⟨l.blk, l.base + i * l.esz + o, rfl, fun j c hc => ?_⟩
      obtain ⟨u, h1, _, h3⟩ := (h.cellsAt hb hl).2.at (getD_some hs) hc
      exact ⟨u, by rw [← h1]; unfold Loc.addr; rw [Nat.add_assoc _ o j], h3⟩
  · rename_i row' o
    simp only [Option.some.injEq, Prod.mk.injEq] at he
    obtain ⟨_, rfl, rfl⟩ := he
    cases hr with
    | per h => cases h with
      | bp blk b0 _ _ f hS hm hrep =>
        exact ⟨blk, b0 + o, rfl, fun j c hc => ⟨f (o + j), by rw [Nat.add_assoc]; exact (hm _ c hc).1, Rep.vis (.per (hrep _ c hc))⟩⟩
  · cases he

/-- A part of a row, as a value. -/
def cut (agg : Bool) (row : List SV) (off size : Nat) : SV := if agg then .ag ((row.drop off).take size) else row.getD off .dead
def visL (row : List SV) : List SV := row.map SV.vis

/-- load -/
def pLoad (T : Nat → Option TI) (st : St) (t : Nat) (x : SV) : Option (Prop × SV) := match T t, st.at x with
  | some ti, some (side, row, off) => some (side ∧ off + ti.size ≤ row.length ∧ (ti.k.agg = false → ti.size = 1), cut ti.k.agg (visL row) off ti.size)
  | _, _ => none
theorem pLoad_any (hT : TOk P T) (h : Sim w0 M S0 ρ φ S st a w) {t : Nat} {v : Value} {s sv : SV} {side : Prop} (hr : Rep ρ S w v s) (he : pLoad T st t s = some (side, sv)) (hs : side) :
    ∃ b o u, v = .pointer (some ⟨b, o, none⟩) ∧ (∀ w', w'.heap[b]? = w.heap[b]? → (Instr.loadAt t v).run P w' = .ok u w') ∧ Rep ρ S w u sv := by
  unfold pLoad at he
  split at he
  · rename_i ti sd row off ht hat
    simp only [Option.some.injEq, Prod.mk.injEq] at he
    obtain ⟨rfl, rfl⟩ := he
    obtain ⟨hs1, hs2, hs3⟩ := hs
    obtain ⟨b, o, rfl, hc⟩ := h.at hr hat hs1
    have hok := hT t ti ht
    replace hc : ∀ (j : Nat) (c : SV), (visL row)[off + j]? = some c → ∃ u, w.cell? ⟨b, o + j, none⟩ = some u ∧ Rep ρ S w u c := fun j c g => by
      unfold visL at g
      rw [List.getElem?_map, Option.map_eq_some_iff] at g
      obtain ⟨c', g, rfl⟩ := g
      exact hc j c' g
    have hln : (visL row).length = row.length := by simp [visL]
    rw [← hln] at hs2
    generalize visL row = row at hc hs2 ⊢
    unfold cut
    by_cases hg : ti.k.agg = true
    · rw [if_pos hg]
      have hf : ∀ j, j < ti.size → ∃ u, w.cell? ⟨b, o + j, none⟩ = some u ∧ Rep ρ S w u (row.getD (off + j) .dead) := fun j hj => by
        have hlt : off + j < row.length := by omega
        have := hc j (row.getD (off + j) .dead) (by simp [List.getElem?_eq_getElem hlt])
        exact this
      let f : Nat → Value := fun j => (w.cell? ⟨b, o + j, none⟩).getD undef
      have hf2 : ∀ j, j < ti.size → w.cell? (Addr.add ⟨b, o, none⟩ j) = some (f j) := fun j hj => by
        obtain ⟨u, h1, _⟩ := hf j hj
        rw [Addr.add_lit]
        show _ = some ((w.cell? ⟨b, o + j, none⟩).getD undef)
        rw [h1]; rfl
      refine ⟨b, o, .agg ((List.range ti.size).map f).toArray, rfl, fun w' hw' => ?_, .ag _ _ ?_ fun i u c h1 h2 => ?_⟩
      · have hf3 : ∀ j, j < ti.size → w'.cell? (Addr.add ⟨b, o, none⟩ j) = some (f j) := fun j hj => by
          rw [← hf2 j hj]
          exact cell_congr (by rw [Addr.add_lit]; exact hw')
        simp [Instr.loadAt, Instr.sureAddr, loadVar, hok.run_agg, hg, hok.run_size, run_loadCells w' ⟨b, o, none⟩ ti.size f hf3]
      · simp; omega
      · rw [List.getElem?_map, Option.map_eq_some_iff] at h1
        obtain ⟨j, h1, rfl⟩ := h1
        have hi : i < ti.size := by
          have := (List.getElem?_eq_some_iff.mp h1).1
          simpa using this
        obtain rfl : i = j := by simpa [hi] using h1
        rw [List.getElem?_take, if_pos hi, List.getElem?_drop] at h2
        obtain ⟨u, h3, h4⟩ := hc i c h2
        show Rep ρ S w ((w.cell? ⟨b, o + i, none⟩).getD undef) c
        rw [h3]; exact h4
    · have hg' : ti.k.agg = false := by simpa using hg
      rw [if_neg hg]
      have hz := hs3 hg'
      have hlt : off < row.length := by omega
      obtain ⟨u, h1, h2⟩ := hc 0 (row.getD off .dead) (by simp [List.getElem?_eq_getElem hlt])
      refine ⟨b, o, u, rfl, fun w' hw' => ?_, h2⟩
      simp only [Nat.add_zero] at h1
      have h1' : w'.cell? ⟨b, o, none⟩ = some u := by rw [← h1]; exact cell_congr hw'
      simp [Instr.loadAt, Instr.sureAddr, loadVar, hok.run_agg, hg', h1']
  · cases he

theorem pLoad_ok (hT : TOk P T) (h : Sim w0 M S0 ρ φ S st a w) {t : Nat} {v : Value} {s sv : SV} {side : Prop} (hr : Rep ρ S w v s) (he : pLoad T st t s = some (side, sv)) (hs : side) :
    ∃ u, (Instr.loadAt t v).run P w = .ok u w ∧ Rep ρ S w u sv := by
  obtain ⟨b, o, u, _, h1, h2⟩ := pLoad_any (P := P) hT h hr he hs
  exact ⟨u, h1 w rfl, h2⟩

/-- fieldAddr -/
def SV.shift : SV → Nat → Option SV
  | .pt b i off, n => some (.pt b i (off + n))
  | .bp row off, n => some (.bp row (off + n))
  | _, _ => none
theorem Rep.shift {v : Value} {s s' : SV} (hr : Rep ρ S w v s) {n : Nat} (he : s.shift n = some s') : ∃ b o, v = .pointer (some ⟨b, o, none⟩) ∧ Rep ρ S w (.pointer (some ⟨b, o + n, none⟩)) s' := by
  cases s with
  | pt b i o =>
    simp only [SV.shift, Option.some.injEq] at he; subst he
    cases hr with
    | per h => cases h
    | pt _ _ _ l hl => exact ⟨_, _, rfl, by have := Rep.pt (S := S) (w := w) b i (o + n) l hl; rw [show l.addr i (o + n) = ⟨l.blk, l.base + i * l.esz + o + n, none⟩ from by unfold Loc.addr; rw [Nat.add_assoc _ o n]] at this; exact this⟩
  | bp row o =>
    simp only [SV.shift, Option.some.injEq] at he; subst he
    cases hr with
    | per h => cases h with
      | bp blk b0 _ _ f hS hm hrep => exact ⟨_, _, rfl, by rw [Nat.add_assoc b0 o n]; exact .per (.bp blk b0 (o + n) row f hS hm hrep)⟩
  | _ => simp [SV.shift] at he
def pFieldAddr (T : Nat → Option TI) (t : Nat) (x : SV) (f : Nat) : Option (Prop × SV) := match T t with
  | some ti => match ti.k with
    | .struct fs => match fs[f]? with
      | some (off, ft) => match T ft with
        | some fi => (x.shift off).map fun s => (fi.size ≠ 0, s)
        | none => none
      | none => none
    | _ => none
  | none => none
theorem pFieldAddr_ok (hT : TOk P T) {t f : Nat} {v : Value} {s sv : SV} {side : Prop} (hr : Rep ρ S w v s) (he : pFieldAddr T t s f = some (side, sv)) (hs : side) :
    ∃ u, (∀ w', (Instr.fieldAt t v f).run P w' = .ok u w') ∧ Rep ρ S w u sv := by
  unfold pFieldAddr at he
  split at he <;> try cases he
  rename_i ti ht
  split at he <;> try cases he
  rename_i fs hk
  split at he <;> try cases he
  rename_i off ft hf
  split at he <;> try cases he
  rename_i fi hfi
  obtain ⟨s', h1, h2⟩ := Option.map_eq_some_iff.mp he
  simp only [Prod.mk.injEq] at h2
  obtain ⟨rfl, rfl⟩ := h2
  obtain ⟨b, o, rfl, h3⟩ := hr.shift h1
  obtain ⟨d, h4, h5⟩ := (hT t ti ht).run_und
  rw [hk] at h5
  obtain ⟨arr, rfl, h6⟩ := tk_struct h5
  rw [← h6, List.getElem?_map, Option.map_eq_some_iff] at hf
  obtain ⟨fld, h7, h8⟩ := hf
  simp only [Prod.mk.injEq] at h8
  obtain ⟨rfl, rfl⟩ := h8
  have h9 : arr[f]? = some fld := by rw [← Array.getElem?_toList]; exact h7
  refine ⟨_, ?_, h3⟩
  simp [Instr.fieldAt, h4, h9, Instr.sureAddr, fieldPlace, (hT _ fi hfi).run_size, hs, Addr.add_lit]

/-- indexAddr -/
def pIndexAddr (T : Nat → Option TI) (st : St) (t : Nat) (x : SV) (ix : SV) : Option (Prop × SV) := match T t, ix with
  | some ti, .pl (.int _ i) => match ti.k with
    | .slice e => match T e with
      | some ei => match x with
        | .pd rows => some (0 ≤ i ∧ i < rows.length ∧ (rows.getD i.toNat []).length = ei.size, .bp (rows.getD i.toNat []) 0)
        | .sl b j n => match st.blk b with
          | some (.c k rows) => some (0 ≤ i ∧ i < n ∧ j + i.toNat < rows.length ∧ k = ei.size, .pt b (j + i.toNat) 0)
          | _ => none
        | .sa b r off k n => some (0 ≤ i ∧ i < n ∧ k = ei.size, .pt b r (off + i.toNat * ei.size))
        | _ => none
      | none => none
    | .arr n e => match T e with
      | some ei => match x.shift (i.toNat * ei.size) with
        | some s => some (0 ≤ i ∧ i < n, s)
        | none => none
      | none => none
    | _ => none
  | _, _ => none

theorem pIndexAddr_ok (hT : TOk P T) (h : Sim w0 M S0 ρ φ S st a w) {t : Nat} {v vi : Value} {s si sv : SV} {side : Prop} (hr : Rep ρ S w v s) (hri : Rep ρ S w vi si) (he : pIndexAddr T st t s si = some (side, sv)) (hs : side) :
    ∃ u, (∀ w', (Instr.indexAt t v vi).run P w' = .ok u w') ∧ Rep ρ S w u sv := by
  unfold pIndexAddr at he
  split at he <;> try (cases he; done)
  rename_i ti k i ht
  obtain rfl := hri.pl_eq
  obtain ⟨d, h1, h2⟩ := (hT t ti ht).run_und
  split at he
  · rename_i e hk
    rw [hk] at h2
    obtain rfl := tk_slice h2
    split at he <;> try (cases he; done)
    rename_i ei hei
    have hsz := (hT e ei hei).run_size
    split at he
    · rename_i rows
      simp only [Option.some.injEq, Prod.mk.injEq] at he
      obtain ⟨rfl, rfl⟩ := he
      obtain ⟨g1, g2, g3⟩ := hs
      have g4 : i.toNat < rows.length := by omega
      cases hr with
      | per hr =>
        cases hr with
        | pd0 a c => simp at g4
        | pd blk off esz cap _ f hS hc hl hm hrep =>
          have g5 := getD_some g4
          have g6 : esz = ei.size := (hl _ _ g5).symm.trans g3
          refine ⟨.pointer (some ⟨blk, off + i.toNat * ei.size, none⟩), ?_, ?_⟩
          · simp [Instr.indexAt, asIntOf, h1, g1, g2, hsz, Addr.add_lit]
          · rw [← g6]
            exact .per (.bp blk (off + i.toNat * esz) 0 _ (fun j => f i.toNat j) hS (fun j c hj => hm _ _ j c g5 hj) (fun j c hj => hrep _ _ j c g5 hj))
    · rename_i b j n
      split at he <;> try (cases he; done)
      rename_i k' rows hb
      simp only [Option.some.injEq, Prod.mk.injEq] at he
      obtain ⟨rfl, rfl⟩ := he
      obtain ⟨g1, g2, g3, g4⟩ := hs
      cases hr with
      | per hr => cases hr
      | sl0 => omega
      | sl _ _ _ cap l hl hc hi hz =>
        have g6 : l.esz = ei.size := (h.cellsAt hb hl).1.trans g4
        refine ⟨.pointer (some (l.addr (j + i.toNat) 0)), fun w' => ?_, .pt b _ 0 l hl⟩
        simp only [Instr.indexAt, asIntOf, Sem.run_bind, Sem.run_pure, Result.andThen_ok, h1]
        simp only [g1, g2, and_self, if_true, Sem.run_bind, hsz, Result.andThen_ok, Sem.run_pure, Loc.addr, Addr.add_lit]
        rw [← g6, Nat.add_mul]
        rw [show l.base + j * l.esz + 0 + i.toNat * l.esz = l.base + (j * l.esz + i.toNat * l.esz) + 0 from by omega]
    · rename_i b r off k' n
      simp only [Option.some.injEq, Prod.mk.injEq] at he
      obtain ⟨rfl, rfl⟩ := he
      obtain ⟨g1, g2, g3⟩ := hs
      cases hr with
      | per hr => cases hr
      | sa _ _ _ _ _ cap l hl hc hi ho =>
        refine ⟨.pointer (some (l.addr r (off + i.toNat * ei.size))), fun w' => ?_, .pt b _ _ l hl⟩
        simp only [Instr.indexAt, asIntOf, Sem.run_bind, Sem.run_pure, Result.andThen_ok, h1]
        simp only [g1, g2, and_self, if_true, Sem.run_bind, hsz, Result.andThen_ok, Sem.run_pure, Loc.addr, Addr.add_lit]
        rw [Nat.add_assoc]
    · cases he
  · rename_i n e hk
    rw [hk] at h2
    obtain rfl := tk_arr h2
    split at he <;> try (cases he; done)
    rename_i ei hei
    split at he <;> try (cases he; done)
    rename_i s' g
    simp only [Option.some.injEq, Prod.mk.injEq] at he
    obtain ⟨rfl, rfl⟩ := he
    obtain ⟨b, o, rfl, h3⟩ := hr.shift g
    have hsz := (hT e ei hei).run_size
    obtain ⟨g1, g2⟩ := hs
    refine ⟨_, ?_, h3⟩
    simp [Instr.indexAt, asIntOf, h1, g1, g2, hsz, Addr.add_lit, Instr.sureAddr]
  · cases he

/-- All rows have so many cells. -/
def RowsLen (rows : Rows) (k : Nat) : Prop := ∀ r ∈ rows, r.length = k
theorem RowsLen.at {rows : Rows} {k i : Nat} {r : List SV} (h : RowsLen rows k) (hr : rows[i]? = some r) : r.length = k := h r (List.mem_of_getElem? hr)

/-- len of a slice -/
def pLen (T : Nat → Option TI) (t : Nat) (x : SV) : Option (Prop × SV) := match T t with
  | some ti => match ti.k, x with
    | .slice _, .pd rows => some (True, .pl (.int .i64 rows.length))
    | .slice _, .sl _ _ n => some (True, .pl (.int .i64 n))
    | .slice _, .sa _ _ _ _ n => some (True, .pl (.int .i64 n))
    | .slice _, .nl => some (True, .pl (.int .i64 0))
    | .str, .pl (.string s) => some (True, .pl (.int .i64 s.size))
    | .arr n _, _ => some (True, .pl (.int .i64 n))
    | _, _ => none
  | none => none
theorem RepP.pd_len {v : Value} {rows : Rows} (h : RepP S w v (.pd rows)) : ∃ x c, v = .slice x rows.length c := by
  cases h with
  | pd0 a c => exact ⟨a, c, rfl⟩
  | pd => exact ⟨_, _, rfl⟩
theorem Rep.pd_len {v : Value} {rows : Rows} (h : Rep ρ S w v (.pd rows)) : ∃ x c, v = .slice x rows.length c := by
  cases h with
  | per h => exact h.pd_len
theorem Rep.sl_len {v : Value} {b i n : Nat} (h : Rep ρ S w v (.sl b i n)) : ∃ x c, v = .slice x n c := by
  cases h with
  | per h => cases h
  | sl => exact ⟨_, _, rfl⟩
  | sl0 a => exact ⟨a, 0, rfl⟩
theorem pLen_ok (hT : TOk P T) {t ty : Nat} {v : Value} {s sv : SV} {side : Prop} (hr : Rep ρ S w v s) (he : pLen T t s = some (side, sv)) :
    ∃ u, (∀ w', (Builtin.len_ #[t] ty #[v]).run P w' = .ok u w') ∧ Rep ρ S w u sv := by
  unfold pLen at he
  split at he <;> try cases he
  rename_i ti ht
  obtain ⟨d, h1, h2⟩ := (hT t ti ht).run_und
  split at he
  · rename_i e rows hk
    simp only [Option.some.injEq, Prod.mk.injEq] at he
    obtain ⟨_, rfl⟩ := he
    rw [hk] at h2; obtain rfl := tk_slice h2
    obtain ⟨x, c, rfl⟩ := hr.pd_len
    exact ⟨_, by simp [Builtin.len_, h1, goInt], .per (.pl _)⟩
  · rename_i e b i n hk
    simp only [Option.some.injEq, Prod.mk.injEq] at he
    obtain ⟨_, rfl⟩ := he
    rw [hk] at h2; obtain rfl := tk_slice h2
    obtain ⟨x, c, rfl⟩ := hr.sl_len
    exact ⟨_, by simp [Builtin.len_, h1, goInt], .per (.pl _)⟩
  · rename_i e b i off k n hk
    simp only [Option.some.injEq, Prod.mk.injEq] at he
    obtain ⟨_, rfl⟩ := he
    rw [hk] at h2; obtain rfl := tk_slice h2
    have : ∃ x c, v = .slice x n c := by
      cases hr with
      | per h => cases h
      | sa => exact ⟨_, _, rfl⟩
    obtain ⟨x, c, rfl⟩ := this
    exact ⟨_, by simp [Builtin.len_, h1, goInt], .per (.pl _)⟩
  · rename_i e hk
    simp only [Option.some.injEq, Prod.mk.injEq] at he
    obtain ⟨_, rfl⟩ := he
    rw [hk] at h2; obtain rfl := tk_slice h2
    obtain rfl := hr.nl_eq
    exact ⟨_, by simp [Builtin.len_, h1, goInt], .per (.pl _)⟩
  · rename_i str hk
    simp only [Option.some.injEq, Prod.mk.injEq] at he
    obtain ⟨_, rfl⟩ := he
    rw [hk] at h2; obtain rfl := tk_str h2
    obtain rfl := hr.pl_eq
    exact ⟨_, by simp [Builtin.len_, h1, goInt], .per (.pl _)⟩
  · rename_i n e hk
    simp only [Option.some.injEq, Prod.mk.injEq] at he
    obtain ⟨_, rfl⟩ := he
    rw [hk] at h2; obtain rfl := tk_arr h2
    exact ⟨_, by simp [Builtin.len_, h1, goInt], .per (.pl _)⟩
  · cases he

/-- extract -/
def pExtract (x : SV) (i : Nat) : Option (Prop × SV) := match x with
  | .tu cs => some (i < cs.length, cs.getD i .dead)
  | _ => none
theorem pExtract_ok {i : Nat} {v : Value} {s sv : SV} {side : Prop} (hr : Rep ρ S w v s) (he : pExtract s i = some (side, sv)) (hs : side) :
    ∃ u, (∀ w', (Instr.extract v i).run P w' = .ok u w') ∧ Rep ρ S w u sv := by
  unfold pExtract at he
  split at he <;> try cases he
  rename_i cs
  obtain ⟨vs, rfl, hl, h⟩ := hr.tu_inv
  have hi : i < vs.length := by rw [hl]; exact hs
  refine ⟨vs[i], ?_, h i _ _ (List.getElem?_eq_getElem hi) (by have hs' : i < cs.length := hs; simp [List.getElem?_eq_getElem hs'])⟩
  simp [Instr.extract, hi]

/-- a part of a struct or array value -/
def pField (T : Nat → Option TI) (t : Nat) (x : SV) (f : Nat) : Option (Prop × SV) := match T t, x with
  | some ti, .ag cs => match ti.k with
    | .struct fs => match fs[f]? with
      | some (off, ft) => match T ft with
        | some fi => some (off + fi.size ≤ cs.length ∧ (fi.k.agg = false → fi.size = 1), cut fi.k.agg cs off fi.size)
        | none => none
      | none => none
    | _ => none
  | _, _ => none
theorem part_ok (hT : TOk P T) {t : Nat} {ti : TI} (ht : T t = some ti) {vs : List Value} {cs : List SV} {off : Nat} (hl : vs.length = cs.length)
    (h : ∀ (i : Nat) (v : Value) (c : SV), vs[i]? = some v → cs[i]? = some c → Rep ρ S w v c) (hs : off + ti.size ≤ cs.length) (hs2 : ti.k.agg = false → ti.size = 1) :
    ∃ u, (∀ w', (part t vs.toArray off).run P w' = .ok u w') ∧ Rep ρ S w u (cut ti.k.agg cs off ti.size) := by
  have hok := hT t ti ht
  unfold cut
  by_cases hg : ti.k.agg = true
  · rw [if_pos hg]
    refine ⟨.agg ((vs.drop off).take ti.size).toArray, ?_, .ag _ _ (by simp [hl]) fun i v c h1 h2 => ?_⟩
    · simp [part, hok.run_agg, hg, hok.run_size, List.take_drop]
    · rw [List.getElem?_take] at h1 h2
      split at h1
      · rename_i hi
        rw [if_pos hi, List.getElem?_drop] at h2
        rw [List.getElem?_drop] at h1
        exact h _ v c h1 h2
      · cases h1
  · have hg' : ti.k.agg = false := by simpa using hg
    rw [if_neg hg]
    have := hs2 hg'
    have hi : off < vs.length := by omega
    have hi' : off < cs.length := by omega
    refine ⟨vs[off], ?_, h off _ _ (List.getElem?_eq_getElem hi) (by simp [List.getElem?_eq_getElem hi'])⟩
    simp [part, hok.run_agg, hg', hi]
theorem pField_ok (hT : TOk P T) {t f : Nat} {v : Value} {s sv : SV} {side : Prop} (hr : Rep ρ S w v s) (he : pField T t s f = some (side, sv)) (hs : side) :
    ∃ u, (∀ w', (Instr.field t v f).run P w' = .ok u w') ∧ Rep ρ S w u sv := by
  unfold pField at he
  split at he <;> try cases he
  rename_i ti cs ht
  split at he <;> try cases he
  rename_i fs hk
  split at he <;> try cases he
  rename_i off ft hf
  split at he <;> try cases he
  rename_i fi hfi
  obtain ⟨d, h4, h5⟩ := (hT t ti ht).run_und
  rw [hk] at h5
  obtain ⟨arr, rfl, h6⟩ := tk_struct h5
  rw [← h6, List.getElem?_map, Option.map_eq_some_iff] at hf
  obtain ⟨fld, h7, h8⟩ := hf
  simp only [Prod.mk.injEq] at h8
  obtain ⟨rfl, rfl⟩ := h8
  have h9 : arr[f]? = some fld := by rw [← Array.getElem?_toList]; exact h7
  obtain ⟨vs, rfl, hl, h⟩ := hr.ag_inv
  obtain ⟨u, g1, g2⟩ := part_ok hT hfi hl h hs.1 hs.2
  exact ⟨u, by simp [Instr.field, h4, h9, asAgg, g1], g2⟩

/-- an element of an array value, a byte of a text -/
def pIndex (T : Nat → Option TI) (t : Nat) (x ix : SV) : Option (Prop × SV) := match T t, ix with
  | some ti, .pl (.int _ i) => match ti.k, x with
    | .arr n e, .ag cs => match T e with
      | some ei => some (0 ≤ i ∧ i < n ∧ i.toNat * ei.size + ei.size ≤ cs.length ∧ (ei.k.agg = false → ei.size = 1), cut ei.k.agg cs (i.toNat * ei.size) ei.size)
      | none => none
    | .str, .pl (.string s) => some (0 ≤ i ∧ i < s.size, .pl (.int .u8 ((s.data.toList.getD i.toNat 0).toNat : Nat)))
    | _, _ => none
  | _, _ => none
theorem pIndex_ok (hT : TOk P T) {t : Nat} {v vi : Value} {s si sv : SV} {side : Prop} (hr : Rep ρ S w v s) (hri : Rep ρ S w vi si) (he : pIndex T t s si = some (side, sv)) (hs : side) :
    ∃ u, (∀ w', (Instr.index t v vi).run P w' = .ok u w') ∧ Rep ρ S w u sv := by
  unfold pIndex at he
  split at he <;> try (cases he; done)
  rename_i ti k i ht
  obtain rfl := hri.pl_eq
  obtain ⟨d, h1, h2⟩ := (hT t ti ht).run_und
  split at he
  · rename_i n e cs hk
    split at he <;> try (cases he; done)
    rename_i ei hei
    simp only [Option.some.injEq, Prod.mk.injEq] at he
    obtain ⟨rfl, rfl⟩ := he
    obtain ⟨g1, g2, g3, g4⟩ := hs
    rw [hk] at h2; obtain rfl := tk_arr h2
    obtain ⟨vs, rfl, hl, h⟩ := hr.ag_inv
    obtain ⟨u, f1, f2⟩ := part_ok (P := P) hT hei hl h g3 g4
    exact ⟨u, by simp [Instr.index, asIntOf, h1, g1, g2, (hT e ei hei).run_size, f1], f2⟩
  · rename_i str hk
    simp only [Option.some.injEq, Prod.mk.injEq] at he
    obtain ⟨rfl, rfl⟩ := he
    obtain ⟨g1, g2⟩ := hs
    rw [hk] at h2; obtain rfl := tk_str h2
    obtain rfl := hr.pl_eq
    have hlt : i.toNat < str.data.size := by
      have : str.size = str.data.size := rfl
      omega
    have e1 : str[i.toNat]? = some (str.data.toList.getD i.toNat 0) := by
      rw [getElem?_pos str i.toNat (show i.toNat < str.size from hlt)]
      congr 1
      show str.data[i.toNat] = _
      simp only [List.getD_eq_getElem?_getD, Array.getElem?_toList]
      rw [Array.getElem?_eq_getElem hlt]
      rfl
    refine ⟨_, fun w' => ?_, .per (.pl _)⟩
    simp [Instr.index, asIntOf, h1, g1, e1]
  · cases he

end Go.Vcg
/- More operations that only compute or read: slicing, building, numbers; and all of them together. -/
namespace Go.Vcg

variable {w0 : World} {M : Perm} {S0 : Nat → Prop} {ρ : Nat → Option Loc} {φ : Nat → Nat → Prop} {S : Nat → Prop} {st : St} {a : Act} {w : World} {P : Program} {T : Nat → Option TI}

/-! ## Slicing -/

/-- A bound that is given, or not. -/
def bnd (d : Int) : Option SV → Option Int
  | none => some d
  | some (.pl (.int _ i)) => some i
  | _ => none

def pSlice (T : Nat → Option TI) (st : St) (t : Nat) (x : SV) (lo hi : Option SV) : Option (Prop × SV) := match T t with
  | some ti => match ti.k, x with
    | .slice e, .pd rows => match T e, bnd 0 lo, bnd rows.length hi with
      | some ei, some l, some h => some (0 ≤ l ∧ l ≤ h ∧ h ≤ rows.length ∧ RowsLen rows ei.size, .pd ((rows.drop l.toNat).take (h.toNat - l.toNat)))
      | _, _, _ => none
    | .slice e, .sl b i n => match T e, st.blk b, bnd 0 lo, bnd n hi with
      | some ei, some (.c k _), some l, some h => some (0 ≤ l ∧ l ≤ h ∧ h ≤ n ∧ k = ei.size, .sl b (i + l.toNat) (h.toNat - l.toNat))
      | _, _, _, _ => none
    | .slice e, .sa b r o k n => match T e, bnd 0 lo, bnd n hi with
      | some ei, some l, some h => some (0 ≤ l ∧ l ≤ h ∧ h ≤ n ∧ k = ei.size ∧ l < h, .sa b r (o + l.toNat * ei.size) k (h.toNat - l.toNat))
      | _, _, _ => none
    | .slice e, .nl => match T e, bnd 0 lo, bnd 0 hi with
      | some _, some l, some h => some (l = 0 ∧ h = 0, .nl)
      | _, _, _ => none
    | .arr n e, .bp row o => match T e, bnd 0 lo, bnd n hi with
      | some ei, some l, some h => some (0 ≤ l ∧ l ≤ h ∧ h ≤ n ∧ o + n * ei.size ≤ row.length, .pd (chunks (row.drop (o + l.toNat * ei.size)) ei.size (h.toNat - l.toNat)))
      | _, _, _ => none
    | .arr n e, .pt b i o => match T e, st.blk b, bnd 0 lo, bnd n hi with
      | some ei, some (.c k rows), some l, some h => some (0 ≤ l ∧ l ≤ h ∧ h ≤ n ∧ i < rows.length ∧ o + n * ei.size ≤ k ∧ l < n, .sa b i (o + l.toNat * ei.size) ei.size (h.toNat - l.toNat))
      | _, _, _, _ => none
    | .str, .pl (.string s) => match bnd 0 lo, bnd s.size hi with
      | some l, some h => some (0 ≤ l ∧ l ≤ h ∧ h ≤ s.size, .pl (.string (s.extract l.toNat h.toNat)))
      | _, _ => none
    | _, _ => none
  | none => none

/-- The bounds as the machine finds them. -/
theorem run_bounds {isSlice : Bool} {n cap : Nat} {lo hi : Option Value} {slo shi : Option SV} {l h : Int} (hlo : ∀ v, lo = some v → ∃ s, slo = some s ∧ Rep ρ S w v s) (hlo' : lo = none → slo = none)
    (hhi : ∀ v, hi = some v → ∃ s, shi = some s ∧ Rep ρ S w v s) (hhi' : hi = none → shi = none) (el : bnd 0 slo = some l) (eh : bnd n shi = some h) (g1 : 0 ≤ l) (g2 : l ≤ h) (g3 : h ≤ cap) :
    ∀ w' : World, (Instr.sliceBounds isSlice n cap lo hi none).run P w' = .ok (l.toNat, h.toNat, cap) w' := by
  intro w'
  have hh : ∀ (x : Value) (c : BoundsCode) (y : Nat) (i : Int) (k : IntKind), x = .int k i → 0 ≤ i → i ≤ y → (Instr.sliceBound x y c).run P w' = .ok i.toNat w' := fun x c y i k hx h1 h2 => by
    subst hx
    simp [Instr.sliceBound, asIntOf, h1, h2]
  have h3 : ∃ i k, (hi = none ∧ h = n) ∨ (hi = some (.int k i) ∧ h = i) := by
    cases hi with
    | none => rw [hhi' rfl] at eh; simp [bnd] at eh; exact ⟨0, .i64, .inl ⟨rfl, eh.symm⟩⟩
    | some v =>
      obtain ⟨s, rfl, hr⟩ := hhi v rfl
      unfold bnd at eh
      split at eh <;> try (cases eh; done)
      · rename_i e; cases e
      · rename_i x k i e
        obtain rfl := Option.some.inj e
        obtain rfl := Option.some.inj eh
        exact ⟨_, k, .inr ⟨congrArg some hr.pl_eq, rfl⟩⟩
  have h4 : ∃ i k, (lo = none ∧ l = 0) ∨ (lo = some (.int k i) ∧ l = i) := by
    cases lo with
    | none => rw [hlo' rfl] at el; simp [bnd] at el; exact ⟨0, .i64, .inl ⟨rfl, el.symm⟩⟩
    | some v =>
      obtain ⟨s, rfl, hr⟩ := hlo v rfl
      unfold bnd at el
      split at el <;> try (cases el; done)
      · rename_i e; cases e
      · rename_i x k i e
        obtain rfl := Option.some.inj e
        obtain rfl := Option.some.inj el
        exact ⟨_, k, .inr ⟨congrArg some hr.pl_eq, rfl⟩⟩
  obtain ⟨i, k, h3⟩ := h3
  obtain ⟨i', k', h4⟩ := h4
  unfold Instr.sliceBounds
  rcases h3 with ⟨rfl, rfl⟩ | ⟨rfl, rfl⟩ <;> rcases h4 with ⟨rfl, rfl⟩ | ⟨rfl, rfl⟩
  · simp
  · simp only [Sem.run_bind, Sem.run_pure, Result.andThen_ok]
    rw [hh _ _ n l k' rfl g1 (by omega)]
    simp
  · simp only [Sem.run_bind, Sem.run_pure, Result.andThen_ok]
    rw [hh _ _ cap h k rfl (by omega) g3]
    simp
  · simp only [Sem.run_bind, Sem.run_pure, Result.andThen_ok]
    rw [hh _ _ cap h k rfl (by omega) g3]
    simp only [Result.andThen_ok]
    rw [hh _ _ h.toNat l k' rfl g1 (by omega)]
    simp

theorem repP_sub {blk off esz cap : Nat} {rows : Rows} {f : Nat → Nat → Value} (hS : S blk) (hl : ∀ (i : Nat) (r : List SV), rows[i]? = some r → r.length = esz)
    (hm : ∀ (i : Nat) (r : List SV) (j : Nat) (c : SV), rows[i]? = some r → r[j]? = some c → w.cell? ⟨blk, off + i * esz + j, none⟩ = some (f i j) ∧ (f i j).oneCell' = true)
    (hr : ∀ (i : Nat) (r : List SV) (j : Nat) (c : SV), rows[i]? = some r → r[j]? = some c → RepP S w (f i j) c) (i n : Nat) (hc : n ≤ cap) (hi : i + n ≤ rows.length) :
    RepP S w (.slice (some ⟨blk, off + i * esz, none⟩) n cap) (.pd ((rows.drop i).take n)) := by
  have hn : ((rows.drop i).take n).length = n := by rw [List.length_take, List.length_drop]; omega
  have hrow : ∀ (i' : Nat) (r : List SV), ((rows.drop i).take n)[i']? = some r → rows[i + i']? = some r := fun i' r hr => by
    rw [List.getElem?_take] at hr
    split at hr
    · rw [List.getElem?_drop] at hr; exact hr
    · cases hr
  have key := RepP.pd (S := S) (w := w) blk (off + i * esz) esz cap ((rows.drop i).take n) (fun i' j => f (i + i') j) hS (by rw [hn]; exact hc) (fun i' r hr => hl _ _ (hrow i' r hr))
    (fun i' r j c h1 h2 => by
      have := hm _ r j c (hrow i' r h1) h2
      refine ⟨?_, this.2⟩
      rw [← this.1, Nat.add_mul]
      congr 2
      omega) (fun i' r j c h1 h2 => hr _ r j c (hrow i' r h1) h2)
  rw [hn] at key
  exact key

theorem pSlice_ok (hT : TOk P T) (h : Sim w0 M S0 ρ φ S st a w) {t : Nat} {v : Value} {s sv : SV} {lo hi : Option Value} {slo shi : Option SV} {side : Prop} (hr : Rep ρ S w v s)
    (hlo : ∀ v, lo = some v → ∃ s, slo = some s ∧ Rep ρ S w v s) (hlo' : lo = none → slo = none) (hhi : ∀ v, hi = some v → ∃ s, shi = some s ∧ Rep ρ S w v s) (hhi' : hi = none → shi = none)
    (he : pSlice T st t s slo shi = some (side, sv)) (hs : side) : ∃ u, (∀ w', (Instr.sliceAt t v lo hi none).run P w' = .ok u w') ∧ Rep ρ S w u sv := by
  unfold pSlice at he
  split at he <;> try (cases he; done)
  rename_i ti ht
  obtain ⟨d, h1, h2⟩ := (hT t ti ht).run_und
  split at he
  · rename_i e rows hk
    split at he <;> try (cases he; done)
    rename_i ei l hh hei el eh
    simp only [Option.some.injEq, Prod.mk.injEq] at he
    obtain ⟨rfl, rfl⟩ := he
    obtain ⟨g1, g2, g3, g4⟩ := hs
    rw [hk] at h2; obtain rfl := tk_slice h2
    have hsz := (hT e ei hei).run_size
    cases hr with
    | per hr =>
      cases hr with
      | pd0 x c =>
        have e1 : hh = 0 := by simp at g3; omega
        have e2 : l = 0 := by omega
        subst e1; subst e2
        have hb := run_bounds (P := P) (isSlice := true) (n := 0) (cap := c) hlo hlo' hhi hhi' el eh (by omega) (by omega) (by omega)
        refine ⟨.slice (if c = 0 then x else x.map (·.add (0 * ei.size))) 0 c, ?_, ?_⟩
        · simp [Instr.sliceAt, Instr.slice, h1, hb, hsz]
        · exact .per (.pd0 _ _)
      | pd blk off esz cap _ f hS hc hl hm hrep =>
        have hb := run_bounds (P := P) (isSlice := true) (n := rows.length) (cap := cap) hlo hlo' hhi hhi' el eh g1 g2 (by omega)
        refine ⟨.slice (if cap = l.toNat then some ⟨blk, off, none⟩ else some ⟨blk, off + l.toNat * ei.size, none⟩) (hh.toNat - l.toNat) (cap - l.toNat), ?_, ?_⟩
        · simp [Instr.sliceAt, Instr.slice, h1, hb, hsz, Addr.add_lit]
        · by_cases hrn : rows = []
          · subst hrn
            have : hh.toNat - l.toNat = 0 := by simp at g3; omega
            rw [this, List.take_zero]
            exact .per (.pd0 _ _)
          · have hpos : 0 < rows.length := List.length_pos_iff.mpr hrn
            have hesz : esz = ei.size := (hl 0 _ (getD_some hpos)).symm.trans (g4.at (getD_some hpos))
            by_cases hcl : cap = l.toNat
            · rw [if_pos hcl]
              have : hh.toNat - l.toNat = 0 := by omega
              rw [this, List.take_zero]
              exact .per (.pd0 _ _)
            · rw [if_neg hcl, ← hesz]
              exact .per (repP_sub hS hl hm hrep l.toNat (hh.toNat - l.toNat) (by omega) (by omega))
  · rename_i e b i n hk
    split at he <;> try (cases he; done)
    rename_i ei k rows l hh hei hb0 el eh
    simp only [Option.some.injEq, Prod.mk.injEq] at he
    obtain ⟨rfl, rfl⟩ := he
    obtain ⟨g1, g2, g3, g4⟩ := hs
    rw [hk] at h2; obtain rfl := tk_slice h2
    have hsz := (hT e ei hei).run_size
    cases hr with
    | per hr => cases hr
    | sl0 x _ _ =>
      have e1 : hh = 0 := by omega
      have e2 : l = 0 := by omega
      subst e1; subst e2
      have hb := run_bounds (P := P) (isSlice := true) (n := 0) (cap := 0) hlo hlo' hhi hhi' el eh (by omega) (by omega) (by omega)
      refine ⟨.slice x 0 0, ?_, .sl0 x b _⟩
      simp [Instr.sliceAt, Instr.slice, h1, hb, hsz]
    | sl _ _ _ cap lc hl hc hi2 hz =>
      have hb := run_bounds (P := P) (isSlice := true) (n := n) (cap := cap) hlo hlo' hhi hhi' el eh g1 g2 (by omega)
      have hesz : lc.esz = ei.size := (h.cellsAt hb0 hl).1.trans g4
      refine ⟨.slice (if cap = l.toNat then some (lc.addr i 0) else some (Addr.add (lc.addr i 0) (l.toNat * ei.size))) (hh.toNat - l.toNat) (cap - l.toNat), ?_, ?_⟩
      · simp [Instr.sliceAt, Instr.slice, h1, hb, hsz]
      · by_cases hcl : cap = l.toNat
        · rw [if_pos hcl]
          have e3 : hh.toNat - l.toNat = 0 := by omega
          have e4 : cap - l.toNat = 0 := by omega
          rw [e3, e4]
          exact .sl0 _ b _
        · rw [if_neg hcl]
          have hadr : Addr.add (lc.addr i 0) (l.toNat * ei.size) = lc.addr (i + l.toNat) 0 := by
            unfold Loc.addr
            rw [Addr.add_lit, Nat.add_mul, hesz]
            congr 1
            omega
          rw [hadr]
          refine .sl b _ _ _ lc hl (by omega) (by omega) ?_
          rw [show i + l.toNat + (cap - l.toNat) = i + cap from by omega]
          exact hz
  · rename_i e b r o k n hk
    split at he <;> try (cases he; done)
    rename_i ei l hh hei el eh
    simp only [Option.some.injEq, Prod.mk.injEq] at he
    obtain ⟨rfl, rfl⟩ := he
    obtain ⟨g1, g2, g3, g4, g5⟩ := hs
    rw [hk] at h2; obtain rfl := tk_slice h2
    have hsz := (hT e ei hei).run_size
    cases hr with
    | per hr => cases hr
    | sa _ _ _ _ _ cap lc hl hc hi2 ho =>
      have hb := run_bounds (P := P) (isSlice := true) (n := n) (cap := cap) hlo hlo' hhi hhi' el eh g1 g2 (by omega)
      refine ⟨.slice (some (lc.addr r (o + l.toNat * ei.size))) (hh.toNat - l.toNat) (cap - l.toNat), ?_, ?_⟩
      · have : ¬ cap = l.toNat := by omega
        simp [Instr.sliceAt, Instr.slice, h1, hb, hsz, this, Loc.addr, Addr.add_lit, Nat.add_assoc]
      · refine .sa b r _ k _ _ lc hl (by omega) hi2 ?_
        rw [← g4, Nat.add_assoc, ← Nat.add_mul]
        have : (l.toNat + (hh.toNat - l.toNat)) * k ≤ n * k := Nat.mul_le_mul_right _ (by omega)
        omega
  · rename_i e hk
    split at he <;> try (cases he; done)
    rename_i ei l hh hei el eh
    simp only [Option.some.injEq, Prod.mk.injEq] at he
    obtain ⟨rfl, rfl⟩ := he
    obtain ⟨rfl, rfl⟩ := hs
    rw [hk] at h2; obtain rfl := tk_slice h2
    have hsz := (hT e ei hei).run_size
    obtain rfl := hr.nl_eq
    have hb := run_bounds (P := P) (isSlice := true) (n := 0) (cap := 0) hlo hlo' hhi hhi' el eh (by omega) (by omega) (by omega)
    refine ⟨.slice none 0 0, ?_, .per .nl⟩
    simp [Instr.sliceAt, Instr.slice, h1, hb, hsz]
  · rename_i n e row o hk
    split at he <;> try (cases he; done)
    rename_i ei l hh hei el eh
    simp only [Option.some.injEq, Prod.mk.injEq] at he
    obtain ⟨rfl, rfl⟩ := he
    obtain ⟨g1, g2, g3, g4⟩ := hs
    rw [hk] at h2; obtain rfl := tk_arr h2
    have hsz := (hT e ei hei).run_size
    have hb := run_bounds (P := P) (isSlice := false) (n := n) (cap := n) hlo hlo' hhi hhi' el eh g1 g2 (by omega)
    cases hr with
    | per hr => cases hr with
      | bp blk off _ _ f hS hm hrep =>
        refine ⟨.slice (some (if n = l.toNat then ⟨blk, off + o, none⟩ else ⟨blk, off + o + l.toNat * ei.size, none⟩)) (hh.toNat - l.toNat) (n - l.toNat), ?_, ?_⟩
        · simp [Instr.sliceAt, Instr.sureAddr, h1, hb, hsz, Addr.add_lit]
        · by_cases hcl : n = l.toNat
          · rw [if_pos hcl]
            have : hh.toNat - l.toNat = 0 := by omega
            rw [this]
            exact .per (.pd0 _ _)
          · rw [if_neg hcl]
            generalize hm' : hh.toNat - l.toNat = m
            have hle : l.toNat * ei.size + m * ei.size ≤ n * ei.size := by rw [← Nat.add_mul]; exact Nat.mul_le_mul_right _ (by omega)
            have hcell : ∀ (i j : Nat) (c : SV), i < m → (((row.drop (o + l.toNat * ei.size)).drop (i * ei.size)).take ei.size)[j]? = some c → row[o + l.toNat * ei.size + i * ei.size + j]? = some c := fun i j c q1 q2 => by
              rw [List.getElem?_take] at q2
              split at q2
              · rw [List.getElem?_drop, List.getElem?_drop] at q2
                rw [← q2]; congr 1; omega
              · cases q2
            have key := RepP.pd (S := S) (w := w) blk (off + o + l.toNat * ei.size) ei.size (n - l.toNat) (chunks (row.drop (o + l.toNat * ei.size)) ei.size m) (fun i j => f (o + l.toNat * ei.size + i * ei.size + j)) hS (by rw [chunks_length]; omega)
              (fun i r hr => by
                obtain ⟨q1, rfl⟩ := chunks_get hr
                have : i * ei.size + ei.size ≤ m * ei.size := by rw [← Nat.succ_mul]; exact Nat.mul_le_mul_right _ q1
                simp only [List.length_take, List.length_drop]
                omega)
              (fun i r j c hr hj => by
                obtain ⟨q1, rfl⟩ := chunks_get hr
                have := hm _ _ (hcell i j c q1 hj)
                refine ⟨?_, this.2⟩
                rw [← this.1]
                congr 2
                omega)
              (fun i r j c hr hj => by
                obtain ⟨q1, rfl⟩ := chunks_get hr
                exact hrep _ _ (hcell i j c q1 hj))
            rw [chunks_length] at key
            exact .per key
  · rename_i n e b i o hk
    split at he <;> try (cases he; done)
    rename_i ei k rows l hh hei hb0 el eh
    simp only [Option.some.injEq, Prod.mk.injEq] at he
    obtain ⟨rfl, rfl⟩ := he
    obtain ⟨g1, g2, g3, g4, g5, g6⟩ := hs
    rw [hk] at h2; obtain rfl := tk_arr h2
    have hsz := (hT e ei hei).run_size
    have hb := run_bounds (P := P) (isSlice := false) (n := n) (cap := n) hlo hlo' hhi hhi' el eh g1 g2 (by omega)
    cases hr with
    | per hr => cases hr
    | pt _ _ _ lc hl =>
      obtain ⟨hesz, hcs⟩ := h.cellsAt hb0 hl
      refine ⟨.slice (some (lc.addr i (o + l.toNat * ei.size))) (hh.toNat - l.toNat) (n - l.toNat), ?_, ?_⟩
      · have : ¬ n = l.toNat := by omega
        simp [Instr.sliceAt, Instr.sureAddr, h1, hb, hsz, this, Loc.addr, Addr.add_lit, Nat.add_assoc]
      · refine .sa b i _ ei.size _ _ lc hl (by omega) (by rw [← hcs.long]; exact g4) ?_
        rw [Nat.add_assoc, ← Nat.add_mul, hesz]
        have : (l.toNat + (hh.toNat - l.toNat)) * ei.size ≤ n * ei.size := Nat.mul_le_mul_right _ (by omega)
        omega
  · rename_i str hk
    split at he <;> try (cases he; done)
    rename_i l hh el eh
    simp only [Option.some.injEq, Prod.mk.injEq] at he
    obtain ⟨rfl, rfl⟩ := he
    obtain ⟨g1, g2, g3⟩ := hs
    rw [hk] at h2; obtain rfl := tk_str h2
    obtain rfl := hr.pl_eq
    have hb := run_bounds (P := P) (isSlice := false) (n := str.size) (cap := str.size) hlo hlo' hhi hhi' el eh g1 g2 (by omega)
    refine ⟨_, ?_, .per (.pl _)⟩
    simp [Instr.sliceAt, Instr.slice, h1, hb]
  · cases he

end Go.Vcg
/- Building structs and arrays; numbers, texts, bools; all operations that only compute or read, together. -/
namespace Go.Vcg

variable {w0 : World} {M : Perm} {S0 : Nat → Prop} {ρ : Nat → Option Loc} {φ : Nat → Nat → Prop} {S : Nat → Prop} {st : St} {a : Act} {w : World} {P : Program} {T : Nat → Option TI}

/-! ## Cells of values -/

def RelL (ρ : Nat → Option Loc) (S : Nat → Prop) (w : World) (vs : List Value) (cs : List SV) : Prop :=
  vs.length = cs.length ∧ ∀ (i : Nat) (v : Value) (c : SV), vs[i]? = some v → cs[i]? = some c → Rep ρ S w v c

/-- A value's cells. -/
def SV.cells : SV → Option (List SV)
  | .ag cs => some cs
  | .pl (.agg vs) => some (vs.toList.map conSV)
  | .tu _ => none
  | .cn _ _ => none
  | .dead => none
  | s => some [s]

theorem relL_con (vs : List Value) : RelL ρ S w vs (vs.map conSV) := by
  refine ⟨by simp, fun i v c h1 h2 => ?_⟩
  rw [List.getElem?_map, h1] at h2
  simp at h2
  subst h2
  exact .per (conSV_rep S w v)
theorem relL_one {v : Value} {s : SV} (h : Rep ρ S w v s) : RelL ρ S w [v] [s] := by
  refine ⟨rfl, fun i u c h1 h2 => ?_⟩
  cases i with
  | zero => simp at h1 h2; subst h1; subst h2; exact h
  | succ i => simp at h1
theorem Rep.cells {v : Value} {s : SV} {cs : List SV} (h : Rep ρ S w v s) (hc : s.cells = some cs) : RelL ρ S w v.cells.toList cs := by
  unfold SV.cells at hc
  split at hc
  · obtain rfl := Option.some.inj hc
    obtain ⟨vs, rfl, hl, h⟩ := h.ag_inv
    exact ⟨hl, h⟩
  · obtain rfl := Option.some.inj hc
    obtain rfl := h.pl_eq
    exact relL_con _
  · cases hc
  · cases hc
  · cases hc
  · rename_i s h1 h2 h3 h4 h5
    obtain rfl := Option.some.inj hc
    have : v.cells = #[v] := by
      cases h with
      | per h =>
        cases h with
        | pl => cases v <;> first | rfl | exact absurd rfl (h2 _)
        | dead => exact absurd rfl h5
        | ag => exact absurd rfl (h1 _)
        | tu => exact absurd rfl (h3 _)
        | _ => rfl
      | cn => exact absurd rfl (h4 _ _)
      | ag => exact absurd rfl (h1 _)
      | tu => exact absurd rfl (h3 _)
      | _ => rfl
    rw [this]
    exact relL_one h

/-- Cells are laid into a row. -/
def putAt (row : List SV) (off : Nat) : List SV → List SV
  | [] => row
  | c :: cs => putAt (row.set off c) (off + 1) cs
theorem putAt_length (cs : List SV) : ∀ (row : List SV) (off : Nat), (putAt row off cs).length = row.length := by
  induction cs with
  | nil => intro row off; rfl
  | cons c cs ih => intro row off; rw [putAt, ih]; simp

theorem relL_set {arr : Array Value} {row : List SV} (h : RelL ρ S w arr.toList row) {i : Nat} {v : Value} {c : SV} (hr : Rep ρ S w v c) : RelL ρ S w (arr.setIfInBounds i v).toList (row.set i c) := by
  refine ⟨by simpa using h.1, fun j u d h1 h2 => ?_⟩
  simp only [Array.toList_setIfInBounds, List.getElem?_set] at h1 h2
  by_cases e : i = j
  · subst e
    rw [if_pos rfl] at h1 h2
    split at h1 <;> try (cases h1; done)
    split at h2 <;> try (cases h2; done)
    obtain rfl := Option.some.inj h1
    obtain rfl := Option.some.inj h2
    exact hr
  · rw [if_neg e] at h1 h2
    exact h.2 j u d h1 h2
theorem relL_fold (vs : List Value) : ∀ (cs : List SV) (k off : Nat) (arr : Array Value) (row : List SV), RelL ρ S w arr.toList row → RelL ρ S w vs cs →
    RelL ρ S w ((vs.zipIdx k).foldl (fun cs x => cs.setIfInBounds (off + x.2) x.1) arr).toList (putAt row (off + k) cs) := by
  induction vs with
  | nil =>
    intro cs k off arr row h hv
    have : cs = [] := List.length_eq_zero_iff.mp hv.1.symm
    subst this
    exact h
  | cons v vs ih =>
    intro cs k off arr row h hv
    cases cs with
    | nil => simp [RelL] at hv
    | cons c cs =>
      rw [List.zipIdx_cons, List.foldl_cons, putAt]
      have := ih cs (k + 1) off (arr.setIfInBounds (off + k) v) (row.set (off + k) c) (relL_set h (hv.2 0 v c rfl rfl)) ⟨by have := hv.1; simpa using this, fun i u d h1 h2 => hv.2 (i + 1) u d h1 h2⟩
      rw [show off + (k + 1) = off + k + 1 from by omega] at this
      exact this

/-! ## build -/

/-- The parts are laid where they belong. -/
def fillSV (place : Nat → Option (Nat × Nat)) (row : List SV) : List (Nat × SV) → Option (List SV)
  | [] => some row
  | (i, s) :: rest => match place i, s.cells with
    | some (off, size), some cs => if cs.length = size ∧ off + cs.length ≤ row.length then fillSV place (putAt row off cs) rest else none
    | _, _ => none
theorem fill_ok (place : Nat → Option (Nat × Nat)) (ps : List (Nat × Operand)) (ρa : Operand → Value) (ev : Operand → SV) (hev : ∀ x, Rep ρ S w (ρa x) (ev x)) :
    ∀ (arr : Array Value) (row row' : List SV), RelL ρ S w arr.toList row → fillSV place row (ps.map fun p => (p.1, ev p.2)) = some row' →
    ∃ arr', Instr.fill place arr (ps.map fun p => (p.1, ρa p.2)) = some arr' ∧ RelL ρ S w arr'.toList row' := by
  induction ps with
  | nil =>
    intro arr row row' h he
    simp only [List.map_nil, fillSV, Option.some.injEq] at he
    subst he
    exact ⟨arr, rfl, h⟩
  | cons p ps ih =>
    intro arr row row' h he
    simp only [List.map_cons, fillSV] at he
    split at he <;> try (cases he; done)
    rename_i off size cs hp hc
    split at he <;> try (cases he; done)
    rename_i hg
    have hrel := (hev p.2).cells hc
    have hsz : (ρa p.2).cells.size = size := by rw [← hg.1, ← hrel.1, Array.length_toList]
    have hsz2 : arr.size = row.length := by rw [← h.1, Array.length_toList]
    have hfold := relL_fold (ρa p.2).cells.toList cs 0 off arr row h hrel
    rw [Nat.add_zero] at hfold
    obtain ⟨arr', h1, h2⟩ := ih _ _ row' hfold he
    refine ⟨arr', ?_, h2⟩
    simp only [List.map_cons, Instr.fill, hp]
    have hcond : ¬ (((ρa p.2).cells.size ≠ size || decide (off + (ρa p.2).cells.size > arr.size)) = true) := by
      simp only [Bool.or_eq_true, decide_eq_true_eq, not_or]
      refine ⟨fun h => h hsz, ?_⟩
      rw [hsz, hsz2, ← hg.1]
      omega
    rw [if_neg hcond, ← h1]
    congr 1
    rw [← Array.foldl_toList]
    simp

def structPlace (T : Nat → Option TI) (fs : List (Nat × Nat)) (i : Nat) : Option (Nat × Nat) := match fs[i]? with
  | some (off, ft) => (T ft).map fun fi => (off, fi.size)
  | none => none
def allKnown (T : Nat → Option TI) (fs : List (Nat × Nat)) : Bool := fs.all fun f => (T f.2).isSome

def pBuild (T : Nat → Option TI) (t : Nat) (parts : List (Nat × SV)) : Option (Prop × SV) := match T t with
  | some ti => match ti.k with
    | .struct fs => if allKnown T fs then (fillSV (structPlace T fs) (ti.zero.map conSV) parts).map fun row => (True, .ag row) else none
    | .arr _ e => match T e with
      | some ei => (fillSV (fun i => some (i * ei.size, ei.size)) (ti.zero.map conSV) parts).map fun row => (True, .ag row)
      | none => none
    | _ => none
  | none => none

theorem places_ok (hT : TOk P T) (fs : List Field) (h : allKnown T (fs.map fun f => (f.offset, f.type)) = true) :
    ∃ places, fs.mapM (fun f => (P.info? f.type).map fun i => (f.offset, i.size)) = some places ∧ ∀ i, places[i]? = structPlace T (fs.map fun f => (f.offset, f.type)) i := by
  induction fs with
  | nil => exact ⟨[], rfl, fun i => by simp [structPlace]⟩
  | cons f fs ih =>
    simp only [allKnown, List.map_cons, List.all_cons, Bool.and_eq_true] at h
    obtain ⟨h1, h2⟩ := h
    obtain ⟨fi, h1⟩ := Option.isSome_iff_exists.mp h1
    obtain ⟨places, h3, h4⟩ := ih h2
    obtain ⟨i0, z, g1, _, _, g4, _⟩ := (hT _ fi h1).parts
    refine ⟨(f.offset, fi.size) :: places, ?_, fun i => ?_⟩
    · simp [List.mapM_cons, g1, h3, g4]
    · cases i with
      | zero => simp [structPlace, h1]
      | succ i => simpa [structPlace] using h4 i

theorem pBuild_ok (hT : TOk P T) {e : Operand → SV} (hev : ∀ x, Rep ρ S w (a.eval x) (e x)) {t : Nat} {parts : Array (Nat × Operand)} {sv : SV} {side : Prop} (he : pBuild T t (parts.toList.map fun p => (p.1, e p.2)) = some (side, sv)) :
    ∃ u, (∀ w', (Instr.build t (parts.map fun (i, x) => (i, a.eval x))).run P w' = .ok u w') ∧ Rep ρ S w u sv := by
  unfold pBuild at he
  split at he <;> try (cases he; done)
  rename_i ti ht
  obtain ⟨d, h1, h2⟩ := (hT t ti ht).run_und
  obtain ⟨z, h3, h4⟩ := (hT t ti ht).run_zero
  have hrel : RelL ρ S w z.cells.toList (ti.zero.map conSV) := by rw [h4]; exact relL_con _
  have hmap : (parts.map fun (i, x) => (i, a.eval x)).toList = parts.toList.map fun p => (p.1, a.eval p.2) := by simp
  split at he
  · rename_i fs hk
    split at he <;> try (cases he; done)
    rename_i hall
    obtain ⟨row, g1, g2⟩ := Option.map_eq_some_iff.mp he
    simp only [Prod.mk.injEq] at g2
    obtain ⟨_, rfl⟩ := g2
    rw [hk] at h2
    obtain ⟨arr, rfl, h6⟩ := tk_struct h2
    rw [← h6] at hall g1
    obtain ⟨places, p1, p2⟩ := places_ok hT arr.toList hall
    obtain ⟨arr', f1, f2⟩ := fill_ok (structPlace T (arr.toList.map fun f => (f.offset, f.type))) parts.toList a.eval e hev _ _ _ hrel g1
    refine ⟨.agg arr', fun w' => ?_, ?_⟩
    · have : (fun i => (places.toArray)[i]?) = structPlace T (arr.toList.map fun f => (f.offset, f.type)) := by
        funext i; rw [← p2 i]; simp
      simp only [Instr.build, Sem.run_bind, h3, Result.andThen_ok, h1, Array.mapM_eq_mapM_toList]
      have hp := run_places (P := P) w' arr.toList places p1
      simp only [Sem.run_map, bind_pure_comp, hp, Result.andThen_ok, hmap, this, f1, Sem.run_pure]
    · have := Rep.ag (ρ := ρ) (S := S) (w := w) arr'.toList row f2.1 f2.2
      simpa using this
  · rename_i n el hk
    split at he <;> try (cases he; done)
    rename_i ei hei
    obtain ⟨row, g1, g2⟩ := Option.map_eq_some_iff.mp he
    simp only [Prod.mk.injEq] at g2
    obtain ⟨_, rfl⟩ := g2
    rw [hk] at h2
    obtain rfl := tk_arr h2
    obtain ⟨arr', f1, f2⟩ := fill_ok (fun i => some (i * ei.size, ei.size)) parts.toList a.eval e hev _ _ _ hrel g1
    refine ⟨.agg arr', fun w' => ?_, ?_⟩
    · simp only [Instr.build, Sem.run_bind, h3, Result.andThen_ok, h1, (hT el ei hei).run_size, hmap, f1, Sem.run_pure]
    · have := Rep.ag (ρ := ρ) (S := S) (w := w) arr'.toList row f2.1 f2.2
      simpa using this
  · cases he

end Go.Vcg
/- Numbers, texts, bools; all operations that only compute or read, together. -/
namespace Go.Vcg

variable {w0 : World} {M : Perm} {S0 : Nat → Prop} {ρ : Nat → Option Loc} {φ : Nat → Nat → Prop} {S : Nat → Prop} {st : St} {a : Act} {w : World} {P : Program} {T : Nat → Option TI}

def plBin (op : BinOp) (x y : Value) : Option (Prop × Value) := match x, y with
  | .int k a, .int k' b => match op with
    | .shl => some (0 ≤ b, .int k (k.wrap (a * 2 ^ min b.toNat k.bits)))
    | .shr => some (0 ≤ b, .int k (a.fdiv (2 ^ min b.toNat k.bits)))
    | .add => some (k = k', .int k (k.wrap (a + b)))
    | .sub => some (k = k', .int k (k.wrap (a - b)))
    | .mul => some (k = k', .int k (k.wrap (a * b)))
    | .quo => some (k = k' ∧ b ≠ 0, .int k (k.wrap (a.tdiv b)))
    | .rem => some (k = k' ∧ b ≠ 0, .int k (a.tmod b))
    | .and => some (k = k', .int k (bits .and k a b))
    | .or => some (k = k', .int k (bits .or k a b))
    | .xor => some (k = k', .int k (bits .xor k a b))
    | .andNot => some (k = k', .int k (bits .andNot k a b))
    | .eql => some (k = k', .bool (a == b))
    | .neq => some (k = k', .bool (a != b))
    | .lss => some (k = k', .bool (decide (a < b)))
    | .leq => some (k = k', .bool (decide (a ≤ b)))
    | .gtr => some (k = k', .bool (decide (a > b)))
    | .geq => some (k = k', .bool (decide (a ≥ b)))
  | .string a, .string b => match op with
    | .add => some (((a.size + b.size : Nat) : Int) ≤ IntKind.i64.max, .string (a ++ b))
    | .eql => some (True, .bool (a.toList == b.toList))
    | .neq => some (True, .bool !(a.toList == b.toList))
    | .lss => some (True, .bool (Op.bytesLess a.toList b.toList))
    | .leq => some (True, .bool (Op.bytesLess a.toList b.toList || a.toList == b.toList))
    | .gtr => some (True, .bool !(Op.bytesLess a.toList b.toList || a.toList == b.toList))
    | .geq => some (True, .bool !(Op.bytesLess a.toList b.toList))
    | _ => none
  | _, _ => none

theorem plBin_ok {op : BinOp} {t : Nat} {x y : Operand} {u v r : Value} {side : Prop} (he : plBin op u v = some (side, r)) (hs : side) :
    ((do eqGuard op t x y u v; binOp op t u v) : Sem Value).run P w = .ok r w := by
  unfold plBin at he
  split at he
  · rename_i k a k' b
    simp only [Sem.run_bind, eqGuard_at_int, Sem.run_pure, Result.andThen_ok]
    split at he <;> (obtain ⟨rfl, rfl⟩ := Prod.mk.inj (Option.some.inj he))
    case h_1 | h_2 => simp [binOp, Op.shift, show ¬ b < 0 from by omega]
    case h_6 | h_7 => obtain ⟨rfl, hb⟩ := hs; simp [binOp, Op.intDiv, hb]
    all_goals (obtain rfl := hs; first | (simp [binOp, Op.intArith]; done) | (simp [binOp, Op.intCmp]; done) | (simp [binOp]; rfl))
  · rename_i a b
    simp only [Sem.run_bind, eqGuard_at_string, Sem.run_pure, Result.andThen_ok]
    split at he <;> first | (obtain ⟨rfl, rfl⟩ := Prod.mk.inj (Option.some.inj he)) | (cases he; done)
    case h_1 =>
      simp only [binOp, Op.stringOp]
      rw [if_neg (by omega)]
      rfl
    all_goals simp [binOp, Op.stringOp]
  · cases he

def plUn (op : UnOp) (x : Value) : Option Value := match op, x with
  | .neg, .int k n => some (.int k (k.wrap (0 - n)))
  | .not, .bool b => some (.bool !b)
  | .xor, .int k n => some (.int k (bits .xor k (if k.signed then -1 else k.max) n))
  | _, _ => none
theorem plUn_ok {op : UnOp} {u r : Value} (he : plUn op u = some r) : (Op.unary op u).run P w = .ok r w := by
  unfold plUn at he
  split at he
  · obtain rfl := Option.some.inj he; simp [Op.unary, Op.intArith]
  · obtain rfl := Option.some.inj he; simp [Op.unary]
  · obtain rfl := Option.some.inj he; simp [Op.unary]; rfl
  · cases he

/-- min, max of two -/
def plMin (mx : Bool) (x y : Value) : Option Value := match x, y with
  | .int k a, .int _ b => some (.int k (if mx then (if a < b then b else a) else (if b < a then b else a)))
  | _, _ => none
theorem plMin_ok {x y r : Value} {ts : Array TypeId} {ty : Nat} (he : plMin false x y = some r) : (Builtin.min_ ts ty #[x, y]).run P w = .ok r w := by
  unfold plMin at he
  split at he
  · obtain rfl := Option.some.inj he; simp [Builtin.min_, Builtin.min2]
  · cases he
theorem plMax_ok {x y r : Value} {ts : Array TypeId} {ty : Nat} (he : plMin true x y = some r) : (Builtin.max_ ts ty #[x, y]).run P w = .ok r w := by
  unfold plMin at he
  split at he
  · obtain rfl := Option.some.inj he; simp [Builtin.max_, Builtin.max2]
  · cases he

/-- an interface value -/
def pIface (T : Nat → Option TI) (t : Nat) (x : SV) : Option (Prop × SV) := match T t with
  | some ti => match ti.k with
    | .iface => none
    | .other => none
    | _ => some (True, .ifc t x)
  | none => none
theorem pIface_ok (hT : TOk P T) {t : Nat} {v : Value} {s sv : SV} {side : Prop} (hr : Rep ρ S w v s) (he : pIface T t s = some (side, sv)) : ∃ u, (∀ w', (Instr.makeInterface t v).run P w' = .ok u w') ∧ Rep ρ S w u sv := by
  unfold pIface at he
  split at he <;> try (cases he; done)
  rename_i ti ht
  obtain ⟨d, h1, h2⟩ := (hT t ti ht).run_und
  split at he <;> try (cases he; done)
  rename_i hk1 hk2
  obtain ⟨_, rfl⟩ := Prod.mk.inj (Option.some.inj he)
  refine ⟨.iface t v, fun w' => ?_, .ifc t hr⟩
  have : ∀ ms, d ≠ .interface ms := fun ms e => by subst e; exact hk1 h2.symm
  simp only [Instr.makeInterface, Sem.run_bind, h1, Result.andThen_ok]
  try simp

/-- a type assertion with ok, to a type that is no interface -/
def pAssert (T : Nat → Option TI) (x : SV) (t : Nat) : Option (Prop × SV) := match T t with
  | some ti => match ti.k, ti.zero with
    | .iface, _ => none
    | .other, _ => none
    | .struct _, _ => none
    | .arr _ _, _ => none
    | _, [z] => match x with
      | .ifc t' s => some (True, if t' = t then .tu [s, .pl (.bool true)] else .tu [conSV z, .pl (.bool false)])
      | .pl .nilIface => some (True, .tu [conSV z, .pl (.bool false)])
      | _ => none
    | _, _ => none
  | none => none

/-- a function value -/
def pFunc (f : Fn) (xs ys : List SV) : SV := match xs, ys with
  | [], [] => .pl (.func f #[] #[])
  | xs, ys => .fn f xs ys
theorem pFunc_ok {f : Fn} {e : Operand → SV} (hev : ∀ x, Rep ρ S w (a.eval x) (e x)) (xs ys : Array Operand) : Rep ρ S w (.func f (xs.map a.eval) (ys.map a.eval)) (pFunc f (xs.toList.map e) (ys.toList.map e)) := by
  have hx : xs.map a.eval = (xs.toList.map a.eval).toArray := Array.ext' (by simp)
  have hy : ys.map a.eval = (ys.toList.map a.eval).toArray := Array.ext' (by simp)
  have hm : ∀ (l : List Operand) (i : Nat) (v : Value) (c : SV), (l.map a.eval)[i]? = some v → (l.map e)[i]? = some c → Rep ρ S w v c := fun l i v c h1 h2 => by
    rw [List.getElem?_map, Option.map_eq_some_iff] at h1 h2
    obtain ⟨x, h1, rfl⟩ := h1
    obtain ⟨y, h2, rfl⟩ := h2
    rw [h1] at h2
    obtain rfl := Option.some.inj h2
    exact hev x
  rw [hx, hy]
  unfold pFunc
  split
  · rename_i e1 e2
    have e1 : xs.toList = [] := by simpa using e1
    have e2 : ys.toList = [] := by simpa using e2
    rw [e1, e2]
    exact .per (.pl _)
  · exact .fn f _ _ _ _ (by simp) (by simp) (hm _) (hm _)

def pConvert (T : Nat → Option TI) (src dst : Nat) (x : SV) : Option (Prop × SV) := match T src, T dst, x with
  | some _, some di, .pl (.int _ n) => match di.k with
    | .int k => some (True, .pl (.int k (k.wrap n)))
    | _ => none
  | some _, some di, .pl (.string s) => match di.k with
    | .str => some (True, .pl (.string s))
    | _ => none
  | _, _, _ => none
theorem pConvert_ok (hT : TOk P T) {src dst : Nat} {v : Value} {s sv : SV} {side : Prop} (hr : Rep ρ S w v s) (he : pConvert T src dst s = some (side, sv)) :
    ∃ u, (∀ w', (convert src dst v).run P w' = .ok u w') ∧ Rep ρ S w u sv := by
  unfold pConvert at he
  split at he
  · rename_i si di k n hsi hdi
    split at he <;> try (cases he; done)
    rename_i k' hk
    obtain ⟨_, rfl⟩ := Prod.mk.inj (Option.some.inj he)
    obtain rfl := hr.pl_eq
    obtain ⟨d1, h1, _⟩ := (hT src si hsi).run_und
    obtain ⟨d2, h3, h4⟩ := (hT dst di hdi).run_und
    rw [hk] at h4
    obtain rfl := tk_int h4
    exact ⟨_, by simp [convert, h1, h3, Conv.intToInt], .per (.pl _)⟩
  · rename_i si di str hsi hdi
    split at he <;> try (cases he; done)
    rename_i hk
    obtain ⟨_, rfl⟩ := Prod.mk.inj (Option.some.inj he)
    obtain rfl := hr.pl_eq
    obtain ⟨d1, h1, _⟩ := (hT src si hsi).run_und
    obtain ⟨d2, h3, h4⟩ := (hT dst di hdi).run_und
    rw [hk] at h4
    obtain rfl := tk_str h4
    exact ⟨_, by simp [convert, h1, h3], .per (.pl _)⟩
  · cases he

/-- Where a value is known under a condition that holds. -/
def cnIf (b : Bool) (s : SV) : SV := match b with
  | true => s
  | false => .cn false s
def SV.assume (g : Bool) : SV → SV
  | .cn c s => cnIf (!g || c) s
  | s => s
theorem Rep.assume {v : Value} {s : SV} {g : Bool} (h : Rep ρ S w v s) (hg : g = true) : Rep ρ S w v (s.assume g) := by
  subst hg
  cases s with
  | cn c s =>
    cases h with
    | per h => cases h
    | cn _ _ _ h h0 =>
      cases c with
      | true => exact h rfl
      | false => exact .cn v false s (fun h => by cases h) h0
  | _ => exact h

/-- a choice between two bools -/
def pPick (c x y : SV) : Option (Prop × SV) := match c with
  | .pl (.bool c) => match x, y with
    | .pl (.bool p), .pl (.bool q) => some (True, .pl (.bool (bif c then p else q)))
    | .pl (.bool p), .cn g (.pl (.bool q)) => some (c = false → g = true, .pl (.bool (bif c then p else q)))
    | .cn g (.pl (.bool p)), .pl (.bool q) => some (c = true → g = true, .pl (.bool (bif c then p else q)))
    | _, _ => none
  | _ => none
theorem Rep.cn_pl {v u : Value} {g : Bool} (h : Rep ρ S w v (.cn g (.pl u))) (hg : g = true) : v = u := by
  cases h with
  | per h => cases h
  | cn _ _ _ h => exact (h hg).pl_eq
theorem pPick_ok {vc vx vy : Value} {c x y sv : SV} {side : Prop} (hc : Rep ρ S w vc c) (hx : Rep ρ S w vx x) (hy : Rep ρ S w vy y) (he : pPick c x y = some (side, sv)) (hs : side) :
    ∃ b, vc = .bool b ∧ Rep ρ S w (if b then vx else vy) sv := by
  unfold pPick at he
  split at he <;> try (cases he; done)
  rename_i b
  obtain rfl := hc.pl_eq
  refine ⟨b, rfl, ?_⟩
  split at he
  · obtain ⟨rfl, rfl⟩ := Prod.mk.inj (Option.some.inj he)
    obtain rfl := hx.pl_eq
    obtain rfl := hy.pl_eq
    cases b <;> exact .per (.pl _)
  · obtain ⟨rfl, rfl⟩ := Prod.mk.inj (Option.some.inj he)
    obtain rfl := hx.pl_eq
    cases b with
    | true => exact .per (.pl _)
    | false => rw [hy.cn_pl (hs rfl)]; exact .per (.pl _)
  · obtain ⟨rfl, rfl⟩ := Prod.mk.inj (Option.some.inj he)
    obtain rfl := hy.pl_eq
    cases b with
    | true => rw [hx.cn_pl (hs rfl)]; exact .per (.pl _)
    | false => exact .per (.pl _)
  · cases he

def pNil (x : SV) : Option (Prop × SV) := match x with
  | .pt b i o => some (True, .pt b i o)
  | .bp r o => some (True, .bp r o)
  | _ => none

/-- What '==' gives, where it is no matter of numbers or text. -/
def pEql (T : Nat → Option TI) (t : Nat) (x y : SV) : Option Bool := match T t with
  | some ti => match ti.k, x, y with
    | .bool, .pl (.bool a), .pl (.bool b) => some (a == b)
    | .ptr _, .pt _ _ _, .pl (.pointer none) => some false
    | .ptr _, .bp _ _, .pl (.pointer none) => some false
    | .ptr _, .pl (.pointer none), .pl (.pointer none) => some true
    | .iface, .ifc _ _, .pl .nilIface => some false
    | _, _, _ => none
  | none => none
def pBinE (T : Nat → Option TI) (op : BinOp) (t : Nat) (x y : SV) : Option (Prop × SV) := match op, pEql T t x y with
  | .eql, some b => some (True, .pl (.bool b))
  | .neq, some b => some (True, .pl (.bool !b))
  | _, _ => none
def pBin (T : Nat → Option TI) (op : BinOp) (t : Nat) (x y : SV) : Option (Prop × SV) := match x, y with
  | .pl u, .pl v => match plBin op u v with
    | some (side, r) => some (side, .pl r)
    | none => pBinE T op t x y
  | _, _ => pBinE T op t x y

theorem tk_bool' {d : TypeDesc} (h : tkOf d = .bool) : d = .bool := by cases d <;> first | rfl | cases h
theorem tk_ptr' {d : TypeDesc} {e : Nat} (h : tkOf d = .ptr e) : d = .pointer e := by cases d <;> first | (cases h; rfl) | cases h
theorem tk_iface' {d : TypeDesc} (h : tkOf d = .iface) : ∃ ms, d = .interface ms := by cases d <;> first | exact ⟨_, rfl⟩ | cases h

theorem eql_of {t : Nat} {u v : Value} {b : Bool} {w' : World} (ox oy : Operand) (hg : ∀ op : BinOp, (eqGuard op t ox oy u v).run P w' = .ok () w') (hb1 : binOp .eql t u v = do pure (.bool (← Op.equal t u v))) (hb2 : binOp .neq t u v = do pure (.bool (!(← Op.equal t u v)))) (he : (Op.equalIn (9999 + 1) t u v).run P w' = .ok b w') :
    ((do eqGuard .eql t ox oy u v; binOp .eql t u v) : Sem Value).run P w' = .ok (.bool b) w' ∧ ((do eqGuard .neq t ox oy u v; binOp .neq t u v) : Sem Value).run P w' = .ok (.bool !b) w' := by
  have he' : (Op.equal t u v).run P w' = .ok b w' := he
  constructor
  · rw [hb1]; simp [hg, he']
  · rw [hb2]; simp [hg, he']
theorem eqp_none (d t e : Nat) (ad : Addr) (w' : World) (h : P.underlying t = some (.pointer e)) : (Op.equalIn (d + 1) t (.pointer (some ad)) (.pointer none)).run P w' = .ok false w' := by
  simp [Op.equalIn, run_underlying h]
theorem eqp_nn (d t e : Nat) (w' : World) (h : P.underlying t = some (.pointer e)) : (Op.equalIn (d + 1) t (.pointer none) (.pointer none)).run P w' = .ok true w' := by
  simp [Op.equalIn, run_underlying h]
theorem eqi_none (d t u : Nat) (ms : Array (String × TypeId)) (z : Value) (w' : World) (h : P.underlying t = some (.interface ms)) : (Op.equalIn (d + 1) t (.iface u z) .nilIface).run P w' = .ok false w' := by
  simp [Op.equalIn, run_underlying h]
theorem pEql_ok (hT : TOk P T) {t : Nat} {u v : Value} {x y : SV} {b : Bool} (hx : Rep ρ S w u x) (hy : Rep ρ S w v y) (he : pEql T t x y = some b) (w' : World) (ox oy : Operand) :
    ((do eqGuard .eql t ox oy u v; binOp .eql t u v) : Sem Value).run P w' = .ok (.bool b) w' ∧ ((do eqGuard .neq t ox oy u v; binOp .neq t u v) : Sem Value).run P w' = .ok (.bool !b) w' := by
  unfold pEql at he
  split at he <;> try (cases he; done)
  rename_i ti ht
  obtain ⟨d, h1, h2⟩ := (hT t ti ht).und
  split at he <;> try (cases he; done)
  · rename_i hk
    obtain rfl := Option.some.inj he
    rw [hk] at h2
    obtain rfl := tk_bool' h2
    rw [hx.pl_eq, hy.pl_eq]
    exact eql_of ox oy (fun op => by rw [eqGuard_at_bool]; rfl) rfl rfl (run_equalIn_bool _ _ t _ _ h1)
  · rename_i e hk
    obtain rfl := Option.some.inj he
    rw [hk] at h2
    obtain rfl := tk_ptr' h2
    rw [hy.pl_eq]
    have : ∃ ad, u = .pointer (some ad) := by cases hx <;> first | exact ⟨_, rfl⟩ | (rename_i h; cases h)
    obtain ⟨ad, rfl⟩ := this
    exact eql_of ox oy (fun op => by rw [eqGuard_at_pointer]; rfl) rfl rfl (eqp_none _ t _ ad w' h1)
  · rename_i e hk
    obtain rfl := Option.some.inj he
    rw [hk] at h2
    obtain rfl := tk_ptr' h2
    rw [hy.pl_eq]
    have : ∃ ad, u = .pointer (some ad) := by cases hx with | per h => cases h; exact ⟨_, rfl⟩
    obtain ⟨ad, rfl⟩ := this
    exact eql_of ox oy (fun op => by rw [eqGuard_at_pointer]; rfl) rfl rfl (eqp_none _ t _ ad w' h1)
  · rename_i e hk
    obtain rfl := Option.some.inj he
    rw [hk] at h2
    obtain rfl := tk_ptr' h2
    rw [hx.pl_eq, hy.pl_eq]
    exact eql_of ox oy (fun op => by rw [eqGuard_at_pointer]; rfl) rfl rfl (eqp_nn _ t _ w' h1)
  · rename_i hk
    obtain rfl := Option.some.inj he
    rw [hk] at h2
    obtain ⟨ms, rfl⟩ := tk_iface' h2
    rw [hy.pl_eq]
    have : ∃ t' z, u = .iface t' z := by
      cases hx with
      | per h => cases h; exact ⟨_, _, rfl⟩
      | ifc => exact ⟨_, _, rfl⟩
    obtain ⟨t', z, rfl⟩ := this
    exact eql_of ox oy (fun op => by rw [eqGuard_at_iface]; rfl) rfl rfl (eqi_none _ t _ _ z w' h1)
theorem pBinE_ok (hT : TOk P T) {op : BinOp} {t : Nat} {u v : Value} {x y sv : SV} {side : Prop} (hx : Rep ρ S w u x) (hy : Rep ρ S w v y) (ox oy : Operand) (he : pBinE T op t x y = some (side, sv)) :
    ∃ r, (∀ w', ((do eqGuard op t ox oy u v; binOp op t u v) : Sem Value).run P w' = .ok r w') ∧ Rep ρ S w r sv := by
  unfold pBinE at he
  split at he <;> try (cases he; done)
  all_goals
    rename_i hb
    obtain ⟨_, rfl⟩ := Prod.mk.inj (Option.some.inj he)
    refine ⟨_, fun w' => ?_, .per (.pl _)⟩
    first | exact (pEql_ok hT hx hy hb w' ox oy).1 | exact (pEql_ok hT hx hy hb w' ox oy).2
theorem pBin_ok (hT : TOk P T) {op : BinOp} {t : Nat} {u v : Value} {x y sv : SV} {side : Prop} (hx : Rep ρ S w u x) (hy : Rep ρ S w v y) (he : pBin T op t x y = some (side, sv)) (hs : side) (ox oy : Operand) :
    ∃ r, (∀ w', ((do eqGuard op t ox oy u v; binOp op t u v) : Sem Value).run P w' = .ok r w') ∧ Rep ρ S w r sv := by
  unfold pBin at he
  split at he
  · split at he
    · rename_i side' r h1
      obtain ⟨rfl, rfl⟩ := Prod.mk.inj (Option.some.inj he)
      rw [hx.pl_eq, hy.pl_eq]
      exact ⟨r, fun w' => plBin_ok h1 hs, .per (.pl _)⟩
    · exact pBinE_ok hT hx hy ox oy he
  · exact pBinE_ok hT hx hy ox oy he

/-- The first cell of each row. -/
def heads (ys : Rows) : List SV := ys.map fun r => r.getD 0 .dead
/-- a slice of single cells, turned into a pointer to an array -/
def pAP (T : Nat → Option TI) (t : Nat) (x : SV) : Option (Prop × SV) := match T t, x with
  | some ti, .pd rows => match ti.k with
    | .arr n _ => some (0 < n ∧ n ≤ rows.length ∧ RowsLen rows 1, .bp ((heads rows).take n) 0)
    | _ => none
  | _, _ => none
theorem pAP_ok (hT : TOk P T) {t : Nat} {u : Value} {x sv : SV} {side : Prop} (hx : Rep ρ S w u x) (he : pAP T t x = some (side, sv)) (hs : side) : ∃ r, (∀ w', (Instr.arrayAt t u).run P w' = .ok r w') ∧ Rep ρ S w r sv := by
  unfold pAP at he
  split at he <;> try (cases he; done)
  rename_i ti rows hti
  split at he <;> try (cases he; done)
  rename_i n e hk
  obtain ⟨rfl, rfl⟩ := Prod.mk.inj (Option.some.inj he)
  obtain ⟨h0, h1, h2⟩ := hs
  obtain ⟨dd, u1, u2⟩ := (hT t ti hti).und
  rw [hk] at u2
  obtain rfl := tk_arr u2
  cases hx with
  | per hp =>
    cases hp with
    | pd0 => simp at h1; omega
    | pd blk off esz cap _ f hS hc hl hm hr =>
      obtain ⟨r0, hr0⟩ : ∃ r, rows[0]? = some r := ⟨rows[0], List.getElem?_eq_getElem (by omega)⟩
      have e1 : esz = 1 := by rw [← hl 0 r0 hr0]; exact h2 r0 (List.mem_of_getElem? hr0)
      subst e1
      refine ⟨.pointer (some ⟨blk, off, none⟩), fun w' => ?_, .per ?_⟩
      · have h3 : ¬ rows.length < n := by omega
        simp [Instr.arrayAt, run_underlying u1, h3]
      · have := RepP.bp (w := w) blk off 0 ((heads rows).take n) (fun j => f j 0) hS (fun j c hj => ?_) (fun j c hj => ?_)
        · exact this
        all_goals
          rw [List.getElem?_take] at hj
          split at hj <;> try (cases hj; done)
          unfold heads at hj
          rw [List.getElem?_map, Option.map_eq_some_iff] at hj
          obtain ⟨r, hj, rfl⟩ := hj
          have hl : r.length = 1 := h2 r (List.mem_of_getElem? hj)
          have h00 : r[0]? = some (r.getD 0 .dead) := by rw [List.getD_eq_getElem?_getD, List.getElem?_eq_getElem (by omega)]; rfl
        · have := hm j r 0 _ hj h00
          rwa [Nat.mul_one, Nat.add_zero] at this
        · exact hr j r 0 _ hj h00
/-- The operations that only compute or read: what they want, and what they give. -/
def pev (T : Nat → Option TI) (st : St) (e : Operand → SV) : Op → Option (Prop × SV)
  | .move x => some (True, e x)
  | .assign x => some (True, e x)
  | .pick c x y => pPick (e c) (e x) (e y)
  | .load t x => pLoad T st t (e x)
  | .fieldAddr t x f => pFieldAddr T t (e x) f
  | .field t x f => pField T t (e x) f
  | .indexAddr t x i => pIndexAddr T st t (e x) (e i)
  | .slice t x lo hi none => pSlice T st t (e x) (lo.map e) (hi.map e)
  | .build t parts => pBuild T t (parts.toList.map fun p => (p.1, e p.2))
  | .extract x i => pExtract (e x) i
  | .index t x i => pIndex T t (e x) (e i)
  | .makeInterface t x => pIface T t (e x)
  | .makeFunc f xs ys => some (True, pFunc f (xs.toList.map e) (ys.toList.map e))
  | .nilCheck x => pNil (e x)
  | .binOp op t x y _ => pBin T op t (e x) (e y)
  | .unOp op _ x => match e x with
    | .pl u => match plUn op u with
      | some v => some (True, .pl v)
      | none => none
    | _ => none
  | .convert src dst x => pConvert T src dst (e x)
  | .sliceToArrayPointer t x => pAP T t (e x)
  | .call c => match c.callee, c.args.toList, c.argTypes.toList with
    | .builtin .len, [x], [t] => pLen T t (e x)
    | .builtin .min, [x, y], _ => match e x, e y with
      | .pl u, .pl v => match plMin false u v with
        | some r => some (True, .pl r)
        | none => none
      | _, _ => none
    | .builtin .max, [x, y], _ => match e x, e y with
      | .pl u, .pl v => match plMin true u v with
        | some r => some (True, .pl r)
        | none => none
      | _, _ => none
    | _, _, _ => none
  | _ => none

/-- Does the operation read memory? -/
def isLoad : Op → Bool
  | .load _ _ => true
  | _ => false

/-- The pure operations other than loads yield the same in every world. -/
theorem pev_any (hT : TOk P T) (h : Sim w0 M S0 ρ φ S st a w) {e : Operand → SV} (hev : ∀ x, Rep ρ S w (a.eval x) (e x)) {o : Oper} {sv : SV} {side : Prop} (he : pev T st e o.op = some (side, sv)) (hs : side) (hl : isLoad o.op = false) :
    ∃ u, (∀ w', (execOp a.eval o).run P w' = .ok (.value u) w') ∧ Rep ρ S w u sv := by
  unfold execOp
  generalize o.op = op at he hl
  unfold pev at he
  split at he
  · obtain ⟨_, rfl⟩ := Prod.mk.inj (Option.some.inj he)
    exact ⟨_, fun _ => rfl, hev _⟩
  · obtain ⟨_, rfl⟩ := Prod.mk.inj (Option.some.inj he)
    exact ⟨_, fun _ => rfl, hev _⟩
  · rename_i c x y
    obtain ⟨b, h1, h2⟩ := pPick_ok (hev c) (hev x) (hev y) he hs
    exact ⟨_, fun _ => by simp [h1, asBool], h2⟩
  · cases hl
  · obtain ⟨u, h1, h2⟩ := pFieldAddr_ok hT (hev _) he hs
    exact ⟨u, fun w' => by simp [h1], h2⟩
  · obtain ⟨u, h1, h2⟩ := pField_ok hT (hev _) he hs
    exact ⟨u, fun w' => by simp [h1], h2⟩
  · obtain ⟨u, h1, h2⟩ := pIndexAddr_ok hT h (hev _) (hev _) he hs
    exact ⟨u, fun w' => by simp [h1], h2⟩
  · rename_i t x lo hi
    have hb : ∀ (l : Option Operand), (∀ v, l.map a.eval = some v → ∃ s, l.map e = some s ∧ Rep ρ S w v s) ∧ (l.map a.eval = none → l.map e = none) := fun l => by
      cases l with
      | none => exact ⟨fun v h => by simp at h, fun _ => rfl⟩
      | some x => exact ⟨fun v h => ⟨e x, rfl, by simp at h; subst h; exact hev x⟩, fun h => by simp at h⟩
    obtain ⟨u, h1, h2⟩ := pSlice_ok hT h (hev x) (hb lo).1 (hb lo).2 (hb hi).1 (hb hi).2 he hs
    exact ⟨u, fun w' => by simp [h1], h2⟩
  · obtain ⟨u, h1, h2⟩ := pBuild_ok (P := P) (w := w) hT hev he
    exact ⟨u, fun w' => by simp [h1], h2⟩
  · obtain ⟨u, h1, h2⟩ := pExtract_ok (P := P) (hev _) he hs
    exact ⟨u, fun w' => by simp [h1], h2⟩
  · obtain ⟨u, h1, h2⟩ := pIndex_ok (P := P) hT (hev _) (hev _) he hs
    exact ⟨u, fun w' => by simp [h1], h2⟩
  · obtain ⟨u, h1, h2⟩ := pIface_ok (P := P) hT (hev _) he
    exact ⟨u, fun w' => by simp [h1], h2⟩
  · obtain ⟨_, rfl⟩ := Prod.mk.inj (Option.some.inj he)
    exact ⟨_, fun w' => by simp [Instr.makeFunc], pFunc_ok hev _ _⟩
  · rename_i x
    have hr := hev x
    unfold pNil at he
    split at he <;> try (cases he; done)
    all_goals
      rename_i hx
      rw [hx] at hr
      obtain ⟨_, rfl⟩ := Prod.mk.inj (Option.some.inj he)
      have hp : ∃ ad, a.eval x = .pointer (some ad) := by
        generalize a.eval x = v at hr
        cases hr <;> first | exact ⟨_, rfl⟩ | (rename_i h; cases h; exact ⟨_, rfl⟩) | (rename_i h; cases h)
      obtain ⟨ad, hp⟩ := hp
      exact ⟨a.eval x, fun w' => by simp [hp], hr⟩
  · rename_i op t x y yt
    obtain ⟨r, h1, h2⟩ := pBin_ok (P := P) hT (hev x) (hev y) he hs x y
    refine ⟨r, fun w' => ?_, h2⟩
    have := h1 w'
    simp only [Sem.run_bind] at this ⊢
    rw [this]
    rfl
  · rename_i op t x
    have hx := hev x
    split at he <;> try (cases he; done)
    rename_i u e1
    rw [e1] at hx
    split at he <;> try (cases he; done)
    rename_i p h1
    obtain ⟨_, rfl⟩ := Prod.mk.inj (Option.some.inj he)
    refine ⟨p, fun w' => ?_, .per (.pl _)⟩
    simp [hx.pl_eq, plUn_ok (P := P) (w := w') h1]
  · obtain ⟨u, h1, h2⟩ := pConvert_ok hT (hev _) he
    exact ⟨u, fun w' => by simp [h1], h2⟩
  · obtain ⟨u, h1, h2⟩ := pAP_ok (P := P) hT (hev _) he hs
    exact ⟨u, fun w' => by simp [h1], h2⟩
  · rename_i c
    split at he <;> try (cases he; done)
    case h_2 | h_3 =>
      rename_i x y hc ha
      have hx := hev x
      have hy := hev y
      have e1 : c.args = #[x, y] := Array.ext' (by simpa using ha)
      split at he <;> try (cases he; done)
      rename_i u v e3 e4
      rw [e3] at hx
      rw [e4] at hy
      split at he <;> try (cases he; done)
      rename_i r h1
      obtain ⟨_, rfl⟩ := Prod.mk.inj (Option.some.inj he)
      refine ⟨r, fun w' => ?_, .per (.pl _)⟩
      first
        | simp [resolve, hc, invoke, builtin, e1, hx.pl_eq, hy.pl_eq, plMin_ok (P := P) (w := w') (ts := c.argTypes) (ty := o.type) h1]
        | simp [resolve, hc, invoke, builtin, e1, hx.pl_eq, hy.pl_eq, plMax_ok (P := P) (w := w') (ts := c.argTypes) (ty := o.type) h1]
    rename_i x t hc ha ht
    obtain ⟨u, h1, h2⟩ := pLen_ok (ty := o.type) hT (hev x) he
    refine ⟨u, fun w' => ?_, h2⟩
    have e1 : c.args = #[x] := Array.ext' (by simpa using ha)
    have e2 : c.argTypes = #[t] := Array.ext' (by simpa using ht)
    simp [resolve, hc, invoke, builtin, e1, e2, h1]
  · cases he

theorem pev_ok (hT : TOk P T) (h : Sim w0 M S0 ρ φ S st a w) {e : Operand → SV} (hev : ∀ x, Rep ρ S w (a.eval x) (e x)) {o : Oper} {sv : SV} {side : Prop} (he : pev T st e o.op = some (side, sv)) (hs : side) :
    ∃ u, (execOp a.eval o).run P w = .ok (.value u) w ∧ Rep ρ S w u sv := by
  cases hl : isLoad o.op with
  | false =>
    obtain ⟨u, h1, h2⟩ := pev_any (P := P) hT h hev he hs hl
    exact ⟨u, h1 w, h2⟩
  | true =>
    unfold execOp
    generalize o.op = op at he hl
    cases op <;> try (cases hl; done)
    obtain ⟨u, h1, h2⟩ := pLoad_ok (P := P) hT h (hev _) he hs
    exact ⟨u, by simp [h1], h2⟩

end Go.Vcg
