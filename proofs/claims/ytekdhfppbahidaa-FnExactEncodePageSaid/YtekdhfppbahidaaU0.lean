/- Symbolic values, and what they stand for in a world. -/
import Derived.Tactics
import Derived.WalkKit
namespace Go.Vcg

/-- pl: a plain value; nl: the nil slice; pd, bp, pm: a slice, a pointer to a struct, a map whose memory no one writes any more; ow, bo, mo: the same, owned by the cell that holds it;
ifc: an interface value; fn: a function value; sl: a slice of the named block b, from row i on, n rows; sa: a slice of cells inside row i; pt: the address of a cell; mr: a named map;
ag: a struct or an array, cell by cell; tu: several results; cn: known only where c is true; dead: nothing is known. -/
inductive SV where
  | pl (v : Value)
  | nl
  | pd (rows : List (List SV))
  | bp (row : List SV) (off : Nat)
  | pm (es : List (Value × SV))
  | ow (k : Nat) (rows : List (List SV))
  | bo (row : List SV)
  | mo (es : List (Value × SV))
  | ifc (t : Nat) (s : SV)
  | fn (f : Fn) (a b : List SV)
  | sl (b i n : Nat)
  | sa (b i off k n : Nat)
  | pt (b i off : Nat)
  | mr (b : Nat)
  | ag (cs : List SV)
  | tu (cs : List SV)
  | cn (c : Bool) (s : SV)
  | dead

abbrev Rows := List (List SV)

/-- A named block in memory: its number, where its rows begin, how many cells a row has, how many rows it has. -/
structure Loc where
  blk : Nat
  base : Nat
  esz : Nat
  len : Nat

def Loc.addr (l : Loc) (i off : Nat) : Addr := ⟨l.blk, l.base + i * l.esz + off, none⟩

/-- How many cells a block has. -/
def rowSize (w : World) (b : Nat) : Nat := match w.heap[b]? with
  | some (.cells c _ _) => c.size
  | _ => 0

theorem rowSize_congr {w w' : World} {x : Nat} (h : w'.heap[x]? = w.heap[x]?) : rowSize w' x = rowSize w x := by unfold rowSize; rw [h]
theorem cell_congr {w w' : World} {a : Addr} (h : w'.heap[a.block]? = w.heap[a.block]?) : w'.cell? a = w.cell? a := by unfold World.cell?; rw [h]
theorem frozen_congr {w w' : World} {a : Addr} (h : w'.heap[a.block]? = w.heap[a.block]?) : w'.frozen? a = w.frozen? a := by unfold World.frozen?; rw [h]

/-- The entries of a map as the machine keeps them. -/
def EntriesOf (es : Array MapEntry) (kvs : List (Value × Value)) : Prop := es.toList.map (fun e => (e.key, e.val)) = kvs

/-- What is kept for good. -/
inductive RepP (S : Nat → Prop) (w : World) : Value → SV → Prop
  | pl (v : Value) : RepP S w v (.pl v)
  | nl : RepP S w (.slice none 0 0) .nl
  | pd0 (a : Option Addr) (c : Nat) : RepP S w (.slice a 0 c) (.pd [])
  | pd (blk off esz cap : Nat) (rows : Rows) (f : Nat → Nat → Value) (hS : S blk) (hc : rows.length ≤ cap)
      (hl : ∀ (i : Nat) (r : List SV), rows[i]? = some r → r.length = esz)
      (hm : ∀ (i : Nat) (r : List SV) (j : Nat) (c : SV), rows[i]? = some r → r[j]? = some c → w.cell? ⟨blk, off + i * esz + j, none⟩ = some (f i j) ∧ (f i j).oneCell' = true)
      (hr : ∀ (i : Nat) (r : List SV) (j : Nat) (c : SV), rows[i]? = some r → r[j]? = some c → RepP S w (f i j) c) : RepP S w (.slice (some ⟨blk, off, none⟩) rows.length cap) (.pd rows)
  | bp (blk off o : Nat) (row : List SV) (f : Nat → Value) (hS : S blk)
      (hm : ∀ (j : Nat) (c : SV), row[j]? = some c → w.cell? ⟨blk, off + j, none⟩ = some (f j) ∧ (f j).oneCell' = true)
      (hr : ∀ (j : Nat) (c : SV), row[j]? = some c → RepP S w (f j) c) : RepP S w (.pointer (some ⟨blk, off + o, none⟩)) (.bp row o)
  | pm (blk clk : Nat) (ents : Array MapEntry) (es : List (Value × SV)) (vs : List Value) (hS : S blk) (ho : w.heap[blk]? = some (.map ents clk)) (he : EntriesOf ents ((es.map (·.1)).zip vs)) (hl : vs.length = es.length)
      (hr : ∀ (i : Nat) (v : Value) (e : Value × SV), vs[i]? = some v → es[i]? = some e → RepP S w v e.2) : RepP S w (.map (some blk)) (.pm es)
  | ifc (t : Nat) {v : Value} {s : SV} (h : RepP S w v s) : RepP S w (.iface t v) (.ifc t s)
  | fn (f : Fn) (va vb : List Value) (a b : List SV) (ha : va.length = a.length) (hb : vb.length = b.length)
      (h1 : ∀ (i : Nat) (v : Value) (c : SV), va[i]? = some v → a[i]? = some c → RepP S w v c) (h2 : ∀ (i : Nat) (v : Value) (c : SV), vb[i]? = some v → b[i]? = some c → RepP S w v c) : RepP S w (.func f va.toArray vb.toArray) (.fn f a b)
  | ag (vs : List Value) (cs : List SV) (hl : vs.length = cs.length) (h : ∀ (i : Nat) (v : Value) (c : SV), vs[i]? = some v → cs[i]? = some c → RepP S w v c) : RepP S w (.agg vs.toArray) (.ag cs)
  | tu (vs : List Value) (cs : List SV) (hl : vs.length = cs.length) (h : ∀ (i : Nat) (v : Value) (c : SV), vs[i]? = some v → cs[i]? = some c → RepP S w v c) : RepP S w (.tuple vs.toArray) (.tu cs)
  | dead (v : Value) : RepP S w v .dead

theorem RepP.mono {S S' : Nat → Prop} {w w' : World} {v : Value} {s : SV} (h : RepP S w v s) (hS : ∀ i, S i → S' i) (hw : ∀ i, S i → w'.heap[i]? = w.heap[i]?) : RepP S' w' v s := by
  induction h with
  | pl v => exact .pl v
  | nl => exact .nl
  | pd0 a c => exact .pd0 a c
  | pd blk off esz cap rows f hS0 hc hl hm _ ih =>
    refine .pd blk off esz cap rows f (hS _ hS0) hc hl (fun i r j c h1 h2 => ?_) ih
    rw [cell_congr (hw _ hS0)]
    exact hm i r j c h1 h2
  | bp blk off o row f hS0 hm _ ih =>
    refine .bp blk off o row f (hS _ hS0) (fun j c h => ?_) ih
    rw [cell_congr (hw _ hS0)]
    exact hm j c h
  | pm blk clk ents es vs hS0 ho he hl _ ih => exact .pm blk clk ents es vs (hS _ hS0) (by rw [hw _ hS0]; exact ho) he hl ih
  | ifc t _ ih => exact .ifc t ih
  | fn f va vb a b ha hb _ _ ih1 ih2 => exact .fn f va vb a b ha hb ih1 ih2
  | ag vs cs hl _ ih => exact .ag vs cs hl ih
  | tu vs cs hl _ ih => exact .tu vs cs hl ih
  | dead v => exact .dead v

/-- What owns its memory: F has all of it. -/
inductive RepO (S : Nat → Prop) (w : World) : Value → SV → (Nat → Prop) → Prop
  | per {v : Value} {s : SV} {F : Nat → Prop} (h : RepP S w v s) : RepO S w v s F
  | ow0 (a : Option Addr) (k : Nat) (F : Nat → Prop) : RepO S w (.slice a 0 0) (.ow k []) F
  | ow (blk off k cap : Nat) (rows : Rows) (f : Nat → Nat → Value) (G : Nat → Nat → Nat → Prop) (F : Nat → Prop) (hF : F blk) (hG : ∀ i j x, G i j x → F x ∧ x ≠ blk)
      (hd : ∀ i j i' j' x, G i j x → G i' j' x → i = i' ∧ j = j') (ht : blk < w.heap.size) (hf : ∀ o, w.frozen? ⟨blk, o, none⟩ = false) (hc : rows.length ≤ cap) (hz : off + cap * k ≤ rowSize w blk)
      (hl : ∀ (i : Nat) (r : List SV), rows[i]? = some r → r.length = k)
      (hm : ∀ (i : Nat) (r : List SV) (j : Nat) (c : SV), rows[i]? = some r → r[j]? = some c → w.cell? ⟨blk, off + i * k + j, none⟩ = some (f i j) ∧ (f i j).oneCell' = true)
      (hr : ∀ (i : Nat) (r : List SV) (j : Nat) (c : SV), rows[i]? = some r → r[j]? = some c → RepO S w (f i j) c (G i j)) : RepO S w (.slice (some ⟨blk, off, none⟩) rows.length cap) (.ow k rows) F
  | bo (blk off : Nat) (row : List SV) (f : Nat → Value) (G : Nat → Nat → Prop) (F : Nat → Prop) (hF : F blk) (hG : ∀ j x, G j x → F x ∧ x ≠ blk) (hd : ∀ j j' x, G j x → G j' x → j = j') (ht : blk < w.heap.size)
      (hf : ∀ o, w.frozen? ⟨blk, o, none⟩ = false)
      (hm : ∀ (j : Nat) (c : SV), row[j]? = some c → w.cell? ⟨blk, off + j, none⟩ = some (f j) ∧ (f j).oneCell' = true)
      (hr : ∀ (j : Nat) (c : SV), row[j]? = some c → RepO S w (f j) c (G j)) : RepO S w (.pointer (some ⟨blk, off, none⟩)) (.bo row) F
  | mo (blk clk : Nat) (ents : Array MapEntry) (es : List (Value × SV)) (vs : List Value) (G : Nat → Nat → Prop) (F : Nat → Prop) (hF : F blk) (hG : ∀ j x, G j x → F x ∧ x ≠ blk) (hd : ∀ j j' x, G j x → G j' x → j = j')
      (ho : w.heap[blk]? = some (.map ents clk)) (he : EntriesOf ents ((es.map (·.1)).zip vs)) (hl : vs.length = es.length)
      (hr : ∀ (i : Nat) (v : Value) (e : Value × SV), vs[i]? = some v → es[i]? = some e → RepO S w v e.2 (G i)) : RepO S w (.map (some blk)) (.mo es) F
  | ifc (t : Nat) {v : Value} {s : SV} {F : Nat → Prop} (h : RepO S w v s F) : RepO S w (.iface t v) (.ifc t s) F
  | ag (vs : List Value) (cs : List SV) (G : Nat → Nat → Prop) (F : Nat → Prop) (hG : ∀ j x, G j x → F x) (hd : ∀ j j' x, G j x → G j' x → j = j') (hl : vs.length = cs.length)
      (h : ∀ (i : Nat) (v : Value) (c : SV), vs[i]? = some v → cs[i]? = some c → RepO S w v c (G i)) : RepO S w (.agg vs.toArray) (.ag cs) F
  | tu (vs : List Value) (cs : List SV) (G : Nat → Nat → Prop) (F : Nat → Prop) (hG : ∀ j x, G j x → F x) (hd : ∀ j j' x, G j x → G j' x → j = j') (hl : vs.length = cs.length)
      (h : ∀ (i : Nat) (v : Value) (c : SV), vs[i]? = some v → cs[i]? = some c → RepO S w v c (G i)) : RepO S w (.tuple vs.toArray) (.tu cs) F

theorem RepO.sub {S : Nat → Prop} {w : World} {v : Value} {s : SV} {F F' : Nat → Prop} (h : RepO S w v s F) (hF : ∀ x, F x → F' x) : RepO S w v s F' := by
  induction h generalizing F' with
  | per h => exact .per h
  | ow0 a k => exact .ow0 a k F'
  | ow blk off k cap rows f G F h1 h2 h3 h4 h5 h6 h7 h8 h9 h10 _ => exact .ow blk off k cap rows f G F' (hF _ h1) (fun i j x h => ⟨hF _ (h2 i j x h).1, (h2 i j x h).2⟩) h3 h4 h5 h6 h7 h8 h9 h10
  | bo blk off row f G F h1 h2 h3 h4 h5 h6 h7 _ => exact .bo blk off row f G F' (hF _ h1) (fun j x h => ⟨hF _ (h2 j x h).1, (h2 j x h).2⟩) h3 h4 h5 h6 h7
  | mo blk clk ents es vs G F h1 h2 h3 h4 h5 h6 h7 _ => exact .mo blk clk ents es vs G F' (hF _ h1) (fun j x h => ⟨hF _ (h2 j x h).1, (h2 j x h).2⟩) h3 h4 h5 h6 h7
  | ifc t _ ih => exact .ifc t (ih hF)
  | ag vs cs G F h1 h2 h3 h4 _ => exact .ag vs cs G F' (fun j x h => hF _ (h1 j x h)) h2 h3 h4
  | tu vs cs G F h1 h2 h3 h4 _ => exact .tu vs cs G F' (fun j x h => hF _ (h1 j x h)) h2 h3 h4

theorem RepO.mono {S S' : Nat → Prop} {w w' : World} {v : Value} {s : SV} {F : Nat → Prop} (h : RepO S w v s F) (hS : ∀ i, S i → S' i) (hz : w.heap.size ≤ w'.heap.size) (hw : ∀ i, S i ∨ F i → i < w.heap.size → w'.heap[i]? = w.heap[i]?) (hb : ∀ i, S i → i < w.heap.size) : RepO S' w' v s F := by
  induction h with
  | per h => exact .per (h.mono hS fun i hi => hw i (.inl hi) (hb i hi))
  | ow0 a k F => exact .ow0 a k F
  | ow blk off k cap rows f G F h1 h2 h3 h4 h5 h6 h7 h8 h9 h10 ih =>
    have e := hw blk (.inr h1) h4
    exact .ow blk off k cap rows f G F h1 h2 h3 (Nat.lt_of_lt_of_le h4 hz) (fun o => by rw [frozen_congr e]; exact h5 o) h6 (by rw [rowSize_congr e]; exact h7) h8 (fun i r j c g1 g2 => by rw [cell_congr e]; exact h9 i r j c g1 g2)
      fun i r j c g1 g2 => ih i r j c g1 g2 fun x hx => hw x (hx.imp id fun g => (h2 i j x g).1)
  | bo blk off row f G F h1 h2 h3 h4 h5 h6 h7 ih =>
    have e := hw blk (.inr h1) h4
    exact .bo blk off row f G F h1 h2 h3 (Nat.lt_of_lt_of_le h4 hz) (fun o => by rw [frozen_congr e]; exact h5 o) (fun j c g1 => by rw [cell_congr e]; exact h6 j c g1)
      fun j c g1 => ih j c g1 fun x hx => hw x (hx.imp id fun g => (h2 j x g).1)
  | mo blk clk ents es vs G F h1 h2 h3 h4 h5 h6 h7 ih =>
    have hlt : blk < w.heap.size := by
      rcases Nat.lt_or_ge blk w.heap.size with g | g
      · exact g
      · rw [Array.getElem?_eq_none g] at h4; cases h4
    exact .mo blk clk ents es vs G F h1 h2 h3 (by rw [hw blk (.inr h1) hlt]; exact h4) h5 h6 fun i v e g1 g2 => ih i v e g1 g2 fun x hx => hw x (hx.imp id fun g => (h2 i x g).1)
  | ifc t _ ih => exact .ifc t (ih hw)
  | ag vs cs G F h1 h2 h3 h4 ih => exact .ag vs cs G F h1 h2 h3 fun i v c g1 g2 => ih i v c g1 g2 fun x hx => hw x (hx.imp id fun g => h1 i x g)
  | tu vs cs G F h1 h2 h3 h4 ih => exact .tu vs cs G F h1 h2 h3 fun i v c g1 g2 => ih i v c g1 g2 fun x hx => hw x (hx.imp id fun g => h1 i x g)

/-! ## Owned memory is kept for good -/

mutual
def SV.frz : SV → SV
  | .ow _ rows => .pd (frzRows rows)
  | .bo row => .bp (frzL row) 0
  | .mo es => .pm (frzE es)
  | .ifc t s => .ifc t s.frz
  | .ag cs => .ag (frzL cs)
  | .tu cs => .tu (frzL cs)
  | .pl v => .pl v
  | .nl => .pd []
  | .pd r => .pd r
  | .bp r o => .bp r o
  | .pm e => .pm e
  | .fn f a b => .fn f (frzL a) (frzL b)
  | _ => .dead
def frzL : List SV → List SV
  | [] => []
  | s :: ss => s.frz :: frzL ss
def frzRows : List (List SV) → List (List SV)
  | [] => []
  | r :: rs => frzL r :: frzRows rs
def frzE : List (Value × SV) → List (Value × SV)
  | [] => []
  | (k, s) :: es => (k, s.frz) :: frzE es
end
theorem frzL_eq (ss : List SV) : frzL ss = ss.map SV.frz := by
  induction ss with
  | nil => simp [frzL]
  | cons s ss ih => simp [frzL, ih]
theorem frzRows_eq (rows : Rows) : frzRows rows = rows.map frzL := by
  induction rows with
  | nil => simp [frzRows]
  | cons s ss ih => simp [frzRows, ih]
theorem frzE_eq (es : List (Value × SV)) : frzE es = es.map fun e => (e.1, e.2.frz) := by
  induction es with
  | nil => simp [frzE]
  | cons s ss ih => obtain ⟨k, s⟩ := s; simp [frzE, ih]

theorem RepP.frz {S : Nat → Prop} {w : World} {v : Value} {s : SV} (h : RepP S w v s) : RepP S w v s.frz := by
  induction h with
  | pl v => rw [SV.frz]; exact .pl v
  | nl => rw [SV.frz]; exact .pd0 none 0
  | pd0 a c => rw [SV.frz]; exact .pd0 a c
  | pd blk off esz cap rows f h1 h2 h3 h4 h5 _ => rw [SV.frz]; exact .pd blk off esz cap rows f h1 h2 h3 h4 h5
  | bp blk off o row f h1 h2 h3 _ => rw [SV.frz]; exact .bp blk off o row f h1 h2 h3
  | pm blk clk ents es vs h1 h2 h3 h4 h5 _ => rw [SV.frz]; exact .pm blk clk ents es vs h1 h2 h3 h4 h5
  | ifc t _ ih => rw [SV.frz]; exact .ifc t ih
  | fn f va vb a b ha hb _ _ ih1 ih2 =>
    rw [SV.frz, frzL_eq, frzL_eq]
    refine .fn f va vb _ _ (by simpa using ha) (by simpa using hb) (fun i v c h1 h2 => ?_) (fun i v c h1 h2 => ?_)
    · rw [List.getElem?_map, Option.map_eq_some_iff] at h2
      obtain ⟨c', h2, rfl⟩ := h2
      exact ih1 i v c' h1 h2
    · rw [List.getElem?_map, Option.map_eq_some_iff] at h2
      obtain ⟨c', h2, rfl⟩ := h2
      exact ih2 i v c' h1 h2
  | ag vs cs hl _ ih =>
    rw [SV.frz, frzL_eq]
    refine .ag vs _ (by simpa using hl) fun i v c h1 h2 => ?_
    rw [List.getElem?_map, Option.map_eq_some_iff] at h2
    obtain ⟨c', h2, rfl⟩ := h2
    exact ih i v c' h1 h2
  | tu vs cs hl _ ih =>
    rw [SV.frz, frzL_eq]
    refine .tu vs _ (by simpa using hl) fun i v c h1 h2 => ?_
    rw [List.getElem?_map, Option.map_eq_some_iff] at h2
    obtain ⟨c', h2, rfl⟩ := h2
    exact ih i v c' h1 h2
  | dead v => rw [SV.frz] <;> first | exact .dead v | (intros; contradiction) | simp

theorem RepO.frz {S S' : Nat → Prop} {w : World} {v : Value} {s : SV} {F : Nat → Prop} (h : RepO S w v s F) (hS : ∀ i, S i → S' i) (hF : ∀ i, F i → S' i) : RepP S' w v s.frz := by
  induction h with
  | per h => exact (h.mono hS fun _ _ => rfl).frz
  | ow0 a k F => rw [SV.frz, frzRows]; exact .pd0 a 0
  | ow blk off k cap rows f G F h1 h2 h3 h4 h5 h6 h7 h8 h9 h10 ih =>
    rw [SV.frz, frzRows_eq]
    have hk : ∀ (i : Nat) (r : List SV), (rows.map frzL)[i]? = some r → ∃ r', rows[i]? = some r' ∧ r = r'.map SV.frz := fun i r g => by
      rw [List.getElem?_map, Option.map_eq_some_iff] at g
      obtain ⟨r', g1, g2⟩ := g
      exact ⟨r', g1, by rw [← g2, frzL_eq]⟩
    have := RepP.pd (S := S') (w := w) blk off k cap (rows.map frzL) f (hF _ h1) (by simpa using h6) (fun i r g => by
        obtain ⟨r', g1, rfl⟩ := hk i r g
        simpa using h8 i r' g1)
      (fun i r j c g1 g2 => by
        obtain ⟨r', g3, rfl⟩ := hk i r g1
        rw [List.getElem?_map, Option.map_eq_some_iff] at g2
        obtain ⟨c', g2, rfl⟩ := g2
        exact h9 i r' j c' g3 g2)
      (fun i r j c g1 g2 => by
        obtain ⟨r', g3, rfl⟩ := hk i r g1
        rw [List.getElem?_map, Option.map_eq_some_iff] at g2
        obtain ⟨c', g2, rfl⟩ := g2
        exact ih i r' j c' g3 g2 fun x g => hF x (h2 i j x g).1)
    simpa using this
  | bo blk off row f G F h1 h2 h3 h4 h5 h6 h7 ih =>
    rw [SV.frz, frzL_eq]
    refine RepP.bp (S := S') blk off 0 (row.map SV.frz) f (hF _ h1) (fun j c g => ?_) (fun j c g => ?_)
    · rw [List.getElem?_map, Option.map_eq_some_iff] at g
      obtain ⟨c', g, rfl⟩ := g
      simpa using h6 j c' g
    · rw [List.getElem?_map, Option.map_eq_some_iff] at g
      obtain ⟨c', g, rfl⟩ := g
      exact ih j c' g fun x g => hF x (h2 j x g).1
  | mo blk clk ents es vs G F h1 h2 h3 h4 h5 h6 h7 ih =>
    rw [SV.frz, frzE_eq]
    refine RepP.pm blk clk ents _ vs (hF _ h1) h4 ?_ (by simpa using h6) (fun i v e g1 g2 => ?_)
    · rw [List.map_map]; exact h5
    · rw [List.getElem?_map, Option.map_eq_some_iff] at g2
      obtain ⟨e', g2, rfl⟩ := g2
      exact ih i v e' g1 g2 fun x g => hF x (h2 i x g).1
  | ifc t _ ih => rw [SV.frz]; exact .ifc t (ih hF)
  | ag vs cs G F h1 h2 h3 h4 ih =>
    rw [SV.frz, frzL_eq]
    refine .ag vs _ (by simpa using h3) fun i v c g1 g2 => ?_
    rw [List.getElem?_map, Option.map_eq_some_iff] at g2
    obtain ⟨c', g2, rfl⟩ := g2
    exact ih i v c' g1 g2 fun x g => hF x (h1 i x g)
  | tu vs cs G F h1 h2 h3 h4 ih =>
    rw [SV.frz, frzL_eq]
    refine .tu vs _ (by simpa using h3) fun i v c g1 g2 => ?_
    rw [List.getElem?_map, Option.map_eq_some_iff] at g2
    obtain ⟨c', g2, rfl⟩ := g2
    exact ih i v c' g1 g2 fun x g => hF x (h1 i x g)

/-! ## Values with names -/

/-- What a value stands for; ρ: where the names' memory lies. -/
inductive Rep (ρ : Nat → Option Loc) (S : Nat → Prop) (w : World) : Value → SV → Prop
  | per {v : Value} {s : SV} (h : RepP S w v s) : Rep ρ S w v s
  | sl (b i n cap : Nat) (l : Loc) (hb : ρ b = some l) (hc : n ≤ cap) (hi : i + n ≤ l.len) (hz : l.base + (i + cap) * l.esz ≤ rowSize w l.blk) : Rep ρ S w (.slice (some (l.addr i 0)) n cap) (.sl b i n)
  | sl0 (a : Option Addr) (b i : Nat) : Rep ρ S w (.slice a 0 0) (.sl b i 0)
  | sa (b i off k n cap : Nat) (l : Loc) (hb : ρ b = some l) (hc : n ≤ cap) (hi : i < l.len) (ho : off + n * k ≤ l.esz) : Rep ρ S w (.slice (some (l.addr i off)) n cap) (.sa b i off k n)
  | pt (b i off : Nat) (l : Loc) (hb : ρ b = some l) : Rep ρ S w (.pointer (some (l.addr i off))) (.pt b i off)
  | mr (b : Nat) (l : Loc) (hb : ρ b = some l) : Rep ρ S w (.map (some l.blk)) (.mr b)
  | ifc (t : Nat) {v : Value} {s : SV} (h : Rep ρ S w v s) : Rep ρ S w (.iface t v) (.ifc t s)
  | fn (f : Fn) (va vb : List Value) (a b : List SV) (ha : va.length = a.length) (hb : vb.length = b.length)
      (h1 : ∀ (i : Nat) (v : Value) (c : SV), va[i]? = some v → a[i]? = some c → Rep ρ S w v c) (h2 : ∀ (i : Nat) (v : Value) (c : SV), vb[i]? = some v → b[i]? = some c → Rep ρ S w v c) : Rep ρ S w (.func f va.toArray vb.toArray) (.fn f a b)
  | ag (vs : List Value) (cs : List SV) (hl : vs.length = cs.length) (h : ∀ (i : Nat) (v : Value) (c : SV), vs[i]? = some v → cs[i]? = some c → Rep ρ S w v c) : Rep ρ S w (.agg vs.toArray) (.ag cs)
  | tu (vs : List Value) (cs : List SV) (hl : vs.length = cs.length) (h : ∀ (i : Nat) (v : Value) (c : SV), vs[i]? = some v → cs[i]? = some c → Rep ρ S w v c) : Rep ρ S w (.tuple vs.toArray) (.tu cs)
  | cn (v : Value) (c : Bool) (s : SV) (h : c = true → Rep ρ S w v s) (h0 : c = false → v = undef) : Rep ρ S w v (.cn c s)

theorem Rep.dead {ρ : Nat → Option Loc} {S : Nat → Prop} {w : World} (v : Value) : Rep ρ S w v .dead := .per (.dead v)

/-- The names that a value bears. -/
inductive SV.Names : SV → Nat → Prop
  | sl (b i n : Nat) : Names (.sl b i n) b
  | sa (b i off k n : Nat) : Names (.sa b i off k n) b
  | pt (b i off : Nat) : Names (.pt b i off) b
  | mr (b : Nat) : Names (.mr b) b
  | ifc (t : Nat) (s : SV) (x : Nat) (h : Names s x) : Names (.ifc t s) x
  | fna (f : Fn) (a b : List SV) (c : SV) (x : Nat) (hc : c ∈ a) (h : Names c x) : Names (.fn f a b) x
  | fnb (f : Fn) (a b : List SV) (c : SV) (x : Nat) (hc : c ∈ b) (h : Names c x) : Names (.fn f a b) x
  | ag (cs : List SV) (c : SV) (x : Nat) (hc : c ∈ cs) (h : Names c x) : Names (.ag cs) x
  | tu (cs : List SV) (c : SV) (x : Nat) (hc : c ∈ cs) (h : Names c x) : Names (.tu cs) x
  | cn (c : Bool) (s : SV) (x : Nat) (h : Names s x) : Names (.cn c s) x

theorem Rep.mono {ρ ρ' : Nat → Option Loc} {S S' : Nat → Prop} {w w' : World} {v : Value} {s : SV} (h : Rep ρ S w v s) (hS : ∀ i, S i → S' i) (hw : ∀ i, S i → w'.heap[i]? = w.heap[i]?)
    (hn : ∀ b, s.Names b → ρ' b = ρ b) (hz : ∀ x, rowSize w x ≤ rowSize w' x) : Rep ρ' S' w' v s := by
  induction h with
  | per h => exact .per (h.mono hS hw)
  | sl b i n cap l hb hc hi hz' => exact .sl b i n cap l (by rw [hn b (.sl ..)]; exact hb) hc hi (Nat.le_trans hz' (hz _))
  | sl0 a b i => exact .sl0 a b i
  | sa b i off k n cap l hb hc hi ho => exact .sa b i off k n cap l (by rw [hn b (.sa ..)]; exact hb) hc hi ho
  | pt b i off l hb => exact .pt b i off l (by rw [hn b (.pt ..)]; exact hb)
  | mr b l hb => exact .mr b l (by rw [hn b (.mr ..)]; exact hb)
  | ifc t _ ih => exact .ifc t (ih fun b hb => hn b (.ifc t _ b hb))
  | fn f va vb a b ha hb _ _ ih1 ih2 => exact .fn f va vb a b ha hb (fun i v c h1 h2 => ih1 i v c h1 h2 fun x hx => hn x (.fna f a b c x (List.mem_of_getElem? h2) hx)) (fun i v c h1 h2 => ih2 i v c h1 h2 fun x hx => hn x (.fnb f a b c x (List.mem_of_getElem? h2) hx))
  | ag vs cs hl _ ih => exact .ag vs cs hl fun i v c h1 h2 => ih i v c h1 h2 fun b hb => hn b (.ag cs c b (List.mem_of_getElem? h2) hb)
  | tu vs cs hl _ ih => exact .tu vs cs hl fun i v c h1 h2 => ih i v c h1 h2 fun b hb => hn b (.tu cs c b (List.mem_of_getElem? h2) hb)
  | cn v c s _ h0 ih => exact .cn v c s (fun hc => ih hc fun b hb => hn b (.cn c s b hb)) h0

theorem Rep.toS {ρ : Nat → Option Loc} {S S' : Nat → Prop} {w : World} {v : Value} {s : SV} (h : Rep ρ S w v s) (hS : ∀ i, S i → S' i) : Rep ρ S' w v s := h.mono hS (fun _ _ => rfl) (fun _ _ => rfl) (fun _ => Nat.le_refl _)

/-! ## A name is forgotten -/

def SV.kill0 (d : Nat) : SV → SV
  | .sl b i n => if b = d then .dead else .sl b i n
  | .sa b i o k n => if b = d then .dead else .sa b i o k n
  | .pt b i o => if b = d then .dead else .pt b i o
  | .mr b => if b = d then .dead else .mr b
  | .ifc _ _ => .dead
  | .fn _ _ _ => .dead
  | .ag _ => .dead
  | .tu _ => .dead
  | .cn _ _ => .dead
  | s => s
def SV.kill1 (d : Nat) : SV → SV
  | .ifc t s => .ifc t (s.kill0 d)
  | .fn f a b => .fn f (a.map (SV.kill0 d)) (b.map (SV.kill0 d))
  | s => s.kill0 d
def SV.kill2 (d : Nat) : SV → SV
  | .ag cs => .ag (cs.map (SV.kill1 d))
  | s => s.kill1 d
def SV.kill (d : Nat) : SV → SV
  | .tu cs => .tu (cs.map (SV.kill2 d))
  | .cn c s => .cn c (s.kill2 d)
  | s => s.kill2 d

theorem SV.kill0_names {d b : Nat} {s : SV} (h : (s.kill0 d).Names b) : b ≠ d ∧ s.Names b := by
  cases s with
  | sl x i n =>
    rw [SV.kill0] at h
    split at h
    · cases h
    · cases h; exact ⟨by assumption, .sl ..⟩
  | sa x i o k n =>
    rw [SV.kill0] at h
    split at h
    · cases h
    · cases h; exact ⟨by assumption, .sa ..⟩
  | pt x i n =>
    rw [SV.kill0] at h
    split at h
    · cases h
    · cases h; exact ⟨by assumption, .pt ..⟩
  | mr x =>
    rw [SV.kill0] at h
    split at h
    · cases h
    · cases h; exact ⟨by assumption, .mr ..⟩
  | _ => cases h
theorem SV.kill1_names {d b : Nat} {s : SV} (h : (s.kill1 d).Names b) : b ≠ d ∧ s.Names b := by
  cases s with
  | ifc t s =>
    cases h with
    | ifc _ _ _ h => exact ⟨(kill0_names h).1, .ifc t s b (kill0_names h).2⟩
  | fn f x y =>
    cases h with
    | fna _ _ _ c _ hc h =>
      obtain ⟨c', hc', rfl⟩ := List.mem_map.mp hc
      exact ⟨(kill0_names h).1, .fna f x y c' b hc' (kill0_names h).2⟩
    | fnb _ _ _ c _ hc h =>
      obtain ⟨c', hc', rfl⟩ := List.mem_map.mp hc
      exact ⟨(kill0_names h).1, .fnb f x y c' b hc' (kill0_names h).2⟩
  | _ => exact kill0_names h
theorem SV.kill2_names {d b : Nat} {s : SV} (h : (s.kill2 d).Names b) : b ≠ d ∧ s.Names b := by
  cases s with
  | ag cs =>
    cases h with
    | ag _ c _ hc h =>
      obtain ⟨c', hc', rfl⟩ := List.mem_map.mp hc
      exact ⟨(kill1_names h).1, .ag cs c' b hc' (kill1_names h).2⟩
  | _ => exact kill1_names h
theorem SV.kill_names {d b : Nat} {s : SV} (h : (s.kill d).Names b) : b ≠ d ∧ s.Names b := by
  cases s with
  | tu cs =>
    cases h with
    | tu _ c _ hc h =>
      obtain ⟨c', hc', rfl⟩ := List.mem_map.mp hc
      exact ⟨(kill2_names h).1, .tu cs c' b hc' (kill2_names h).2⟩
  | cn c s =>
    cases h with
    | cn _ _ _ h => exact ⟨(kill2_names h).1, .cn c s b (kill2_names h).2⟩
  | _ => exact kill2_names h

section
variable {ρ : Nat → Option Loc} {S : Nat → Prop} {w : World}
theorem Rep.kill0 {v : Value} {s : SV} (d : Nat) (h : Rep ρ S w v s) : Rep ρ S w v (s.kill0 d) := by
  cases s <;> first
    | exact h
    | exact .dead v
    | (rw [SV.kill0]; split <;> first | exact h | exact .dead v)
theorem relmap {R R' : Value → SV → Prop} {g : SV → SV} (hg : ∀ v c, R v c → R' v (g c)) {vs : List Value} {cs : List SV} (h : ∀ (i : Nat) (v : Value) (c : SV), vs[i]? = some v → cs[i]? = some c → R v c) :
    ∀ (i : Nat) (v : Value) (c : SV), vs[i]? = some v → (cs.map g)[i]? = some c → R' v c := fun i v c h1 h2 => by
  rw [List.getElem?_map, Option.map_eq_some_iff] at h2
  obtain ⟨c', h2, rfl⟩ := h2
  exact hg v c' (h i v c' h1 h2)
theorem Rep.kill1 {v : Value} {s : SV} (d : Nat) (h : Rep ρ S w v s) : Rep ρ S w v (s.kill1 d) := by
  cases s with
  | ifc t s =>
    cases h with
    | ifc _ h => exact .ifc t (h.kill0 d)
    | per h => cases h with
      | ifc _ h => exact .ifc t (Rep.kill0 d (.per h))
  | fn f x y =>
    cases h with
    | fn _ va vb _ _ ha hb h1 h2 => exact .fn f va vb _ _ (by simpa using ha) (by simpa using hb) (relmap (fun v c h => h.kill0 d) h1) (relmap (fun v c h => h.kill0 d) h2)
    | per h => cases h with
      | fn _ va vb _ _ ha hb h1 h2 => exact .fn f va vb _ _ (by simpa using ha) (by simpa using hb) (relmap (fun v c h => Rep.kill0 d (.per h)) h1) (relmap (fun v c h => Rep.kill0 d (.per h)) h2)
  | _ => exact h.kill0 d
theorem Rep.kill2 {v : Value} {s : SV} (d : Nat) (h : Rep ρ S w v s) : Rep ρ S w v (s.kill2 d) := by
  cases s with
  | ag cs =>
    cases h with
    | ag vs _ hl h => exact .ag vs _ (by simpa using hl) (relmap (fun v c h => h.kill1 d) h)
    | per h => cases h with
      | ag vs _ hl h => exact .ag vs _ (by simpa using hl) (relmap (fun v c h => Rep.kill1 d (.per h)) h)
  | _ => exact h.kill1 d
theorem Rep.kill {v : Value} {s : SV} (d : Nat) (h : Rep ρ S w v s) : Rep ρ S w v (s.kill d) := by
  cases s with
  | tu cs =>
    cases h with
    | tu vs _ hl h => exact .tu vs _ (by simpa using hl) (relmap (fun v c h => h.kill2 d) h)
    | per h => cases h with
      | tu vs _ hl h => exact .tu vs _ (by simpa using hl) (relmap (fun v c h => Rep.kill2 d (.per h)) h)
  | cn c s =>
    cases h with
    | cn _ _ _ h h0 => exact .cn v c _ (fun hc => (h hc).kill2 d) h0
    | per h => cases h
  | _ => exact h.kill2 d
end

end Go.Vcg
