/- What the reading of an argument shows: its cells are there, and what they hold. -/
import Derived.Test.YtekdhfppbahidaaU23
import Derived.ChangeArms
import Derived.ChangeSlices
import Derived.DataReads
namespace Go.Vcg

section
variable {H : Type} {enc : TypeId × Value → H} {P : Program} {w : World} {t e : TypeId} {cs : List Value}

/-- The cells are read; no slice in them is larger than memory. -/
def Rd (enc : TypeId × Value → H) (P : Program) (w : World) (t : TypeId) (cs : List Value) : Prop := ∃ fuel d ps, DataW.trod enc P w 0 (fun _ => true) true fuel t cs = some (d, ps) ∧ ∀ x ∈ d.weights P t, x ≤ reachBytes

theorem weightsAll_mem {P : Program} {e : TypeId} : ∀ {l : List (DataW H)} {i : Nat} {d : DataW H}, l[i]? = some d → ∀ x ∈ d.weights P e, x ∈ DataW.weightsAll P e l
  | [], i, d, h, x, hx => by simp at h
  | d0 :: l, 0, d, h, x, hx => by
    simp only [List.getElem?_cons_zero, Option.some.injEq] at h
    subst h
    rw [DataW.weightsAll]
    exact List.mem_append_left _ hx
  | d0 :: l, i + 1, d, h, x, hx => by
    rw [DataW.weightsAll]
    exact List.mem_append_right _ (weightsAll_mem (l := l) (i := i) (by simpa using h) x hx)
theorem weightsEach_mem {P : Program} : ∀ {ts : List TypeId} {l : List (DataW H)} {i : Nat} {t : TypeId} {d : DataW H}, ts[i]? = some t → l[i]? = some d → ∀ x ∈ d.weights P t, x ∈ DataW.weightsEach P ts l
  | [], _, i, _, _, h, _, x, hx => by simp at h
  | _ :: _, [], i, _, _, _, h, x, hx => by simp at h
  | t0 :: ts, d0 :: l, 0, t, d, h, h', x, hx => by
    simp only [List.getElem?_cons_zero, Option.some.injEq] at h h'
    subst h; subst h'
    rw [DataW.weightsEach]
    exact List.mem_append_left _ hx
  | t0 :: ts, d0 :: l, i + 1, t, d, h, h', x, hx => by
    rw [DataW.weightsEach]
    exact List.mem_append_right _ (weightsEach_mem (ts := ts) (l := l) (i := i) (by simpa using h) (by simpa using h') x hx)

theorem Rd.int {k : IntKind} (ht : P.underlying t = some (.int k)) (h : Rd enc P w t cs) : ∃ n, cs = [.int k n] ∧ (Lit.int k n).wf = true := by
  obtain ⟨fuel, d, ps, h1, _⟩ := h
  obtain ⟨n, h2, _, h3⟩ := DataW.trod_int ht h1
  exact ⟨n, h2, h3⟩
theorem Rd.bool (ht : P.underlying t = some .bool) (h : Rd enc P w t cs) : ∃ b, cs = [.bool b] := by
  obtain ⟨fuel, d, ps, h1, _⟩ := h
  obtain ⟨b, h2, _⟩ := DataW.trod_bool ht h1
  exact ⟨b, h2⟩
theorem Rd.str (ht : P.underlying t = some .string) (h : Rd enc P w t cs) : ∃ s : ByteArray, cs = [.string s] ∧ s.size ≤ reachBytes := by
  obtain ⟨fuel, d, ps, h1, hw⟩ := h
  obtain ⟨s, h2, h3, _⟩ := DataW.trod_string ht h1
  obtain ⟨rfl, _⟩ := Prod.mk.inj h3
  refine ⟨s, h2, ?_⟩
  have := hw s.data.toList.length (by simp [DataW.weights])
  simpa using this
theorem Rd.slice (ht : P.underlying t = some (.slice e)) (hb : 0 < P.bytesOf e) (h : Rd enc P w t cs) : cs = [.slice none 0 0] ∨
    ∃ (a : Addr) (len cap : Nat), cs = [.slice (some a) len cap] ∧ len ≤ cap ∧ len ≤ reachBytes ∧ ∀ i, i < len → ∃ row, w.cells? 0 (a.add (i * P.cellsOf e)) (P.cellsOf e) = some row ∧ Rd enc P w e row := by
  obtain ⟨fuel, d, ps, h1, hw⟩ := h
  rcases DataW.trod_slice ht h1 with ⟨h2, _⟩ | ⟨a, len, cap, elems, rest, n, rfl, rfl, hx, _, hl, _, hlen, hel, _⟩
  · exact .inl h2
  · refine .inr ⟨a, len, cap, rfl, hl, ?_, fun i hi => ?_⟩
    all_goals
      obtain ⟨rfl, _⟩ := Prod.mk.inj hx
      rw [DataW.weights, ht] at hw
      simp only [List.length_map] at hw
    · have h3 := hw _ (List.mem_cons_self ..)
      have h4 : elems.length * 1 ≤ (elems.length + rest.length) * P.bytesOf e := Nat.mul_le_mul (by omega) hb
      omega
    · have h3 := hel i hi
      have h4 : i < elems.length := by omega
      rw [List.getElem?_eq_getElem h4, Option.bind_eq_some_iff] at h3
      obtain ⟨row, h5, h6⟩ := h3
      refine ⟨row, h5, n, elems[i].1, elems[i].2, h6, fun x hx => hw x ?_⟩
      refine List.mem_cons_of_mem _ (List.mem_append_left _ ?_)
      exact weightsAll_mem (i := i) (by rw [List.getElem?_map, List.getElem?_eq_getElem h4]; rfl) x hx
theorem Rd.struct {fs : Array Field} (ht : P.underlying t = some (.struct fs)) (h : Rd enc P w t cs) : cs.length = P.cellsOf t ∧ ∀ (i : Nat) (f : Field), fs[i]? = some f → Rd enc P w f.type ((cs.drop f.offset).take (P.cellsOf f.type)) := by
  obtain ⟨fuel, d, ps, h1, hw⟩ := h
  obtain ⟨xs, n, rfl, hx, hl, hs, hf⟩ := DataW.trod_struct ht h1
  obtain ⟨rfl, _⟩ := Prod.mk.inj hx
  refine ⟨hl, fun i f hi => ?_⟩
  have h2 := hf i f hi
  have hi' : i < xs.length := by rw [hs]; exact (Array.getElem?_eq_some_iff.mp hi).1
  rw [List.getElem?_eq_getElem hi'] at h2
  refine ⟨n, xs[i].1, xs[i].2, h2, fun x hx => hw x ?_⟩
  rw [DataW.weights, ht]
  exact weightsEach_mem (i := i) (t := f.type) (d := xs[i].1) (by rw [List.getElem?_map, Array.getElem?_toList, hi]; rfl) (by rw [List.getElem?_map, List.getElem?_eq_getElem hi']; rfl) x hx
end

/-! ## What the cells are -/

/-- The cells of a value, as a row that is kept for good. -/
structure RowRep (w : World) (cs : List Value) (row : List SV) : Prop where
  len : cs.length = row.length
  rep : ∀ (j : Nat) (v : Value) (s : SV), cs[j]? = some v → row[j]? = some s → RepP (allBlk w) w v s ∧ v.oneCell' = true

/-- Whatever is read as a t is an A: its row is f a, and ok holds. -/
def EncP {H : Type} (enc : TypeId × Value → H) (P : Program) (w : World) (t : TypeId) {A : Type} (f : A → List SV) (ok : A → Prop) : Prop := ∀ cs, Rd enc P w t cs → ∃ a, RowRep w cs (f a) ∧ ok a

theorem RowRep.append {w : World} {cs ds : List Value} {r r' : List SV} (h : RowRep w cs r) (h' : RowRep w ds r') : RowRep w (cs ++ ds) (r ++ r') := by
  refine ⟨by rw [List.length_append, List.length_append, h.len, h'.len], fun j v s h1 h2 => ?_⟩
  rw [List.getElem?_append] at h1 h2
  rw [h.len] at h1
  by_cases e : j < r.length
  · rw [if_pos e] at h1 h2; exact h.rep j v s h1 h2
  · rw [if_neg e] at h1 h2; exact h'.rep _ v s h1 h2
theorem RowRep.one {w : World} {v : Value} {s : SV} (h : RepP (allBlk w) w v s) (h1 : v.oneCell' = true) : RowRep w [v] [s] := by
  refine ⟨rfl, fun j v' s' e1 e2 => ?_⟩
  cases j with
  | zero =>
    simp only [List.getElem?_cons_zero, Option.some.injEq] at e1 e2
    subst e1; subst e2
    exact ⟨h, h1⟩
  | succ j => simp at e1

section
variable {H : Type} {enc : TypeId × Value → H} {P : Program} {w : World} {t e : TypeId}
theorem EncP.int {k : IntKind} (ht : P.underlying t = some (.int k)) : EncP enc P w t (fun n : Int => [.pl (.int k n)]) (fun n => (Lit.int k n).wf = true) := fun cs h => by
  obtain ⟨n, rfl, hw⟩ := h.int ht
  exact ⟨n, .one (.pl _) rfl, hw⟩

theorem cells_mem {w : World} {a : Addr} {n : Nat} {row : List Value} (h : w.cells? 0 a n = some row) : row.length = n ∧ ∀ j v, row[j]? = some v → w.cell? (a.add j) = some v := by
  obtain ⟨_, h1, h2⟩ := World.cells?_some h
  refine ⟨h1, fun j v hj => ?_⟩
  have hj' : j < n := by rw [← h1]; exact (List.getElem?_eq_some_iff.mp hj).1
  rw [h2 j hj', hj]

theorem EncP.slice {A : Type} [Inhabited A] {f : A → List SV} {ok : A → Prop} (ht : P.underlying t = some (.slice e)) (hb : 0 < P.bytesOf e) (hc : 0 < P.cellsOf e) (he : EncP enc P w e f ok) :
    EncP enc P w t (fun xs : List A => [.pd (encL f xs)]) (fun xs => xs.length ≤ reachBytes ∧ ∀ i, i < xs.length → ok (xs.getD i default)) := fun cs h => by
  rcases h.slice ht hb with rfl | ⟨a, len, cap, rfl, h1, h2, h3⟩
  · exact ⟨[], .one (.pd0 none 0) rfl, by simp, fun i hi => by simp at hi⟩
  · have hch : ∀ i, ∃ x : A, i < len → ∃ row, w.cells? 0 (a.add (i * P.cellsOf e)) (P.cellsOf e) = some row ∧ RowRep w row (f x) ∧ ok x := fun i => by
      by_cases hi : i < len
      · obtain ⟨row, g1, g2⟩ := h3 i hi
        obtain ⟨x, g3, g4⟩ := he row g2
        exact ⟨x, fun _ => ⟨row, g1, g3, g4⟩⟩
      · exact ⟨default, fun g => absurd g hi⟩
    obtain ⟨x, hx⟩ := Classical.axiomOfChoice hch
    let xs := (List.range len).map x
    have hlen : xs.length = len := by simp [xs]
    have hget : ∀ i, i < len → xs.getD i default = x i := fun i hi => by simp [xs, List.getD_eq_getElem?_getD, hi]
    refine ⟨xs, ?_, by omega, fun i hi => ?_⟩
    · by_cases h0 : len = 0
      · subst h0
        have : xs = [] := List.length_eq_zero_iff.mp hlen
        rw [this]
        exact .one (.pd0 (some a) cap) rfl
      · obtain ⟨b, off, sub⟩ := a
        have hall : ∀ i, i < len → ∃ row : List Value, row.length = (f (x i)).length ∧ (f (x i)).length = P.cellsOf e ∧ (∀ j v, row[j]? = some v → w.cell? ((⟨b, off, sub⟩ : Addr).add (i * P.cellsOf e + j)) = some v) ∧ ∀ (j : Nat) (v : Value) (s : SV), row[j]? = some v → (f (x i))[j]? = some s → RepP (allBlk w) w v s ∧ v.oneCell' = true := fun i hi => by
          obtain ⟨row, g1, g2, _⟩ := hx i hi
          obtain ⟨g3, g4⟩ := cells_mem g1
          refine ⟨row, g2.len, by rw [← g2.len, g3], fun j v hj => ?_, g2.rep⟩
          have := g4 j v hj
          rw [Addr.add_add] at this
          exact this
        have hcell : ∀ i j s, i < len → (f (x i))[j]? = some s → ∃ v, w.cell? ((⟨b, off, sub⟩ : Addr).add (i * P.cellsOf e + j)) = some v ∧ v.oneCell' = true ∧ RepP (allBlk w) w v s := fun i j s hi hj => by
          obtain ⟨row, g1, g2, g3, g4⟩ := hall i hi
          have hjl : j < row.length := by rw [g1]; exact (List.getElem?_eq_some_iff.mp hj).1
          have e1 := List.getElem?_eq_getElem hjl
          exact ⟨_, g3 j _ e1, (g4 j _ s e1 hj).2, (g4 j _ s e1 hj).1⟩
        have hsub : sub = none := by
          obtain ⟨row, g1, g2, g3, g4⟩ := hall 0 (by omega)
          have e1 := List.getElem?_eq_getElem (l := row) (i := 0) (by omega)
          have := g3 0 _ e1
          simpa [Addr.add] using World.cell?_spot this
        subst hsub
        have hblk : allBlk w b := by
          obtain ⟨row, g1, g2, g3, g4⟩ := hall 0 (by omega)
          have e1 := List.getElem?_eq_getElem (l := row) (i := 0) (by omega)
          have := g3 0 _ e1
          unfold allBlk
          apply Classical.byContradiction
          intro hn
          have h0 : w.heap[b]? = none := Array.getElem?_eq_none (by omega)
          simp [World.cell?, Addr.add, h0] at this
        have hrow : ∀ (i : Nat) (r : List SV), (encL f xs)[i]? = some r → i < len ∧ r = f (x i) := fun i r hi => by
          unfold encL at hi
          rw [List.getElem?_map, Option.map_eq_some_iff] at hi
          obtain ⟨y, g1, rfl⟩ := hi
          have hil : i < len := by rw [← hlen]; exact (List.getElem?_eq_some_iff.mp g1).1
          refine ⟨hil, ?_⟩
          have : xs[i]? = some (x i) := by simp [xs, hil]
          rw [this] at g1
          rw [← Option.some.inj g1]
        have hv := RepP.pd (S := allBlk w) (w := w) b off (P.cellsOf e) cap (encL f xs) (fun i j => (w.cell? ((⟨b, off, none⟩ : Addr).add (i * P.cellsOf e + j))).getD undef) hblk (by rw [encL_length, hlen]; exact h1) (fun i r hi => by
            obtain ⟨g1, rfl⟩ := hrow i r hi
            obtain ⟨_, _, g2, _⟩ := hall i g1
            exact g2) (fun i r j c hi hj => by
            obtain ⟨g1, rfl⟩ := hrow i r hi
            obtain ⟨v, g2, g3, _⟩ := hcell i j c g1 hj
            have g2' : w.cell? ⟨b, off + i * P.cellsOf e + j, none⟩ = some v := by rw [← g2, Addr.add_lit, Nat.add_assoc]
            rw [g2]
            exact ⟨g2', g3⟩) (fun i r j c hi hj => by
            obtain ⟨g1, rfl⟩ := hrow i r hi
            obtain ⟨v, g2, _, g4⟩ := hcell i j c g1 hj
            rw [g2]
            exact g4)
        rw [encL_length, hlen] at hv
        exact .one hv rfl
    · rw [hlen] at hi
      obtain ⟨_, _, _, g⟩ := hx i hi
      rw [hget i hi]
      exact g
end

end Go.Vcg
