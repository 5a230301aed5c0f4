/- More operations that only compute or read: slicing, building, numbers; and all of them together. -/
import Derived.Test.YtekdhfppbahidaaU5
namespace Go.Vcg

variable {w0 : World} {M : Perm} {S0 : Nat → Prop} {ρ : Nat → Option Loc} {φ : Nat → Nat → Prop} {S : Nat → Prop} {st : St} {a : Act} {w : World} {P : Program} {T : Nat → Option TI}

/-! ## Slicing -/

/-- A bound that is given, or not. -/
def bnd (d : Int) : Option SV → Option Int
  | none => some d
  | some (.pl (.int _ i)) => some i
  | _ => none

def pSlice (T : Nat → Option TI) (st : St) (t : Nat) (x : SV) (lo hi : Option SV) : Option (Prop × SV) := match T t with
  | some ti => match ti.k, x with
    | .slice e, .pd rows => match T e, bnd 0 lo, bnd rows.length hi with
      | some ei, some l, some h => some (0 ≤ l ∧ l ≤ h ∧ h ≤ rows.length ∧ RowsLen rows ei.size, .pd ((rows.drop l.toNat).take (h.toNat - l.toNat)))
      | _, _, _ => none
    | .slice e, .sl b i n => match T e, st.blk b, bnd 0 lo, bnd n hi with
      | some ei, some (.c k _), some l, some h => some (0 ≤ l ∧ l ≤ h ∧ h ≤ n ∧ k = ei.size, .sl b (i + l.toNat) (h.toNat - l.toNat))
      | _, _, _, _ => none
    | .slice e, .sa b r o k n => match T e, bnd 0 lo, bnd n hi with
      | some ei, some l, some h => some (0 ≤ l ∧ l ≤ h ∧ h ≤ n ∧ k = ei.size ∧ l < h, .sa b r (o + l.toNat * ei.size) k (h.toNat - l.toNat))
      | _, _, _ => none
    | .slice e, .nl => match T e, bnd 0 lo, bnd 0 hi with
      | some _, some l, some h => some (l = 0 ∧ h = 0, .nl)
      | _, _, _ => none
    | .arr n e, .bp row o => match T e, bnd 0 lo, bnd n hi with
      | some ei, some l, some h => some (0 ≤ l ∧ l ≤ h ∧ h ≤ n ∧ o + n * ei.size ≤ row.length, .pd (chunks (row.drop (o + l.toNat * ei.size)) ei.size (h.toNat - l.toNat)))
      | _, _, _ => none
    | .arr n e, .pt b i o => match T e, st.blk b, bnd 0 lo, bnd n hi with
      | some ei, some (.c k rows), some l, some h => some (0 ≤ l ∧ l ≤ h ∧ h ≤ n ∧ i < rows.length ∧ o + n * ei.size ≤ k ∧ l < n, .sa b i (o + l.toNat * ei.size) ei.size (h.toNat - l.toNat))
      | _, _, _, _ => none
    | .str, .pl (.string s) => match bnd 0 lo, bnd s.size hi with
      | some l, some h => some (0 ≤ l ∧ l ≤ h ∧ h ≤ s.size, .pl (.string (s.extract l.toNat h.toNat)))
      | _, _ => none
    | _, _ => none
  | none => none

/-- The bounds as the machine finds them. -/
theorem run_bounds {isSlice : Bool} {n cap : Nat} {lo hi : Option Value} {slo shi : Option SV} {l h : Int} (hlo : ∀ v, lo = some v → ∃ s, slo = some s ∧ Rep ρ S w v s) (hlo' : lo = none → slo = none)
    (hhi : ∀ v, hi = some v → ∃ s, shi = some s ∧ Rep ρ S w v s) (hhi' : hi = none → shi = none) (el : bnd 0 slo = some l) (eh : bnd n shi = some h) (g1 : 0 ≤ l) (g2 : l ≤ h) (g3 : h ≤ cap) :
    ∀ w' : World, (Instr.sliceBounds isSlice n cap lo hi none).run P w' = .ok (l.toNat, h.toNat, cap) w' := by
  intro w'
  have hh : ∀ (x : Value) (c : BoundsCode) (y : Nat) (i : Int) (k : IntKind), x = .int k i → 0 ≤ i → i ≤ y → (Instr.sliceBound x y c).run P w' = .ok i.toNat w' := fun x c y i k hx h1 h2 => by
    subst hx
    simp [Instr.sliceBound, asIntOf, h1, h2]
  have h3 : ∃ i k, (hi = none ∧ h = n) ∨ (hi = some (.int k i) ∧ h = i) := by
    cases hi with
    | none => rw [hhi' rfl] at eh; simp [bnd] at eh; exact ⟨0, .i64, .inl ⟨rfl, eh.symm⟩⟩
    | some v =>
      obtain ⟨s, rfl, hr⟩ := hhi v rfl
      unfold bnd at eh
      split at eh <;> try (cases eh; done)
      · rename_i e; cases e
      · rename_i x k i e
        obtain rfl := Option.some.inj e
        obtain rfl := Option.some.inj eh
        exact ⟨_, k, .inr ⟨congrArg some hr.pl_eq, rfl⟩⟩
  have h4 : ∃ i k, (lo = none ∧ l = 0) ∨ (lo = some (.int k i) ∧ l = i) := by
    cases lo with
    | none => rw [hlo' rfl] at el; simp [bnd] at el; exact ⟨0, .i64, .inl ⟨rfl, el.symm⟩⟩
    | some v =>
      obtain ⟨s, rfl, hr⟩ := hlo v rfl
      unfold bnd at el
      split at el <;> try (cases el; done)
      · rename_i e; cases e
      · rename_i x k i e
        obtain rfl := Option.some.inj e
        obtain rfl := Option.some.inj el
        exact ⟨_, k, .inr ⟨congrArg some hr.pl_eq, rfl⟩⟩
  obtain ⟨i, k, h3⟩ := h3
  obtain ⟨i', k', h4⟩ := h4
  unfold Instr.sliceBounds
  rcases h3 with ⟨rfl, rfl⟩ | ⟨rfl, rfl⟩ <;> rcases h4 with ⟨rfl, rfl⟩ | ⟨rfl, rfl⟩
  · simp
  · simp only [Sem.run_bind, Sem.run_pure, Result.andThen_ok]
    rw [hh _ _ n l k' rfl g1 (by omega)]
    simp
  · simp only [Sem.run_bind, Sem.run_pure, Result.andThen_ok]
    rw [hh _ _ cap h k rfl (by omega) g3]
    simp
  · simp only [Sem.run_bind, Sem.run_pure, Result.andThen_ok]
    rw [hh _ _ cap h k rfl (by omega) g3]
    simp only [Result.andThen_ok]
    rw [hh _ _ h.toNat l k' rfl g1 (by omega)]
    simp

theorem repP_sub {blk off esz cap : Nat} {rows : Rows} {f : Nat → Nat → Value} (hS : S blk) (hl : ∀ (i : Nat) (r : List SV), rows[i]? = some r → r.length = esz)
    (hm : ∀ (i : Nat) (r : List SV) (j : Nat) (c : SV), rows[i]? = some r → r[j]? = some c → w.cell? ⟨blk, off + i * esz + j, none⟩ = some (f i j) ∧ (f i j).oneCell' = true)
    (hr : ∀ (i : Nat) (r : List SV) (j : Nat) (c : SV), rows[i]? = some r → r[j]? = some c → RepP S w (f i j) c) (i n : Nat) (hc : n ≤ cap) (hi : i + n ≤ rows.length) :
    RepP S w (.slice (some ⟨blk, off + i * esz, none⟩) n cap) (.pd ((rows.drop i).take n)) := by
  have hn : ((rows.drop i).take n).length = n := by rw [List.length_take, List.length_drop]; omega
  have hrow : ∀ (i' : Nat) (r : List SV), ((rows.drop i).take n)[i']? = some r → rows[i + i']? = some r := fun i' r hr => by
    rw [List.getElem?_take] at hr
    split at hr
    · rw [List.getElem?_drop] at hr; exact hr
    · cases hr
  have key := RepP.pd (S := S) (w := w) blk (off + i * esz) esz cap ((rows.drop i).take n) (fun i' j => f (i + i') j) hS (by rw [hn]; exact hc) (fun i' r hr => hl _ _ (hrow i' r hr))
    (fun i' r j c h1 h2 => by
      have := hm _ r j c (hrow i' r h1) h2
      refine ⟨?_, this.2⟩
      rw [← this.1, Nat.add_mul]
      congr 2
      omega) (fun i' r j c h1 h2 => hr _ r j c (hrow i' r h1) h2)
  rw [hn] at key
  exact key

theorem pSlice_ok (hT : TOk P T) (h : Sim w0 M S0 ρ φ S st a w) {t : Nat} {v : Value} {s sv : SV} {lo hi : Option Value} {slo shi : Option SV} {side : Prop} (hr : Rep ρ S w v s)
    (hlo : ∀ v, lo = some v → ∃ s, slo = some s ∧ Rep ρ S w v s) (hlo' : lo = none → slo = none) (hhi : ∀ v, hi = some v → ∃ s, shi = some s ∧ Rep ρ S w v s) (hhi' : hi = none → shi = none)
    (he : pSlice T st t s slo shi = some (side, sv)) (hs : side) : ∃ u, (∀ w', (Instr.sliceAt t v lo hi none).run P w' = .ok u w') ∧ Rep ρ S w u sv := by
  unfold pSlice at he
  split at he <;> try (cases he; done)
  rename_i ti ht
  obtain ⟨d, h1, h2⟩ := (hT t ti ht).run_und
  split at he
  · rename_i e rows hk
    split at he <;> try (cases he; done)
    rename_i ei l hh hei el eh
    simp only [Option.some.injEq, Prod.mk.injEq] at he
    obtain ⟨rfl, rfl⟩ := he
    obtain ⟨g1, g2, g3, g4⟩ := hs
    rw [hk] at h2; obtain rfl := tk_slice h2
    have hsz := (hT e ei hei).run_size
    cases hr with
    | per hr =>
      cases hr with
      | pd0 x c =>
        have e1 : hh = 0 := by simp at g3; omega
        have e2 : l = 0 := by omega
        subst e1; subst e2
        have hb := run_bounds (P := P) (isSlice := true) (n := 0) (cap := c) hlo hlo' hhi hhi' el eh (by omega) (by omega) (by omega)
        refine ⟨.slice (if c = 0 then x else x.map (·.add (0 * ei.size))) 0 c, ?_, ?_⟩
        · simp [Instr.sliceAt, Instr.slice, h1, hb, hsz]
        · exact .per (.pd0 _ _)
      | pd blk off esz cap _ f hS hc hl hm hrep =>
        have hb := run_bounds (P := P) (isSlice := true) (n := rows.length) (cap := cap) hlo hlo' hhi hhi' el eh g1 g2 (by omega)
        refine ⟨.slice (if cap = l.toNat then some ⟨blk, off, none⟩ else some ⟨blk, off + l.toNat * ei.size, none⟩) (hh.toNat - l.toNat) (cap - l.toNat), ?_, ?_⟩
        · simp [Instr.sliceAt, Instr.slice, h1, hb, hsz, Addr.add_lit]
        · by_cases hrn : rows = []
          · subst hrn
            have : hh.toNat - l.toNat = 0 := by simp at g3; omega
            rw [this, List.take_zero]
            exact .per (.pd0 _ _)
          · have hpos : 0 < rows.length := List.length_pos_iff.mpr hrn
            have hesz : esz = ei.size := (hl 0 _ (getD_some hpos)).symm.trans (g4.at (getD_some hpos))
            by_cases hcl : cap = l.toNat
            · rw [if_pos hcl]
              have : hh.toNat - l.toNat = 0 := by omega
              rw [this, List.take_zero]
              exact .per (.pd0 _ _)
            · rw [if_neg hcl, ← hesz]
              exact .per (repP_sub hS hl hm hrep l.toNat (hh.toNat - l.toNat) (by omega) (by omega))
  · rename_i e b i n hk
    split at he <;> try (cases he; done)
    rename_i ei k rows l hh hei hb0 el eh
    simp only [Option.some.injEq, Prod.mk.injEq] at he
    obtain ⟨rfl, rfl⟩ := he
    obtain ⟨g1, g2, g3, g4⟩ := hs
    rw [hk] at h2; obtain rfl := tk_slice h2
    have hsz := (hT e ei hei).run_size
    cases hr with
    | per hr => cases hr
    | sl0 x _ _ =>
      have e1 : hh = 0 := by omega
      have e2 : l = 0 := by omega
      subst e1; subst e2
      have hb := run_bounds (P := P) (isSlice := true) (n := 0) (cap := 0) hlo hlo' hhi hhi' el eh (by omega) (by omega) (by omega)
      refine ⟨.slice x 0 0, ?_, .sl0 x b _⟩
      simp [Instr.sliceAt, Instr.slice, h1, hb, hsz]
    | sl _ _ _ cap lc hl hc hi2 hz =>
      have hb := run_bounds (P := P) (isSlice := true) (n := n) (cap := cap) hlo hlo' hhi hhi' el eh g1 g2 (by omega)
      have hesz : lc.esz = ei.size := (h.cellsAt hb0 hl).1.trans g4
      refine ⟨.slice (if cap = l.toNat then some (lc.addr i 0) else some (Addr.add (lc.addr i 0) (l.toNat * ei.size))) (hh.toNat - l.toNat) (cap - l.toNat), ?_, ?_⟩
      · simp [Instr.sliceAt, Instr.slice, h1, hb, hsz]
      · by_cases hcl : cap = l.toNat
        · rw [if_pos hcl]
          have e3 : hh.toNat - l.toNat = 0 := by omega
          have e4 : cap - l.toNat = 0 := by omega
          rw [e3, e4]
          exact .sl0 _ b _
        · rw [if_neg hcl]
          have hadr : Addr.add (lc.addr i 0) (l.toNat * ei.size) = lc.addr (i + l.toNat) 0 := by
            unfold Loc.addr
            rw [Addr.add_lit, Nat.add_mul, hesz]
            congr 1
            omega
          rw [hadr]
          refine .sl b _ _ _ lc hl (by omega) (by omega) ?_
          rw [show i + l.toNat + (cap - l.toNat) = i + cap from by omega]
          exact hz
  · rename_i e b r o k n hk
    split at he <;> try (cases he; done)
    rename_i ei l hh hei el eh
    simp only [Option.some.injEq, Prod.mk.injEq] at he
    obtain ⟨rfl, rfl⟩ := he
    obtain ⟨g1, g2, g3, g4, g5⟩ := hs
    rw [hk] at h2; obtain rfl := tk_slice h2
    have hsz := (hT e ei hei).run_size
    cases hr with
    | per hr => cases hr
    | sa _ _ _ _ _ cap lc hl hc hi2 ho =>
      have hb := run_bounds (P := P) (isSlice := true) (n := n) (cap := cap) hlo hlo' hhi hhi' el eh g1 g2 (by omega)
      refine ⟨.slice (some (lc.addr r (o + l.toNat * ei.size))) (hh.toNat - l.toNat) (cap - l.toNat), ?_, ?_⟩
      · have : ¬ cap = l.toNat := by omega
        simp [Instr.sliceAt, Instr.slice, h1, hb, hsz, this, Loc.addr, Addr.add_lit, Nat.add_assoc]
      · refine .sa b r _ k _ _ lc hl (by omega) hi2 ?_
        rw [← g4, Nat.add_assoc, ← Nat.add_mul]
        have : (l.toNat + (hh.toNat - l.toNat)) * k ≤ n * k := Nat.mul_le_mul_right _ (by omega)
        omega
  · rename_i e hk
    split at he <;> try (cases he; done)
    rename_i ei l hh hei el eh
    simp only [Option.some.injEq, Prod.mk.injEq] at he
    obtain ⟨rfl, rfl⟩ := he
    obtain ⟨rfl, rfl⟩ := hs
    rw [hk] at h2; obtain rfl := tk_slice h2
    have hsz := (hT e ei hei).run_size
    obtain rfl := hr.nl_eq
    have hb := run_bounds (P := P) (isSlice := true) (n := 0) (cap := 0) hlo hlo' hhi hhi' el eh (by omega) (by omega) (by omega)
    refine ⟨.slice none 0 0, ?_, .per .nl⟩
    simp [Instr.sliceAt, Instr.slice, h1, hb, hsz]
  · rename_i n e row o hk
    split at he <;> try (cases he; done)
    rename_i ei l hh hei el eh
    simp only [Option.some.injEq, Prod.mk.injEq] at he
    obtain ⟨rfl, rfl⟩ := he
    obtain ⟨g1, g2, g3, g4⟩ := hs
    rw [hk] at h2; obtain rfl := tk_arr h2
    have hsz := (hT e ei hei).run_size
    have hb := run_bounds (P := P) (isSlice := false) (n := n) (cap := n) hlo hlo' hhi hhi' el eh g1 g2 (by omega)
    cases hr with
    | per hr => cases hr with
      | bp blk off _ _ f hS hm hrep =>
        refine ⟨.slice (some (if n = l.toNat then ⟨blk, off + o, none⟩ else ⟨blk, off + o + l.toNat * ei.size, none⟩)) (hh.toNat - l.toNat) (n - l.toNat), ?_, ?_⟩
        · simp [Instr.sliceAt, Instr.sureAddr, h1, hb, hsz, Addr.add_lit]
        · by_cases hcl : n = l.toNat
          · rw [if_pos hcl]
            have : hh.toNat - l.toNat = 0 := by omega
            rw [this]
            exact .per (.pd0 _ _)
          · rw [if_neg hcl]
            generalize hm' : hh.toNat - l.toNat = m
            have hle : l.toNat * ei.size + m * ei.size ≤ n * ei.size := by rw [← Nat.add_mul]; exact Nat.mul_le_mul_right _ (by omega)
            have hcell : ∀ (i j : Nat) (c : SV), i < m → (((row.drop (o + l.toNat * ei.size)).drop (i * ei.size)).take ei.size)[j]? = some c → row[o + l.toNat * ei.size + i * ei.size + j]? = some c := fun i j c q1 q2 => by
              rw [List.getElem?_take] at q2
              split at q2
              · rw [List.getElem?_drop, List.getElem?_drop] at q2
                rw [← q2]; congr 1; omega
              · cases q2
            have key := RepP.pd (S := S) (w := w) blk (off + o + l.toNat * ei.size) ei.size (n - l.toNat) (chunks (row.drop (o + l.toNat * ei.size)) ei.size m) (fun i j => f (o + l.toNat * ei.size + i * ei.size + j)) hS (by rw [chunks_length]; omega)
              (fun i r hr => by
                obtain ⟨q1, rfl⟩ := chunks_get hr
                have : i * ei.size + ei.size ≤ m * ei.size := by rw [← Nat.succ_mul]; exact Nat.mul_le_mul_right _ q1
                simp only [List.length_take, List.length_drop]
                omega)
              (fun i r j c hr hj => by
                obtain ⟨q1, rfl⟩ := chunks_get hr
                have := hm _ _ (hcell i j c q1 hj)
                refine ⟨?_, this.2⟩
                rw [← this.1]
                congr 2
                omega)
              (fun i r j c hr hj => by
                obtain ⟨q1, rfl⟩ := chunks_get hr
                exact hrep _ _ (hcell i j c q1 hj))
            rw [chunks_length] at key
            exact .per key
  · rename_i n e b i o hk
    split at he <;> try (cases he; done)
    rename_i ei k rows l hh hei hb0 el eh
    simp only [Option.some.injEq, Prod.mk.injEq] at he
    obtain ⟨rfl, rfl⟩ := he
    obtain ⟨g1, g2, g3, g4, g5, g6⟩ := hs
    rw [hk] at h2; obtain rfl := tk_arr h2
    have hsz := (hT e ei hei).run_size
    have hb := run_bounds (P := P) (isSlice := false) (n := n) (cap := n) hlo hlo' hhi hhi' el eh g1 g2 (by omega)
    cases hr with
    | per hr => cases hr
    | pt _ _ _ lc hl =>
      obtain ⟨hesz, hcs⟩ := h.cellsAt hb0 hl
      refine ⟨.slice (some (lc.addr i (o + l.toNat * ei.size))) (hh.toNat - l.toNat) (n - l.toNat), ?_, ?_⟩
      · have : ¬ n = l.toNat := by omega
        simp [Instr.sliceAt, Instr.sureAddr, h1, hb, hsz, this, Loc.addr, Addr.add_lit, Nat.add_assoc]
      · refine .sa b i _ ei.size _ _ lc hl (by omega) (by rw [← hcs.long]; exact g4) ?_
        rw [Nat.add_assoc, ← Nat.add_mul, hesz]
        have : (l.toNat + (hh.toNat - l.toNat)) * ei.size ≤ n * ei.size := Nat.mul_le_mul_right _ (by omega)
        omega
  · rename_i str hk
    split at he <;> try (cases he; done)
    rename_i l hh el eh
    simp only [Option.some.injEq, Prod.mk.injEq] at he
    obtain ⟨rfl, rfl⟩ := he
    obtain ⟨g1, g2, g3⟩ := hs
    rw [hk] at h2; obtain rfl := tk_str h2
    obtain rfl := hr.pl_eq
    have hb := run_bounds (P := P) (isSlice := false) (n := str.size) (cap := str.size) hlo hlo' hhi hhi' el eh g1 g2 (by omega)
    refine ⟨_, ?_, .per (.pl _)⟩
    simp [Instr.sliceAt, Instr.slice, h1, hb]
  · cases he

end Go.Vcg
