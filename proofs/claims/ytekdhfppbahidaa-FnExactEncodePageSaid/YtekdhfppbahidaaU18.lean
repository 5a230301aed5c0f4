/- Buffers and arrays of numbers; rows that are closed. -/
import Derived.Test.YtekdhfppbahidaaU17
namespace Go.Vcg

/-! ## Closed rows stand still -/

theorem SV.cloP_clo0 {s : SV} (h : s.cloP = true) : s.clo0 = true := by cases s <;> first | rfl | cases h
theorem SV.clo0_kill0 {s : SV} (d : Nat) (h : s.clo0 = true) : s.kill0 d = s := by cases s <;> first | rfl | cases h
theorem SV.clo0_rn0 {s : SV} (r : Nat → Option Nat) (h : s.clo0 = true) : s.rn0 r = s := by cases s <;> first | rfl | cases h
theorem SV.clo0_sb0 {s : SV} (d : Nat) (g : SV → SV) (h : s.clo0 = true) : s.sb0 d g = s := by cases s <;> first | rfl | cases h
theorem map_self {f : SV → SV} {l : List SV} (h : ∀ c ∈ l, f c = c) : l.map f = l := by
  induction l with
  | nil => rfl
  | cons c l ih => rw [List.map_cons, h c (by simp), ih fun c hc => h c (by simp [hc])]
theorem SV.clo_kill1 {s : SV} (d : Nat) (h : s.clo = true) : s.kill1 d = s := by
  cases s with
  | ifc t s => rw [SV.kill1, SV.clo0_kill0 d h]
  | fn f a b =>
    simp only [SV.clo, Bool.and_eq_true, List.all_eq_true] at h
    rw [SV.kill1, map_self fun c hc => SV.clo0_kill0 d (SV.cloP_clo0 (h.1 c hc)), map_self fun c hc => SV.clo0_kill0 d (SV.cloP_clo0 (h.2 c hc))]
  | _ => first | rfl | cases h
theorem SV.clo_rn1 {s : SV} (r : Nat → Option Nat) (h : s.clo = true) : s.rn1 r = s := by
  cases s with
  | ifc t s => rw [SV.rn1, SV.clo0_rn0 r h]
  | fn f a b =>
    simp only [SV.clo, Bool.and_eq_true, List.all_eq_true] at h
    rw [SV.rn1, map_self fun c hc => SV.clo0_rn0 r (SV.cloP_clo0 (h.1 c hc)), map_self fun c hc => SV.clo0_rn0 r (SV.cloP_clo0 (h.2 c hc))]
  | _ => first | rfl | cases h
theorem SV.clo_sb1 {s : SV} (d : Nat) (g : SV → SV) (h : s.clo = true) : s.sb1 d g = s := by
  cases s with
  | ifc t s => rw [SV.sb1, SV.clo0_sb0 d g h]
  | fn f a b =>
    simp only [SV.clo, Bool.and_eq_true, List.all_eq_true] at h
    rw [SV.sb1, map_self fun c hc => SV.clo0_sb0 d g (SV.cloP_clo0 (h.1 c hc)), map_self fun c hc => SV.clo0_sb0 d g (SV.cloP_clo0 (h.2 c hc))]
  | _ => first | rfl | cases h
theorem rows_self {f : SV → SV} {rows : Rows} (h : ∀ r ∈ rows, ∀ c ∈ r, f c = c) : (rows.map fun r => r.map f) = rows := by
  induction rows with
  | nil => rfl
  | cons r rows ih => rw [List.map_cons, map_self (h r (by simp)), ih fun r hr => h r (by simp [hr])]
theorem cloRows_all {rows : Rows} (h : cloRows rows = true) : ∀ r ∈ rows, ∀ c ∈ r, c.clo = true := by
  simp only [cloRows, cloRow, List.all_eq_true] at h
  exact h
theorem killRows_clo {rows : Rows} (h : cloRows rows = true) (d : Nat) : killRows d rows = rows := rows_self fun r hr c hc => SV.clo_kill1 d (cloRows_all h r hr c hc)
theorem rnRows_clo {rows : Rows} (h : cloRows rows = true) (r : Nat → Option Nat) : rnRows r rows = rows := rows_self fun x hr c hc => SV.clo_rn1 r (cloRows_all h x hr c hc)
theorem sbRows_clo {rows : Rows} (h : cloRows rows = true) (d : Nat) (g : SV → SV) : sbRows d g rows = rows := rows_self fun x hr c hc => SV.clo_sb1 d g (cloRows_all h x hr c hc)
theorem killRow_clo {row : List SV} (h : cloRow row = true) (d : Nat) : row.map (SV.kill1 d) = row := map_self fun c hc => SV.clo_kill1 d (List.all_eq_true.mp h c hc)
theorem rnRow_clo {row : List SV} (h : cloRow row = true) (r : Nat → Option Nat) : row.map (SV.rn1 r) = row := map_self fun c hc => SV.clo_rn1 r (List.all_eq_true.mp h c hc)
theorem sbRow_clo {row : List SV} (h : cloRow row = true) (d : Nat) (g : SV → SV) : row.map (SV.sb1 d g) = row := map_self fun c hc => SV.clo_sb1 d g (List.all_eq_true.mp h c hc)

theorem killRows_nil (d : Nat) : killRows d [] = [] := rfl
theorem killRows_cons (d : Nat) (r : List SV) (rows : Rows) : killRows d (r :: rows) = r.map (SV.kill1 d) :: killRows d rows := rfl
theorem killRows_append (d : Nat) (a b : Rows) : killRows d (a ++ b) = killRows d a ++ killRows d b := List.map_append
theorem rnRows_nil (r : Nat → Option Nat) : rnRows r [] = [] := rfl
theorem rnRows_cons (f : Nat → Option Nat) (r : List SV) (rows : Rows) : rnRows f (r :: rows) = r.map (SV.rn1 f) :: rnRows f rows := rfl
theorem rnRows_append (f : Nat → Option Nat) (a b : Rows) : rnRows f (a ++ b) = rnRows f a ++ rnRows f b := List.map_append
theorem sbRows_nil (d : Nat) (g : SV → SV) : sbRows d g [] = [] := rfl
theorem sbRows_cons (d : Nat) (g : SV → SV) (r : List SV) (rows : Rows) : sbRows d g (r :: rows) = r.map (SV.sb1 d g) :: sbRows d g rows := rfl
theorem sbRows_append (d : Nat) (g : SV → SV) (a b : Rows) : sbRows d g (a ++ b) = sbRows d g a ++ sbRows d g b := List.map_append

/-! ## What holds of all cells, of rows made of rows -/

theorem cloRows_nil : cloRows [] = true := rfl
theorem cloRows_cons (r : List SV) (rows : Rows) : cloRows (r :: rows) = (cloRow r && cloRows rows) := rfl
theorem cloRow_nil : cloRow [] = true := rfl
theorem cloRow_cons (c : SV) (r : List SV) : cloRow (c :: r) = (c.clo && cloRow r) := rfl
theorem cloRow_append (a b : List SV) : cloRow (a ++ b) = (cloRow a && cloRow b) := List.all_append
theorem cloRows_append (a b : Rows) : cloRows (a ++ b) = (cloRows a && cloRows b) := List.all_append
theorem cloRows_take {rows : Rows} (h : cloRows rows = true) (n : Nat) : cloRows (rows.take n) = true := List.all_eq_true.mpr fun r hr => List.all_eq_true.mp h r (List.mem_of_mem_take hr)
theorem cloRows_drop {rows : Rows} (h : cloRows rows = true) (n : Nat) : cloRows (rows.drop n) = true := List.all_eq_true.mpr fun r hr => List.all_eq_true.mp h r (List.mem_of_mem_drop hr)
theorem cloRows_set {rows : Rows} {r : List SV} (h : cloRows rows = true) (hr : cloRow r = true) (n : Nat) : cloRows (rows.set n r) = true := List.all_eq_true.mpr fun x hx => (List.mem_or_eq_of_mem_set hx).elim (List.all_eq_true.mp h x) fun e => e ▸ hr
theorem cloRows_replicate {r : List SV} (h : cloRow r = true) (n : Nat) : cloRows (List.replicate n r) = true := List.all_eq_true.mpr fun x hx => by rw [(List.mem_replicate.mp hx).2]; exact h
theorem dupRows_nil : dupRows [] = true := rfl
theorem dupRows_cons (r : List SV) (rows : Rows) : dupRows (r :: rows) = (r.all SV.dup && dupRows rows) := rfl
theorem dupRows_append (a b : Rows) : dupRows (a ++ b) = (dupRows a && dupRows b) := List.all_append
theorem dupRows_take {rows : Rows} (h : dupRows rows = true) (n : Nat) : dupRows (rows.take n) = true := List.all_eq_true.mpr fun r hr => List.all_eq_true.mp h r (List.mem_of_mem_take hr)
theorem dupRows_drop {rows : Rows} (h : dupRows rows = true) (n : Nat) : dupRows (rows.drop n) = true := List.all_eq_true.mpr fun r hr => List.all_eq_true.mp h r (List.mem_of_mem_drop hr)
theorem shutRows_append (a b : Rows) : shutRows (a ++ b) = (shutRows a && shutRows b) := by simp only [shutRows_eq, List.all_append]
theorem shutRows_take {rows : Rows} (h : shutRows rows = true) (n : Nat) : shutRows (rows.take n) = true := by rw [shutRows_eq] at h ⊢; exact List.all_eq_true.mpr fun r hr => List.all_eq_true.mp h r (List.mem_of_mem_take hr)
theorem shutRows_drop {rows : Rows} (h : shutRows rows = true) (n : Nat) : shutRows (rows.drop n) = true := by rw [shutRows_eq] at h ⊢; exact List.all_eq_true.mpr fun r hr => List.all_eq_true.mp h r (List.mem_of_mem_drop hr)
theorem lend0_clo (B : Nat → Option Bk) {c : SV} (h : c.clo = true) : lend0 B c = c.frz := by
  cases c <;> first | rfl | (simp [SV.clo, SV.clo0] at h; done) | (simp [lend0, SV.frz])
theorem lendRows_clo {rows : Rows} (h : cloRows rows = true) (B : Nat → Option Bk) : lendRows B rows = frzRows rows := by
  rw [frzRows_eq]
  unfold lendRows
  refine List.map_congr_left fun r hr => ?_
  rw [frzL_eq]
  exact List.map_congr_left fun c hc => lend0_clo B (cloRows_all h r hr c hc)
theorem lendRows_nil (B : Nat → Option Bk) : lendRows B [] = [] := rfl
theorem lendRows_cons (B : Nat → Option Bk) (r : List SV) (rows : Rows) : lendRows B (r :: rows) = r.map (lend0 B) :: lendRows B rows := rfl
theorem frzRows_append (a b : Rows) : frzRows (a ++ b) = frzRows a ++ frzRows b := by simp only [frzRows_eq, List.map_append]
theorem frzRows_take (rows : Rows) (n : Nat) : frzRows (rows.take n) = (frzRows rows).take n := by simp only [frzRows_eq, List.map_take]
theorem frzRows_drop (rows : Rows) (n : Nat) : frzRows (rows.drop n) = (frzRows rows).drop n := by simp only [frzRows_eq, List.map_drop]
theorem frzL_append (a b : List SV) : frzL (a ++ b) = frzL a ++ frzL b := by simp only [frzL_eq, List.map_append]
theorem RowsLen_nil (k : Nat) : RowsLen [] k = True := eq_true fun r hr => by simp at hr
theorem RowsLen_append (a b : Rows) (k : Nat) : RowsLen (a ++ b) k = (RowsLen a k ∧ RowsLen b k) := by
  refine propext ⟨fun h => ⟨fun r hr => h r (List.mem_append_left _ hr), fun r hr => h r (List.mem_append_right _ hr)⟩, fun h r hr => (List.mem_append.mp hr).elim (h.1 r) (h.2 r)⟩
theorem RowsLen_cons (r : List SV) (a : Rows) (k : Nat) : RowsLen (r :: a) k = (r.length = k ∧ RowsLen a k) := by
  refine propext ⟨fun h => ⟨h r (by simp), fun r hr => h r (by simp [hr])⟩, fun h x hx => (List.mem_cons.mp hx).elim (fun e => e ▸ h.1) (h.2 x)⟩
theorem RowsLen_take {a : Rows} {k : Nat} (h : RowsLen a k) (n : Nat) : RowsLen (a.take n) k := fun r hr => h r (List.mem_of_mem_take hr)
theorem RowsLen_drop {a : Rows} {k : Nat} (h : RowsLen a k) (n : Nat) : RowsLen (a.drop n) k := fun r hr => h r (List.mem_of_mem_drop hr)

/-! ## Buffers of numbers -/

theorem encI_length (k : IntKind) (xs : List Int) : (encI k xs).length = xs.length := by simp [encI]
theorem encI_getD (k : IntKind) (xs : List Int) (i : Nat) (h : i < xs.length) : (encI k xs).getD i [] = [.pl (.int k (xs.getD i 0))] := by
  simp [encI, List.getD_eq_getElem?_getD, h]
theorem encI_set (k : IntKind) (xs : List Int) (i : Nat) (x : Int) : (encI k xs).set i [.pl (.int k x)] = encI k (xs.set i x) := by simp [encI, List.map_set]
theorem encI_append (k : IntKind) (xs ys : List Int) : encI k xs ++ encI k ys = encI k (xs ++ ys) := by simp [encI]
theorem encI_app1 (k : IntKind) (xs : List Int) (y : Int) : encI k xs ++ [[.pl (.int k y)]] = encI k (xs ++ [y]) := by simp [encI]
theorem encI_one (k : IntKind) (x : Int) : [[SV.pl (.int k x)]] = encI k [x] := rfl
theorem encI_replicate (k : IntKind) (n : Nat) (x : Int) : List.replicate n [SV.pl (.int k x)] = encI k (List.replicate n x) := by simp [encI]
theorem encI_drop (k : IntKind) (n : Nat) (xs : List Int) : (encI k xs).drop n = encI k (xs.drop n) := by simp [encI]
theorem encI_take (k : IntKind) (n : Nat) (xs : List Int) : (encI k xs).take n = encI k (xs.take n) := by simp [encI]
theorem encI_inj (k : IntKind) (xs ys : List Int) : (encI k xs = encI k ys) = (xs = ys) := by
  refine propext ⟨fun h => ?_, fun h => by rw [h]⟩
  unfold encI at h
  exact (List.map_inj_right (fun x y e => by simpa using e)).mp h
theorem encI_isEmpty (k : IntKind) (xs : List Int) : (encI k xs).isEmpty = xs.isEmpty := by cases xs <;> rfl
theorem encI_rowsLen (k : IntKind) (xs : List Int) : RowsLen (encI k xs) 1 = True := by
  refine eq_true fun r hr => ?_
  obtain ⟨x, _, rfl⟩ := List.mem_map.mp hr
  rfl
theorem encI_nil (k : IntKind) : encI k [] = [] := rfl
theorem encI_clo (k : IntKind) (xs : List Int) : cloRows (encI k xs) = true := List.all_eq_true.mpr fun r hr => by obtain ⟨x, _, rfl⟩ := List.mem_map.mp hr; rfl
theorem encI_dup (k : IntKind) (xs : List Int) : dupRows (encI k xs) = true := List.all_eq_true.mpr fun r hr => by obtain ⟨x, _, rfl⟩ := List.mem_map.mp hr; rfl
theorem encI_shut (k : IntKind) (xs : List Int) : shutRows (encI k xs) = true := by rw [shutRows_eq]; exact List.all_eq_true.mpr fun r hr => by obtain ⟨x, _, rfl⟩ := List.mem_map.mp hr; simp [SV.shut]
theorem encI_frz (k : IntKind) (xs : List Int) : frzRows (encI k xs) = encI k xs := by
  rw [frzRows_eq]
  unfold encI
  rw [List.map_map]
  exact List.map_congr_left fun x _ => by simp [frzL, SV.frz]

/-! ## Arrays of numbers -/

theorem encA_length (k : IntKind) (xs : List Int) : (encA k xs).length = xs.length := by simp [encA]
theorem encA_getD (k : IntKind) (xs : List Int) (i : Nat) (h : i < xs.length) : (encA k xs).getD i .dead = .pl (.int k (xs.getD i 0)) := by
  simp [encA, List.getD_eq_getElem?_getD, h]
theorem encA_set (k : IntKind) (xs : List Int) (i : Nat) (x : Int) : (encA k xs).set i (.pl (.int k x)) = encA k (xs.set i x) := by simp [encA, List.map_set]
theorem encA_replicate (k : IntKind) (n : Nat) (x : Int) : List.replicate n (SV.pl (.int k x)) = encA k (List.replicate n x) := by simp [encA]
theorem encA_append (k : IntKind) (xs ys : List Int) : encA k xs ++ encA k ys = encA k (xs ++ ys) := by simp [encA]
theorem encA_inj (k : IntKind) (xs ys : List Int) : (encA k xs = encA k ys) = (xs = ys) := by
  refine propext ⟨fun h => ?_, fun h => by rw [h]⟩
  unfold encA at h
  exact (List.map_inj_right (fun x y e => by simpa using e)).mp h
theorem encA_all {f : SV → Bool} (k : IntKind) (xs : List Int) (h : ∀ x, f (.pl (.int k x)) = true) : (encA k xs).all f = true := List.all_eq_true.mpr fun c hc => by obtain ⟨x, _, rfl⟩ := List.mem_map.mp hc; exact h x
theorem encA_map {f : SV → SV} (k : IntKind) (xs : List Int) (h : ∀ x, f (.pl (.int k x)) = .pl (.int k x)) : (encA k xs).map f = encA k xs := map_self fun c hc => by obtain ⟨x, _, rfl⟩ := List.mem_map.mp hc; exact h x
theorem encA_one (k : IntKind) (xs : List Int) : (encA k xs).all SV.one = true := encA_all k xs fun _ => rfl
theorem encA_cloP (k : IntKind) (xs : List Int) : (encA k xs).all SV.cloP = true := encA_all k xs fun _ => rfl
theorem encA_isPl (k : IntKind) (xs : List Int) : (encA k xs).all SV.isPl = true := encA_all k xs fun _ => rfl
theorem encA_clo (k : IntKind) (xs : List Int) : cloRow (encA k xs) = true := encA_all k xs fun _ => rfl
theorem encA_dup (k : IntKind) (xs : List Int) : (encA k xs).all SV.dup = true := encA_all k xs fun _ => rfl
theorem encA_shut (k : IntKind) (xs : List Int) : shutL (encA k xs) = true := by rw [shutL_eq]; exact encA_all k xs fun _ => by simp [SV.shut]
theorem encA_frz (k : IntKind) (xs : List Int) : frzL (encA k xs) = encA k xs := by rw [frzL_eq]; exact encA_map k xs fun _ => by simp [SV.frz]
theorem encA_kill (k : IntKind) (xs : List Int) (d : Nat) : (encA k xs).map (SV.kill1 d) = encA k xs := encA_map k xs fun _ => rfl
theorem encA_vis (k : IntKind) (xs : List Int) : visL (encA k xs) = encA k xs := encA_map k xs fun _ => rfl
theorem encA_arg (k : IntKind) (xs : List Int) (B : Nat → Option Bk) (r : Nat → Option Nat) : (encA k xs).map (arg1 B r) = encA k xs := encA_map k xs fun _ => by simp [arg1, argL, lend1, lend0, SV.frz]
theorem encA_lend (k : IntKind) (xs : List Int) (B : Nat → Option Bk) : (encA k xs).map (lend0 B) = encA k xs := encA_map k xs fun _ => by simp [lend0, SV.frz]
theorem encA_drop (k : IntKind) (n : Nat) (xs : List Int) : (encA k xs).drop n = encA k (xs.drop n) := by simp [encA]
theorem encA_take (k : IntKind) (n : Nat) (xs : List Int) : (encA k xs).take n = encA k (xs.take n) := by simp [encA]
theorem conSV_replicate (k : IntKind) (n : Nat) (x : Int) : (List.replicate n (Value.int k x)).map conSV = encA k (List.replicate n x) := by
  simp [encA, conSV]
theorem all_oneCell_replicate (k : IntKind) (n : Nat) (x : Int) : (List.replicate n (Value.int k x)).all Value.oneCell' = true := by
  simp [Value.oneCell']
theorem impCs_A (k : IntKind) (xs : List Int) : ∀ n, impCs n (encA k xs) = (encA k xs, []) := by
  induction xs with
  | nil => intro n; rfl
  | cons x xs ih =>
    intro n
    show ((impC n (.pl (.int k x))).1 :: (impCs (n + 1) (encA k xs)).1, (impC n (.pl (.int k x))).2 ++ (impCs (n + 1) (encA k xs)).2) = _
    rw [ih]
    rfl
theorem visL_nil : visL [] = [] := rfl
theorem visL_cons (c : SV) (r : List SV) : visL (c :: r) = c.vis :: visL r := rfl
theorem visL_append (a b : List SV) : visL (a ++ b) = visL a ++ visL b := List.map_append
theorem visL_length (a : List SV) : (visL a).length = a.length := by simp [visL]
theorem chunks_A (k : IntKind) (xs : List Int) (n : Nat) (h : n ≤ xs.length) : chunks (encA k xs) 1 n = encI k (xs.take n) := by
  apply List.ext_getElem?
  intro i
  by_cases hi : i < n
  · have h1 : (chunks (encA k xs) 1 n)[i]? = some (((encA k xs).drop (i * 1)).take 1) := by
      unfold chunks
      rw [List.getElem?_map, List.getElem?_range hi]; rfl
    have hx : i < xs.length := by omega
    rw [h1]
    unfold encI encA
    rw [List.getElem?_map, List.getElem?_take, if_pos hi, List.getElem?_eq_getElem hx, Nat.mul_one, ← List.map_drop, List.drop_eq_getElem_cons hx]
    rfl
  · rw [List.getElem?_eq_none (by rw [chunks_length]; omega), List.getElem?_eq_none (by rw [encI_length, List.length_take]; omega)]

attribute [go_sem] killRows_clo rnRows_clo sbRows_clo killRow_clo rnRow_clo sbRow_clo killRows_nil killRows_cons killRows_append rnRows_nil rnRows_cons rnRows_append sbRows_nil sbRows_cons sbRows_append
  cloRows_nil cloRows_cons cloRow_nil cloRow_cons cloRow_append cloRows_append cloRows_take cloRows_drop cloRows_set cloRows_replicate dupRows_nil dupRows_cons dupRows_append dupRows_take dupRows_drop shutRows_append shutRows_take shutRows_drop frzRows_append frzRows_take frzRows_drop frzL_append
  RowsLen_nil RowsLen_append RowsLen_cons RowsLen_take RowsLen_drop
  encI_length encI_set encI_append encI_app1 encI_replicate encI_drop encI_take encI_inj encI_isEmpty encI_rowsLen encI_clo encI_dup encI_shut encI_frz
  encA_length encA_set encA_replicate encA_append encA_inj encA_one encA_cloP encA_clo encA_dup encA_shut encA_frz encA_kill encA_vis encA_arg encA_lend encA_drop encA_take conSV_replicate all_oneCell_replicate impCs_A visL_nil visL_cons visL_append visL_length

/-! ## The type table -/

inductive AllOk (P : Program) : List (Nat × TI) → Prop
  | nil : AllOk P []
  | cons {t : Nat} {ti : TI} {L : List (Nat × TI)} (h : TI.Ok P t ti) (hs : AllOk P L) : AllOk P ((t, ti) :: L)
theorem tok_of (L : List (Nat × TI)) (P : Program) (h : AllOk P L) : TOk P fun t => L.lookup t := fun t ti e => by
  have e : L.lookup t = some ti := e
  induction h with
  | nil => simp at e
  | cons h _ ih =>
    rw [lookup_cons_if] at e
    split at e
    · rename_i g
      obtain rfl := Option.some.inj e
      subst g
      exact h
    · exact ih e e

end Go.Vcg
