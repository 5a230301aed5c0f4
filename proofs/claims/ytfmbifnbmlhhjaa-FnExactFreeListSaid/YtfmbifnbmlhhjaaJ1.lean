import Derived.Test.YtfmbifnbmlhhjaaG7
import Derived.Test.YtfmbifnbmlhhjaaM1
namespace Go.Proofs.Ytfmbifnbmlhhjaa
open Go Go.Vcg Go.IntWalk
set_option maxRecDepth 100000
set_option maxHeartbeats 20000000
set_option linter.unusedSimpArgs false
set_option linter.unusedVariables false
/-! # The free list, in plain numbers -/
def chk (b : List Int) (j : Nat) : Int := leN ((b.drop (4 + 4 * j)).take 4)
def chks (b : List Int) (j : Nat) : List Int := (List.range j).map (chk b)
theorem chks_zero (b : List Int) : chks b 0 = [] := rfl
theorem chks_succ (b : List Int) (j : Nat) : chks b (j + 1) = chks b j ++ [chk b j] := by
  unfold chks
  rw [List.range_succ, List.map_append]
  rfl
theorem chks_len (b : List Int) (j : Nat) : (chks b j).length = j := by simp [chks]
def cnt (b : List Int) : Nat := (b.length - 4) / 4
def lastV (l : List Int) : Int := l.getD (l.length - 1) 0
theorem lastV_snoc (l : List Int) (x : Int) : lastV (l ++ [x]) = x := by
  unfold lastV
  rw [List.length_append, List.length_singleton, Nat.add_sub_cancel, List.getD_eq_getElem?_getD, List.getElem?_append_right (Nat.le_refl _)]
  simp
theorem lastV_nil : lastV [] = 0 := rfl
abbrev flB (a : DiskA) (id : Int) : List Int := pgB (pgNow a id)
/-- The pages of the list, one behind the other. -/
def flI (a : DiskA) (s : Int) : Nat → Int
  | 0 => s
  | k + 1 => leN ((flB a (flI a s k)).take 4)
def flO (a : DiskA) (s : Int) (k : Nat) : List Int := (List.range k).map (flI a s)
def flF (a : DiskA) (s : Int) : Nat → List Int
  | 0 => []
  | k + 1 => flF a s k ++ chks (flB a (flI a s k)) (cnt (flB a (flI a s k)))
theorem flO_zero (a : DiskA) (s : Int) : flO a s 0 = [] := rfl
theorem flF_zero (a : DiskA) (s : Int) : flF a s 0 = [] := rfl
theorem flO_succ (a : DiskA) (s : Int) (k : Nat) : flO a s (k + 1) = flO a s k ++ [flI a s k] := by
  unfold flO
  rw [List.range_succ, List.map_append]
  rfl
theorem flO_len (a : DiskA) (s : Int) (k : Nat) : (flO a s k).length = k := by simp [flO]
/-- Does the number fit behind these? -/
def fits (l : List Int) (x : Int) : Prop := 0 < l.length → lastV l < x
/-- A page of the list that is in order, but for its numbers. -/
def flP (a : DiskA) (s : Int) (k : Nat) : Prop := rdOk a (flI a s k) (pgNow a (flI a s k)) ∧ flI a s k ∉ flO a s k ∧ pgK (pgNow a (flI a s k)) = 4 ∧ 4 ≤ (flB a (flI a s k)).length ∧ (flB a (flI a s k)).length % 4 = 0
def flN (a : DiskA) (s : Int) (k j : Nat) : Prop := fits (flF a s k ++ chks (flB a (flI a s k)) j) (chk (flB a (flI a s k)) j)
def flG (a : DiskA) (s : Int) (k : Nat) : Prop := flI a s k ≠ 0 ∧ flP a s k ∧ ∀ j, j < cnt (flB a (flI a s k)) → flN a s k j
/-- The list ends behind n pages. -/
def flEnd (a : DiskA) (s : Int) (n : Nat) : Prop := (∀ k, k < n → flG a s k) ∧ flI a s n = 0
theorem flEnd_one {a : DiskA} {s : Int} {n m : Nat} (h : flEnd a s n) (h' : flEnd a s m) : n = m := by
  rcases Nat.lt_trichotomy n m with e | e | e
  · exact absurd h.2 (h'.1 n e).1
  · exact e
  · exact absurd h'.2 (h.1 m e).1
open Classical in
/-- What the free list gives: the free pages, the list's own, whether it is in order. -/
noncomputable def flR (a : DiskA) (s : Int) : List Int × List Int × Bool := if h : ∃ n, flEnd a s n then (flF a s h.choose, flO a s h.choose, true) else ([], [], false)
theorem flR_end {a : DiskA} {s : Int} {n : Nat} (h : flEnd a s n) : flR a s = (flF a s n, flO a s n, true) := by
  have hx : ∃ n, flEnd a s n := ⟨n, h⟩
  unfold flR
  rw [dif_pos hx, flEnd_one hx.choose_spec h]
theorem flR_bad {a : DiskA} {s : Int} {k : Nat} (h : ∀ j, j < k → flG a s j) (h0 : flI a s k ≠ 0) (h1 : ¬ flG a s k) : flR a s = ([], [], false) := by
  unfold flR
  rw [dif_neg]
  rintro ⟨n, g1, g2⟩
  rcases Nat.lt_trichotomy n k with e | e | e
  · exact (h n e).1 g2
  · exact h0 (e ▸ g2)
  · exact h1 (g1 k e)
/-- So many different numbers below N are at most N. -/
theorem pigeon : ∀ (N : Nat) (l : List Int), l.Nodup → (∀ x ∈ l, 0 ≤ x ∧ x < N) → l.length ≤ N
  | 0, l, _, h => by
    cases l with
    | nil => exact Nat.le_refl _
    | cons x l => have := h x (List.mem_cons_self ..); omega
  | N + 1, l, hn, h => by
    by_cases e : (N : Int) ∈ l
    · have h1 := pigeon N (l.erase N) (hn.erase _) fun x hx => by
        have h2 := h x (List.mem_of_mem_erase hx)
        have h3 : x ≠ N := fun q => by
          subst q
          exact (List.Nodup.not_mem_erase hn) hx
        omega
      rw [List.length_erase_of_mem e] at h1
      omega
    · have h1 := pigeon N l hn fun x hx => by
        have h2 := h x hx
        have h3 : x ≠ N := fun q => e (q ▸ hx)
        omega
      omega
theorem flO_nodup {a : DiskA} {s : Int} : ∀ {n : Nat}, (∀ k, k < n → flG a s k) → (flO a s n).Nodup ∧ ∀ x ∈ flO a s n, 0 ≤ x ∧ x < (a.Safe.length / 4 : Nat)
  | 0, _ => ⟨by rw [flO_zero]; exact List.nodup_nil, fun x hx => by cases hx⟩
  | n + 1, h => by
    obtain ⟨h1, h2⟩ := flO_nodup (n := n) fun k hk => h k (by omega)
    have h3 := (h n (by omega)).2.1
    rw [flO_succ]
    refine ⟨?_, fun x hx => ?_⟩
    · rw [List.nodup_append]
      exact ⟨h1, by simp, fun x hx y hy e => by
        rw [List.mem_singleton] at hy
        exact h3.2.1 (hy ▸ e ▸ hx)⟩
    · rcases List.mem_append.mp hx with hx | hx
      · exact h2 x hx
      · rw [List.mem_singleton] at hx
        rw [hx]
        exact h3.1.1
theorem fl_few {a : DiskA} {s : Int} {n : Nat} (h : ∀ k, k < n → flG a s k) : n ≤ a.Safe.length / 4 := by
  obtain ⟨h1, h2⟩ := flO_nodup h
  have := pigeon _ _ h1 h2
  rwa [flO_len] at this
end Go.Proofs.Ytfmbifnbmlhhjaa

