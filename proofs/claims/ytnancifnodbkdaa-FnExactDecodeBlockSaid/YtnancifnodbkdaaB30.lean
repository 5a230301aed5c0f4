import Derived.Test.YtnancifnodbkdaaB29
namespace Go.Proofs.Ytnancifnodbkdaa
open Go Go.Vcg Go.IntWalk
set_option maxRecDepth 100000
set_option maxHeartbeats 20000000
set_option linter.unusedSimpArgs false
set_option linter.unusedVariables false
/-- The reference's reader. -/
def spB (raw : List Int) (p : Nat) (s : Bool) (n : Nat) : List Int := if s = false ∧ p + n ≤ raw.length then (raw.drop p).take n else List.replicate n 0
def spP (raw : List Int) (p : Nat) (s : Bool) (n : Nat) : Nat := if s = false ∧ p + n ≤ raw.length then p + n else p
def spS (raw : List Int) (p : Nat) (s : Bool) (n : Nat) : Bool := if s = false ∧ p + n ≤ raw.length then false else true
theorem spB_length (raw : List Int) (p : Nat) (s : Bool) (n : Nat) : (spB raw p s n).length = n := by
  unfold spB
  split
  · rw [List.length_take, List.length_drop]; omega
  · simp
theorem spB_ok {raw : List Int} (h : okBytes raw) (p : Nat) (s : Bool) (n : Nat) : okBytes (spB raw p s n) := by
  unfold spB
  split
  · exact okBytes_sub h p n
  · exact okBytes_rep n
theorem spP_le {raw : List Int} {p : Nat} (h : p ≤ raw.length) (s : Bool) (n : Nat) : spP raw p s n ≤ raw.length := by
  unfold spP
  split
  · omega
  · exact h
def rdr (raw : List Int) (p : Nat) (s : Bool) : Bk := .c 3 [[.pd (encI .u8 raw), .pl (.int .i64 p), .pl (.bool s)]]
attribute [go_sem] rdr
theorem stake_ok {raw : List Int} {p n : Nat} {s : Bool} (hl : raw.length < 2 ^ 40 := by exact pm) (hp : p ≤ raw.length := by exact pm) (hn : n ≤ 32 := by exact pm) : TSpec Try.prog 100 [(1000000, rdr raw p s)] [.pt 1000000 0 0, .pl (.int .i64 n)] true [(1000000, rdr raw (spP raw p s n) (spS raw p s n))] (.pd (encI .u8 (spB raw p s n))) := by
  simp only [rdr]
  unfold spB spP spS
  by_cases h : s = false ∧ p + n ≤ raw.length
  · rw [if_pos h, if_pos h, if_pos h]
    obtain ⟨rfl, h⟩ := h
    have e1 : ((p : Int) + n - n).toNat = p := by omega
    have e2 : ((p : Int) + n).toNat = p + n := by omega
    have e3 : p + n - p = n := by omega
    have hD := And.intro (e1) (And.intro (e2) ((e3)))
    have hD := And.intro (e1) (And.intro (e2) ((e3)))
    refine sT 52 [.tmp 4] Try.func100 fun w0 S0 ρ0 φ0 => ?_
    repeat' (first | apply W.seq | apply W.skip | apply W.region | apply W.block | apply N.code | apply N.blk | apply Sl.nil | apply W.exit | apply W.ret | apply E.hit | apply E.code | apply E.fin | refine zM ?_ | apply O.i | refine sP ?_ | refine sQ fun _ => ?_ | refine sX fun _ => ?_ | (refine rD (id := 1) anyW [] ?_; refine rP 0 false fun _ => ?_; refine rP 1 false fun _ => ?_; refine rP 2 false fun _ => ?_; refine rP 3 true fun _ => ?_; refine rP 4 false fun _ => ?_; refine rG 5 false fun _ => ?_; refine rG 6 false fun _ => ?_; refine rG 7 false fun _ => ?_; refine rG 8 true fun _ => ?_; refine rG 9 false fun _ => ?_; refine rG 10 false fun _ => ?_; refine rG 11 false fun _ => ?_; refine rG 12 false fun _ => ?_; refine rG 13 false fun _ => ?_; refine rG 14 true fun _ => ?_; refine rG 15 false fun _ => ?_; refine rG 16 false fun _ => ?_; refine rP 17 false fun _ => ?_; refine rE ?_) | (refine rD (id := 5) anyW [] ?_; refine rP 0 false fun _ => ?_; refine rP 1 false fun _ => ?_; refine rP 2 false fun _ => ?_; refine rP 3 true fun _ => ?_; refine rP 4 false fun _ => ?_; refine rP 5 false fun _ => ?_; refine rP 6 false fun _ => ?_; refine rP 7 true fun _ => ?_; refine rP 8 false fun _ => ?_; refine rP 9 false fun _ => ?_; refine rP 10 false fun _ => ?_; refine rP 11 false fun _ => ?_; refine rP 12 false fun _ => ?_; refine rP 13 true fun _ => ?_; refine rP 14 false fun _ => ?_; refine rP 15 false fun _ => ?_; refine rE ?_) | refine zI ?_ ?_ | (intro hb; (try simp [-List.getD_eq_getElem?_getD] at hb); (try (exfalso; omega))))
    simp only [Int.natCast_add]
    exact rS
  · rw [if_neg h, if_neg h, if_neg h]
    have hD := dN0
    have hD := dN0
    refine sT 52 [.tmp 4] Try.func100 fun w0 S0 ρ0 φ0 => ?_
    cases s
    · have h' : raw.length < p + n := by
        by_cases e : p + n ≤ raw.length
        · exact absurd ⟨rfl, e⟩ h
        · omega
      repeat' (first | apply W.seq | apply W.skip | apply W.region | apply W.block | apply N.code | apply N.blk | apply Sl.nil | apply W.exit | apply W.ret | apply E.hit | apply E.code | apply E.fin | refine zM ?_ | apply O.i | refine sP ?_ | refine sQ fun _ => ?_ | refine sX fun _ => ?_ | (refine rD (id := 1) anyW [] ?_; refine rP 0 false fun _ => ?_; refine rP 1 false fun _ => ?_; refine rP 2 false fun _ => ?_; refine rP 3 true fun _ => ?_; refine rP 4 false fun _ => ?_; refine rG 5 false fun _ => ?_; refine rG 6 false fun _ => ?_; refine rG 7 false fun _ => ?_; refine rG 8 true fun _ => ?_; refine rG 9 false fun _ => ?_; refine rG 10 false fun _ => ?_; refine rG 11 false fun _ => ?_; refine rG 12 false fun _ => ?_; refine rG 13 false fun _ => ?_; refine rG 14 true fun _ => ?_; refine rG 15 false fun _ => ?_; refine rG 16 false fun _ => ?_; refine rP 17 false fun _ => ?_; refine rE ?_) | (refine rD (id := 5) anyW [] ?_; refine rP 0 false fun _ => ?_; refine rP 1 false fun _ => ?_; refine rP 2 false fun _ => ?_; refine rP 3 true fun _ => ?_; refine rP 4 false fun _ => ?_; refine rP 5 false fun _ => ?_; refine rP 6 false fun _ => ?_; refine rP 7 true fun _ => ?_; refine rP 8 false fun _ => ?_; refine rP 9 false fun _ => ?_; refine rP 10 false fun _ => ?_; refine rP 11 false fun _ => ?_; refine rP 12 false fun _ => ?_; refine rP 13 true fun _ => ?_; refine rP 14 false fun _ => ?_; refine rP 15 false fun _ => ?_; refine rE ?_) | refine zI ?_ ?_ | (intro hb; (try simp [-List.getD_eq_getElem?_getD] at hb); (try (exfalso; omega))))
      refine hZ 27 ?_
      exact rS
    · repeat' (first | apply W.seq | apply W.skip | apply W.region | apply W.block | apply N.code | apply N.blk | apply Sl.nil | apply W.exit | apply W.ret | apply E.hit | apply E.code | apply E.fin | refine zM ?_ | apply O.i | refine sP ?_ | refine sQ fun _ => ?_ | refine sX fun _ => ?_ | (refine rD (id := 1) anyW [] ?_; refine rP 0 false fun _ => ?_; refine rP 1 false fun _ => ?_; refine rP 2 false fun _ => ?_; refine rP 3 true fun _ => ?_; refine rP 4 false fun _ => ?_; refine rG 5 false fun _ => ?_; refine rG 6 false fun _ => ?_; refine rG 7 false fun _ => ?_; refine rG 8 true fun _ => ?_; refine rG 9 false fun _ => ?_; refine rG 10 false fun _ => ?_; refine rG 11 false fun _ => ?_; refine rG 12 false fun _ => ?_; refine rG 13 false fun _ => ?_; refine rG 14 true fun _ => ?_; refine rG 15 false fun _ => ?_; refine rG 16 false fun _ => ?_; refine rP 17 false fun _ => ?_; refine rE ?_) | (refine rD (id := 5) anyW [] ?_; refine rP 0 false fun _ => ?_; refine rP 1 false fun _ => ?_; refine rP 2 false fun _ => ?_; refine rP 3 true fun _ => ?_; refine rP 4 false fun _ => ?_; refine rP 5 false fun _ => ?_; refine rP 6 false fun _ => ?_; refine rP 7 true fun _ => ?_; refine rP 8 false fun _ => ?_; refine rP 9 false fun _ => ?_; refine rP 10 false fun _ => ?_; refine rP 11 false fun _ => ?_; refine rP 12 false fun _ => ?_; refine rP 13 true fun _ => ?_; refine rP 14 false fun _ => ?_; refine rP 15 false fun _ => ?_; refine rE ?_) | refine zI ?_ ?_ | (intro hb; (try simp [-List.getD_eq_getElem?_getD] at hb); (try (exfalso; omega))))
      refine hZ 27 ?_
      exact rS
instance (l : List Int) : Decidable (okBytes l) := by unfold okBytes; infer_instance
/-- Bytes as a hash. -/
def toH (bs : List Int) : H32 := if h : bs.length = 32 ∧ okBytes bs then ⟨bs, h.1, h.2⟩ else default
theorem toH_l {bs : List Int} (h1 : bs.length = 32) (h2 : okBytes bs) : (toH bs).l = bs := by unfold toH; rw [dif_pos ⟨h1, h2⟩]
/-- What the program's cursor has read: points, numbers. -/
def insI (R : List Int) (s : Bool) : Nat → List PointA × List Int × Bool
  | 0 => ([], R, s)
  | k + 1 => ((insI R s k).1 ++ [⟨toH (tkB (insI R s k).2.1 32), numI (tkB (tkR (insI R s k).2.1 32) 1)⟩], tkR (tkR (insI R s k).2.1 32) 1, tkS (tkR (insI R s k).2.1 32) (tkS (insI R s k).2.1 (insI R s k).2.2 32) 1)
def outsI (R : List Int) (s : Bool) : Nat → List Int × List Int × Bool
  | 0 => ([], R, s)
  | k + 1 => ((outsI R s k).1 ++ [numI (tkB (outsI R s k).2.1 8)], tkR (outsI R s k).2.1 8, tkS (outsI R s k).2.1 (outsI R s k).2.2 8)
theorem insI_length (R : List Int) (s : Bool) (k : Nat) : (insI R s k).1.length = k := by
  induction k with
  | zero => rfl
  | succ k ih => simp [insI, ih]
theorem outsI_length (R : List Int) (s : Bool) (k : Nat) : (outsI R s k).1.length = k := by
  induction k with
  | zero => rfl
  | succ k ih => simp [outsI, ih]
theorem insI_ok {R : List Int} (h : okBytes R) (s : Bool) (k : Nat) : okBytes (insI R s k).2.1 ∧ (insI R s k).2.1.length ≤ R.length := by
  induction k with
  | zero => exact ⟨h, Nat.le_refl _⟩
  | succ k ih => exact ⟨tkR_ok (tkR_ok ih.1 32) 1, Nat.le_trans (tkR_le _ 1) (Nat.le_trans (tkR_le _ 32) ih.2)⟩
theorem outsI_ok {R : List Int} (h : okBytes R) (s : Bool) (k : Nat) : okBytes (outsI R s k).2.1 ∧ (outsI R s k).2.1.length ≤ R.length := by
  induction k with
  | zero => exact ⟨h, Nat.le_refl _⟩
  | succ k ih => exact ⟨tkR_ok ih.1 8, Nat.le_trans (tkR_le _ 8) ih.2⟩
/-- A count: one byte. -/
def cnt (R : List Int) : Nat := (numI (tkB R 1)).toNat
theorem numI_byte {bs : List Int} (h : okBytes bs) (hl : bs.length ≤ 7) : numI bs = leN bs := by
  have := leN_lt bs h
  have := pow256_le bs.length 7 hl
  unfold numI
  rw [wrap_int (by omega) (by omega)]
theorem cnt_eq {R : List Int} (h : okBytes R) : numI (tkB R 1) = cnt R ∧ cnt R < 256 := by
  have h1 := leN_lt _ (tkB_ok h 1)
  rw [tkB_length] at h1
  unfold cnt
  rw [numI_byte (tkB_ok h 1) (by rw [tkB_length]; omega)]
  exact ⟨by simp, by simpa using h1⟩
end Go.Proofs.Ytnancifnodbkdaa

