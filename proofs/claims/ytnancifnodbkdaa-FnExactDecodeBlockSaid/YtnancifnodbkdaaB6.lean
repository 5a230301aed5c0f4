import Derived.Test.YtnancifnodbkdaaB5
namespace Go.Proofs.Ytnancifnodbkdaa
open Go Go.Vcg Go.IntWalk
set_option maxRecDepth 100000
set_option maxHeartbeats 20000000
set_option linter.unusedSimpArgs false
set_option linter.unusedVariables false

/-! The program's hash. -/
def absSt (h d : List Int) : Nat → List Int
  | 0 => h
  | k + 1 => mix (absSt h d k) ((d.drop (64 * k)).take 64)
theorem absSt_zero (h d : List Int) : absSt h d 0 = h := rfl
theorem absSt_succ (h d : List Int) (k : Nat) : absSt h d (k + 1) = mix (absSt h d k) ((d.drop (64 * k)).take 64) := rfl
theorem absSt_length {h d : List Int} (hh : h.length = 8) (k : Nat) : (absSt h d k).length = 8 := by
  cases k with
  | zero => exact hh
  | succ k => exact mix_length _ _
theorem absSt_WL {h d : List Int} (hw : WL h) (k : Nat) : WL (absSt h d k) := by
  cases k with
  | zero => exact hw
  | succ k => exact mix_WL _ _
theorem shaSt_abs (d : List Int) (k : Nat) : shaSt d k = absSt h0 d k := by
  induction k with
  | zero => rw [shaSt_zero]; rfl
  | succ k ih => rw [shaSt_succ, ih]; rfl
theorem absSt_app (h m b : List Int) (q : Nat) (hq : 64 * q ≤ m.length) : absSt h (m ++ b) q = absSt h m q := by
  induction q with
  | zero => rfl
  | succ q ih =>
    rw [absSt_succ, absSt_succ, ih (by omega), List.drop_append_of_le_length (by omega), List.take_append_of_le_length (by rw [List.length_drop]; omega)]
theorem absSt_comp (h m : List Int) (q : Nat) : ∀ r, absSt (absSt h m q) (m.drop (64 * q)) r = absSt h m (q + r)
  | 0 => rfl
  | r + 1 => by
    rw [absSt_succ, absSt_comp h m q r, ← Nat.add_assoc, absSt_succ, List.drop_drop]
    congr 3
    omega
def msgQ (m : List Int) : Nat := m.length / 64
def msgH (m : List Int) : List Int := absSt h0 m (msgQ m)
def msgR (m : List Int) : List Int := m.drop (64 * msgQ m)
theorem msgQ_le (m : List Int) : 64 * msgQ m ≤ m.length := by unfold msgQ; omega
theorem msgR_length (m : List Int) : (msgR m).length = m.length % 64 := by unfold msgR msgQ; rw [List.length_drop]; omega
theorem msg_app (m b : List Int) : msgR m ++ b = (m ++ b).drop (64 * msgQ m) := by unfold msgR; rw [List.drop_append_of_le_length (msgQ_le m)]
theorem msgQ_app (m b : List Int) : msgQ m + (msgR m ++ b).length / 64 = msgQ (m ++ b) := by
  rw [List.length_append, msgR_length]; unfold msgQ; rw [List.length_append]; omega
theorem msgH_app (m b : List Int) : absSt (msgH m) (msgR m ++ b) ((msgR m ++ b).length / 64) = msgH (m ++ b) := by
  rw [msg_app, msgH, ← absSt_app h0 m b _ (msgQ_le m), absSt_comp, ← msg_app, msgQ_app]
  rfl
theorem msgR_app (m b : List Int) : (msgR m ++ b).drop (64 * ((msgR m ++ b).length / 64)) = msgR (m ++ b) := by
  rw [msg_app, List.drop_drop, ← msg_app, ← Nat.mul_add, msgQ_app]
  rfl
theorem msgH_length (m : List Int) : (msgH m).length = 8 := absSt_length h0_length _
theorem msgH_WL (m : List Int) : WL (msgH m) := absSt_WL h0_WL _
theorem okBytes_msgR {m : List Int} (ho : okBytes m) : okBytes (msgR m) := fun x hx => ho x (List.mem_of_mem_drop hx)
attribute [irreducible] absSt msgQ msgH msgR
attribute [go_sem] hrow
/-- The hasher's cells when it has taken m in. -/
def hrowM (m : List Int) : List SV := hrow (msgH m) (.ow 1 (encI .u8 (msgR m))) m.length
theorem write_ok {m b : List Int} (hb1 : m.length + b.length < 2 ^ 39 := by exact pm) (hm : okBytes m := by exact pm) (ho : okBytes b := by exact pm) : TSpec Try.prog 185 [(1000000, .c 74 [hrowM m])] [.pt 1000000 0 0, .pd (encI .u8 b)] false [(1000000, .c 74 [hrowM (m ++ b)])] (.tu []) := by
  have hrl := msgR_length m
  have hhl := msgH_length m
  have hhw := msgH_WL m
  have hkl := kTab_length
  have e3 := msgH_app m b
  have e4 := msgR_app m b
  have hoa : okBytes (msgR m ++ b) := okBytes_append (okBytes_msgR hm) ho
  have hal : (msgR m ++ b).length = m.length % 64 + b.length := by rw [List.length_append, hrl]
  have e5 : ((m.length : Nat) : Int) + (b.length : Int) = ((m ++ b).length : Nat) := by rw [List.length_append]; omega
  unfold hrowM hrow
  obtain ⟨h, hh⟩ : ∃ h, h = msgH m := ⟨_, rfl⟩
  obtain ⟨r, hr⟩ : ∃ r, r = msgR m := ⟨_, rfl⟩
  obtain ⟨a, ha⟩ : ∃ a, a = r ++ b := ⟨_, rfl⟩
  rw [← hh] at hhl hhw e3 ⊢
  rw [← hr] at hrl e3 e4 hoa hal ⊢
  rw [← ha] at e3 e4 hoa hal
  have hD := And.intro (hhl) (And.intro (hkl) (And.intro (e5) (And.intro @encI_append ((ha.symm)))))
  have hD := And.intro (hhl) (And.intro (hkl) (And.intro (e5) (And.intro @encI_append ((ha.symm)))))
  refine sT 43 [] Try.func185 fun w0 S0 ρ0 φ0 => ?_
  (refine gU 1000000 0 72 2000000 ?_)
  repeat' (first | apply W.seq | apply W.skip | apply W.region | apply W.block | apply N.code | apply N.blk | apply Sl.nil | apply W.exit | apply W.ret | apply E.hit | apply E.code | apply E.fin | refine zM ?_ | apply O.i | refine sP ?_ | refine sQ fun _ => ?_ | refine sX fun _ => ?_ | (refine k1 false [(1000000, 0, none), (1000001, 1, none)] c205 ?_; refine k2 block_ok ?_) | refine zI ?_ ?_ | (intro hb; (try simp [-List.getD_eq_getElem?_getD] at hb); (try (exfalso; omega))))
  (refine gR 19 2000001 ?_)
  obtain ⟨nb, hnb⟩ : ∃ n, n = a.length / 64 := ⟨_, rfl⟩
  rw [← hnb] at e3 e4
  have hra : r.length + b.length = a.length := by rw [ha, List.length_append]
  have hD := And.intro (hhl) (And.intro (hkl) (And.intro (hra) (@absSt_zero)))
  refine W.iter (fun k => ⟨43, [(0, .pt 1000000 0 0)], [(1000000, .c 74 [encA .u32 (absSt h a k) ++ (encA .u32 kTab ++ [.sl 2000001 (64 * k) (a.length - 64 * k), .pl (.int .i64 ((m ++ b).length : Nat))])]), (2000001, .c 1 (encI .u8 a))], []⟩) (fun k => True) (nb) (Weak.to (by first | rfl | (simp only [virtAt_n]; rfl)) ?s1 ?b1 (by exact dfe)) ?h1 (fun k hk hH => ?body1)
  (try case' s1 => first | exact to1 | (simp +decide only [go_sem]; (try simp (disch := first | exact ds | fail) only [go_sem, Nat.reduceAdd, Nat.reduceMul, Nat.reduceSub, Int.reduceToNat, Int.reduceNeg, Nat.reduceLeDiff, hD]); (try simp only [SV.pl.injEq, SV.sl.injEq, Value.int.injEq, Bk.c.injEq, encI_inj, true_and]); (try omega))); (try case' b1 => first | exact to1 | (simp +decide only [go_sem]; (try simp (disch := first | exact ds | fail) only [go_sem, Nat.reduceAdd, Nat.reduceMul, Nat.reduceSub, Int.reduceToNat, Int.reduceNeg, Nat.reduceLeDiff, hD]); (try simp only [SV.pl.injEq, SV.sl.injEq, Value.int.injEq, Bk.c.injEq, encI_inj, true_and]); (try omega))); (try case' h1 => first | exact to1 | (simp +decide only [go_sem]; (try simp (disch := first | exact ds | fail) only [go_sem, Nat.reduceAdd, Nat.reduceMul, Nat.reduceSub, Int.reduceToNat, Int.reduceNeg, Nat.reduceLeDiff, hD]); (try simp only [SV.pl.injEq, SV.sl.injEq, Value.int.injEq, Bk.c.injEq, encI_inj, true_and]); (try omega)))
  have hal2 := absSt_length (d := a) hhl k
  have haw := absSt_WL (d := a) hhw k
  have e6 := absSt_succ h a k
  have hal3 := absSt_length (d := a) hhl (k + 1)
  have hD := And.intro (hal2) (And.intro (hkl) (And.intro (hal3) ((e6.symm))))
  repeat' (first | apply W.seq | apply W.skip | apply W.region | apply W.block | apply N.code | apply N.blk | apply Sl.nil | apply W.exit | apply W.ret | apply E.hit | apply E.code | apply E.fin | refine zM ?_ | apply O.i | refine sP ?_ | refine sQ fun _ => ?_ | refine sX fun _ => ?_ | (refine k1 false [(1000000, 0, none), (1000001, 1, none)] c205 ?_; refine k2 block_ok ?_) | refine zI ?_ ?_ | (intro hb; (try simp [-List.getD_eq_getElem?_getD] at hb); (try (exfalso; omega))))
  · (refine N.fin ⟨by omega, ?h2, ?w2⟩; case' w2 => (refine Weak.to (by first | rfl | (simp only [virtAt_n]; rfl)) ?s2 ?b2 (by exact dfe)))
    (try case' s2 => first | exact to1 | (simp +decide only [go_sem]; (try simp (disch := first | exact ds | fail) only [go_sem, Nat.reduceAdd, Nat.reduceMul, Nat.reduceSub, Int.reduceToNat, Int.reduceNeg, Nat.reduceLeDiff, hD]); (try simp only [SV.pl.injEq, SV.sl.injEq, Value.int.injEq, Bk.c.injEq, encI_inj, true_and]); (try omega))); (try case' b2 => first | exact to1 | (simp +decide only [go_sem]; (try simp (disch := first | exact ds | fail) only [go_sem, Nat.reduceAdd, Nat.reduceMul, Nat.reduceSub, Int.reduceToNat, Int.reduceNeg, Nat.reduceLeDiff, hD]); (try simp only [SV.pl.injEq, SV.sl.injEq, Value.int.injEq, Bk.c.injEq, encI_inj, true_and]); (try omega))); (try case' h2 => first | exact to1 | (simp +decide only [go_sem]; (try simp (disch := first | exact ds | fail) only [go_sem, Nat.reduceAdd, Nat.reduceMul, Nat.reduceSub, Int.reduceToNat, Int.reduceNeg, Nat.reduceLeDiff, hD]); (try simp only [SV.pl.injEq, SV.sl.injEq, Value.int.injEq, Bk.c.injEq, encI_inj, true_and]); (try omega)))
    rw [show a.length - 64 * k - 64 = a.length - 64 * (k + 1) by omega]
    rfl
  · obtain rfl : k = nb := by omega
    rw [e3]
    have hml := msgH_length (m ++ b)
    have hx : List.take (a.length - 64 * k) (msgR (m ++ b)) = msgR (m ++ b) := by rw [← e4, List.take_of_length_le (by rw [List.length_drop]; omega)]
    have hD := And.intro @msgH_length (And.intro (hkl) (And.intro (e4) ((hx))))
    refine rN ?_
    (refine hF 1000000 0 72 ?_)
    exact rT
end Go.Proofs.Ytnancifnodbkdaa

