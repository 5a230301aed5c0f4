import Derived.Test.YtfmbifnbmlhhjaaA2
namespace Go.Proofs.Ytfmbifnbmlhhjaa
open Go Go.Vcg Go.IntWalk
set_option maxRecDepth 100000
set_option maxHeartbeats 20000000
set_option linter.unusedSimpArgs false
set_option linter.unusedVariables false

theorem c75 : CallOk Try.prog 75 := ⟨_, Try.func75, rfl, by kernel_rfl⟩
theorem c129 : CallOk Try.prog 129 := ⟨_, Try.func129, rfl, by kernel_rfl⟩
theorem c77 : CallOk Try.prog 77 := ⟨_, Try.func77, rfl, by kernel_rfl⟩
/-- The low bytes of a number. -/
def lowB : Int → Nat → List Int
  | _, 0 => []
  | n, k + 1 => (n % 256) :: lowB (n / 256) k
theorem lowB_length (n : Int) (k : Nat) : (lowB n k).length = k := by
  induction k generalizing n with
  | zero => rfl
  | succ k ih => simp [lowB, ih]
theorem lowB_getD (n : Int) (k i : Nat) (h : i < k) : (lowB n k).getD i 0 = n / 256 ^ i % 256 := by
  induction k generalizing n i with
  | zero => omega
  | succ k ih =>
    cases i with
    | zero => simp [lowB]
    | succ i =>
      rw [lowB, List.getD_cons_succ, ih _ _ (by omega), Int.pow_succ', Int.ediv_ediv_of_nonneg (by omega)]
attribute [go_sem] lowB_length
attribute [simp] lowB_length
theorem pow256 (k : Nat) : (256 : Int) ^ k = 2 ^ (8 * k) := by
  rw [Int.pow_mul]
  rfl
theorem shr_low (n : Int) (k : Nat) (hn : 0 ≤ n) (hk : k ≤ 7) : IntKind.u8.wrap (n.fdiv (2 ^ min (8 * (k : Int)).toNat 64)) = n / 256 ^ k % 256 := by
  have h1 : (8 * (k : Int)).toNat = 8 * k := by omega
  have h2 : min (8 * k) 64 = 8 * k := by omega
  rw [h1, h2, IntKind.wrap_u8, pow256, Int.fdiv_eq_ediv_of_nonneg _ (Int.pow_nonneg (by omega))]
theorem div_step (n : Int) (k : Nat) : n / 256 ^ k / 256 = n / 256 ^ (k + 1) := by
  rw [Int.ediv_ediv_of_nonneg (Int.pow_nonneg (by omega)), Int.pow_succ]
theorem div_range (n : Int) (k : Nat) (hn : 0 ≤ n) : 0 ≤ n / 256 ^ k ∧ n / 256 ^ k ≤ n := by
  refine ⟨Int.ediv_nonneg hn (Int.pow_nonneg (by omega)), Int.ediv_le_self _ hn⟩
theorem lowB_take (n : Int) (m k : Nat) (h : k < m) : (lowB n m).take k ++ [n / 256 ^ k % 256] = (lowB n m).take (k + 1) := by
  rw [← lowB_getD n m k h, ← List.take_append_getElem (l := lowB n m) (i := k) (by simpa using h), List.getD_eq_getElem?_getD, List.getElem?_eq_getElem (by simpa using h)]
  rfl
theorem low_ok {n : Int} {m : Nat} (h : 0 ≤ n ∧ n < 2 ^ 62 := by exact pm) (hm : m ≤ 8 := by exact pm) : TSpec Try.prog 129 [] [.pl (.int .i64 n), .pl (.int .i64 m)] false [] (.ow 1 (encI .u8 (lowB n m))) := by
  have hD := @encI_nil
  refine sT 24 [.tmp 4] Try.func129 fun w0 S0 ρ0 φ0 => ?_
  repeat' (first | apply W.seq | apply W.skip | apply W.region | apply W.block | apply N.code | apply N.blk | apply Sl.nil | apply W.exit | apply W.ret | apply E.hit | apply E.code | apply E.fin | refine zM ?_ | apply O.i | refine sP ?_ | refine sQ fun _ => ?_ | refine sX fun _ => ?_ | refine zI ?_ ?_ | (intro hb; (try simp [-List.getD_eq_getElem?_getD] at hb); (try (exfalso; omega))))
  refine W.iter (fun k => ⟨24, [(0, .pl (.int .i64 n)), (5, .sl 8 0 m), (10, .pl (.int .i64 m)), (11, .pl (.int .i64 k))], [(8, .c 1 (encI .u8 ((lowB n m).take k ++ List.replicate (m - k) 0)))], []⟩) (fun k => True) (m) (Weak.to (by first | rfl | (simp only [virtAt_n, virt_n]; rfl)) ?s1 ?b1 (by exact dfe)) ?h1 (fun k hk hH => ?body1)
  (try case' s1 => first | exact to1 | (simp +decide only [go_sem]; (try simp (disch := first | exact ds | fail) only [go_sem, Nat.reduceAdd, Nat.reduceMul, Nat.reduceSub, Int.reduceToNat, Int.reduceNeg, Nat.reduceLeDiff, hD]); (try simp only [SV.pl.injEq, SV.sl.injEq, Value.int.injEq, Bk.c.injEq, encI_inj, true_and]); (try omega))); (try case' b1 => first | exact to1 | (simp +decide only [go_sem]; (try simp (disch := first | exact ds | fail) only [go_sem, Nat.reduceAdd, Nat.reduceMul, Nat.reduceSub, Int.reduceToNat, Int.reduceNeg, Nat.reduceLeDiff, hD]); (try simp only [SV.pl.injEq, SV.sl.injEq, Value.int.injEq, Bk.c.injEq, encI_inj, true_and]); (try omega))); (try case' h1 => first | exact to1 | (simp +decide only [go_sem]; (try simp (disch := first | exact ds | fail) only [go_sem, Nat.reduceAdd, Nat.reduceMul, Nat.reduceSub, Int.reduceToNat, Int.reduceNeg, Nat.reduceLeDiff, hD]); (try simp only [SV.pl.injEq, SV.sl.injEq, Value.int.injEq, Bk.c.injEq, encI_inj, true_and]); (try omega)))
  repeat' (first | apply W.seq | apply W.skip | apply W.region | apply W.block | apply N.code | apply N.blk | apply Sl.nil | apply W.exit | apply W.ret | apply E.hit | apply E.code | apply E.fin | refine zM ?_ | apply O.i | refine sP ?_ | refine sQ fun _ => ?_ | refine sX fun _ => ?_ | refine zI ?_ ?_ | (intro hb; (try simp [-List.getD_eq_getElem?_getD] at hb); (try (exfalso; omega))))
  · (refine N.fin ⟨by omega, ?h2, ?w2⟩; case' w2 => (refine Weak.to (by first | rfl | (simp only [virtAt_n, virt_n]; rfl)) ?s2 ?b2 (by exact dfe)))
    (try case' s2 => first | exact to1 | (simp +decide only [go_sem]; (try simp (disch := first | exact ds | fail) only [go_sem, Nat.reduceAdd, Nat.reduceMul, Nat.reduceSub, Int.reduceToNat, Int.reduceNeg, Nat.reduceLeDiff, hD]); (try simp only [SV.pl.injEq, SV.sl.injEq, Value.int.injEq, Bk.c.injEq, encI_inj, true_and]); (try omega))); (try case' b2 => first | exact to1 | (simp +decide only [go_sem]; (try simp (disch := first | exact ds | fail) only [go_sem, Nat.reduceAdd, Nat.reduceMul, Nat.reduceSub, Int.reduceToNat, Int.reduceNeg, Nat.reduceLeDiff, hD]); (try simp only [SV.pl.injEq, SV.sl.injEq, Value.int.injEq, Bk.c.injEq, encI_inj, true_and]); (try omega))); (try case' h2 => first | exact to1 | (simp +decide only [go_sem]; (try simp (disch := first | exact ds | fail) only [go_sem, Nat.reduceAdd, Nat.reduceMul, Nat.reduceSub, Int.reduceToNat, Int.reduceNeg, Nat.reduceLeDiff, hD]); (try simp only [SV.pl.injEq, SV.sl.injEq, Value.int.injEq, Bk.c.injEq, encI_inj, true_and]); (try omega)))
    rw [shr_low n k h.1 (by omega), ← lowB_getD n m k (by omega)]
    have := take_step 0 0 (lowB n m) k (by simp; omega)
    rw [lowB_length] at this
    exact this
  · obtain rfl : k = m := by omega
    rw [show (lowB n k).take k = lowB n k from List.take_of_length_le (by simp), Nat.sub_self, List.replicate_zero, List.append_nil]
    exact rT
theorem l2Num_ok {n : Int} {m : Nat} (h : 0 ≤ n ∧ n < 2 ^ 62 := by exact pm) (hm : m ≤ 8 := by exact pm) : TSpec Try.prog 75 [] [.pl (.int .i64 n), .pl (.int .i64 m)] false [] (.ow 1 (encI .u8 (lowB n m))) := by
  have hD := @encI_nil
  refine sT 22 [.tmp 4] Try.func75 fun w0 S0 ρ0 φ0 => ?_
  repeat' (first | apply W.seq | apply W.skip | apply W.region | apply W.block | apply N.code | apply N.blk | apply Sl.nil | apply W.exit | apply W.ret | apply E.hit | apply E.code | apply E.fin | refine zM ?_ | apply O.i | refine sP ?_ | refine sQ fun _ => ?_ | refine sX fun _ => ?_ | refine zI ?_ ?_ | (intro hb; (try simp [-List.getD_eq_getElem?_getD] at hb); (try (exfalso; omega))))
  (refine gR 7 2000000 ?_)
  refine W.iter (fun k => ⟨22, [(0, .pl (.int .i64 (n / 256 ^ k))), (1, .pl (.int .i64 m)), (5, .sl 2000000 0 k), (6, .pl (.int .i64 k))], [(2000000, .c 1 (encI .u8 ((lowB n m).take k)))], []⟩) (fun k => True) (m) (Weak.to (by first | rfl | (simp only [virtAt_n, virt_n]; rfl)) ?s3 ?b3 (by exact dfe)) ?h3 (fun k hk hH => ?body3)
  (try case' s3 => first | exact to1 | (simp +decide only [go_sem]; (try simp (disch := first | exact ds | fail) only [go_sem, Nat.reduceAdd, Nat.reduceMul, Nat.reduceSub, Int.reduceToNat, Int.reduceNeg, Nat.reduceLeDiff, hD]); (try simp only [SV.pl.injEq, SV.sl.injEq, Value.int.injEq, Bk.c.injEq, encI_inj, true_and]); (try omega))); (try case' b3 => first | exact to1 | (simp +decide only [go_sem]; (try simp (disch := first | exact ds | fail) only [go_sem, Nat.reduceAdd, Nat.reduceMul, Nat.reduceSub, Int.reduceToNat, Int.reduceNeg, Nat.reduceLeDiff, hD]); (try simp only [SV.pl.injEq, SV.sl.injEq, Value.int.injEq, Bk.c.injEq, encI_inj, true_and]); (try omega))); (try case' h3 => first | exact to1 | (simp +decide only [go_sem]; (try simp (disch := first | exact ds | fail) only [go_sem, Nat.reduceAdd, Nat.reduceMul, Nat.reduceSub, Int.reduceToNat, Int.reduceNeg, Nat.reduceLeDiff, hD]); (try simp only [SV.pl.injEq, SV.sl.injEq, Value.int.injEq, Bk.c.injEq, encI_inj, true_and]); (try omega)))
  have hd := div_range n k h.1
  repeat' (first | apply W.seq | apply W.skip | apply W.region | apply W.block | apply N.code | apply N.blk | apply Sl.nil | apply W.exit | apply W.ret | apply E.hit | apply E.code | apply E.fin | refine zM ?_ | apply O.i | refine sP ?_ | refine sQ fun _ => ?_ | refine sX fun _ => ?_ | refine zI ?_ ?_ | (intro hb; (try simp [-List.getD_eq_getElem?_getD] at hb); (try (exfalso; omega))))
  · (refine N.fin ⟨by omega, ?h4, ?w4⟩; case' w4 => (refine eR 18 2000000 ?_; refine Weak.to (by first | rfl | (simp only [virtAt_n, virt_n]; rfl)) ?s4 ?b4 (by exact dfe)))
    (try case' s4 => first | exact to1 | (simp +decide only [go_sem]; (try simp (disch := first | exact ds | fail) only [go_sem, Nat.reduceAdd, Nat.reduceMul, Nat.reduceSub, Int.reduceToNat, Int.reduceNeg, Nat.reduceLeDiff, hD]); (try simp only [SV.pl.injEq, SV.sl.injEq, Value.int.injEq, Bk.c.injEq, encI_inj, true_and]); (try omega))); (try case' b4 => first | exact to1 | (simp +decide only [go_sem]; (try simp (disch := first | exact ds | fail) only [go_sem, Nat.reduceAdd, Nat.reduceMul, Nat.reduceSub, Int.reduceToNat, Int.reduceNeg, Nat.reduceLeDiff, hD]); (try simp only [SV.pl.injEq, SV.sl.injEq, Value.int.injEq, Bk.c.injEq, encI_inj, true_and]); (try omega))); (try case' h4 => first | exact to1 | (simp +decide only [go_sem]; (try simp (disch := first | exact ds | fail) only [go_sem, Nat.reduceAdd, Nat.reduceMul, Nat.reduceSub, Int.reduceToNat, Int.reduceNeg, Nat.reduceLeDiff, hD]); (try simp only [SV.pl.injEq, SV.sl.injEq, Value.int.injEq, Bk.c.injEq, encI_inj, true_and]); (try omega)))
    · rw [show IntKind.u8.wrap ((n / 256 ^ k).tmod 256) = n / 256 ^ k % 256 by rw [Int.tmod_eq_emod_of_nonneg hd.1, IntKind.wrap_u8]; omega]
      exact lowB_take n m k (by omega)
    · have hd2 := div_range n (k + 1) h.1
      refine ⟨?_, ?_, by omega⟩
      · rw [Int.tdiv_eq_ediv_of_nonneg hd.1, div_step, i64_in _ (by omega)]
      · rw [show ((lowB n m).take k).length = k by simp; omega]
  · obtain rfl : k = m := by omega
    rw [show (lowB n k).take k = lowB n k from List.take_of_length_le (by simp)]
    exact rT

/-! Heads. -/
def headOk (k n l : Int) : Prop := 0 ≤ k ∧ k ≤ 1023 ∧ 1 ≤ n ∧ n ≤ 4 ∧ l ≤ 240
theorem valid_ok {k n l : Int} {b : Bool} (hP : b = true ↔ headOk k n l := by exact pm) : TSpec Try.prog 77 [] [.ag [.pl (.int .i64 k), .pl (.int .i64 n), .pl (.int .i64 l)]] false [] (.pl (.bool b)) := by
  have hD := @encI_nil
  refine sT 26 [.tmp 2] Try.func77 fun w0 S0 ρ0 φ0 => ?_
  repeat' (first | apply W.seq | apply W.skip | apply W.region | apply W.block | apply N.code | apply N.blk | apply Sl.nil | apply W.exit | apply W.ret | apply E.hit | apply E.code | apply E.fin | refine zM ?_ | apply O.i | refine sP ?_ | refine sQ fun _ => ?_ | refine zg fun _ => ?_ | refine sX fun _ => ?_ | refine zI ?_ ?_ | (intro hb; (try simp [-List.getD_eq_getElem?_getD] at hb); (try (exfalso; omega))))
  obtain rfl : b = (bif bif bif bif decide (k ≥ 0) then decide (k ≤ 1023) else false then decide (n ≥ 1) else false then decide (n ≤ 4) else false then decide (l ≤ 240) else false) := by
    rw [Bool.eq_iff_iff, hP]
    unfold headOk
    simp
    omega
  exact rT

/-! The checksum. -/
theorem c76 : CallOk Try.prog 76 := ⟨_, Try.func76, rfl, by kernel_rfl⟩
theorem c145 : CallOk Try.prog 145 := ⟨_, Try.func145, rfl, by kernel_rfl⟩
def crcBit (h : Nat) : Nat := if h % 2 = 1 then (h / 2) ^^^ 3988292384 else h / 2
def crcBits : Nat → Nat → Nat
  | 0, h => h
  | n + 1, h => crcBit (crcBits n h)
def crcAll : List Int → Nat → Nat
  | [], h => h
  | c :: r, h => crcAll r (crcBits 8 (h ^^^ c.toNat))
def crcOf (l : List Int) : Nat := crcAll l 4294967295 ^^^ 4294967295
def okBytes (l : List Int) : Prop := ∀ x ∈ l, 0 ≤ x ∧ x < 256
theorem lt32 {a b : Nat} (ha : a < 4294967296) (hb : b < 4294967296) : a ^^^ b < 4294967296 := Nat.xor_lt_two_pow (n := 32) ha hb
theorem crcBit_lt {h : Nat} (hh : h < 4294967296) : crcBit h < 4294967296 := by
  unfold crcBit
  split
  · exact lt32 (by omega) (by omega)
  · omega
theorem crcBits_lt (n : Nat) {h : Nat} (hh : h < 4294967296) : crcBits n h < 4294967296 := by
  induction n with
  | zero => exact hh
  | succ n ih => exact crcBit_lt ih
theorem crcAll_lt (l : List Int) (hl : okBytes l) : ∀ {h : Nat}, h < 4294967296 → crcAll l h < 4294967296 := by
  induction l with
  | nil => intro h hh; exact hh
  | cons c r ih => intro h hh; exact ih (fun x hx => hl x (by simp [hx])) (crcBits_lt 8 (lt32 hh (by have := hl c (by simp); omega)))
theorem okBytes_getD {l : List Int} (hl : okBytes l) (k : Nat) (h : k < l.length) : 0 ≤ l.getD k 0 ∧ l.getD k 0 < 256 := by
  rw [List.getD_eq_getElem?_getD, List.getElem?_eq_getElem h]
  exact hl _ (List.getElem_mem h)
theorem okBytes_take {l : List Int} (hl : okBytes l) (k : Nat) : okBytes (l.take k) := fun x hx => hl x (List.mem_of_mem_take hx)
theorem crcAll_append (a b : List Int) (h : Nat) : crcAll (a ++ b) h = crcAll b (crcAll a h) := by
  induction a generalizing h with
  | nil => rfl
  | cons c r ih => exact ih _
theorem crcAll_step (l : List Int) (k : Nat) (h : k < l.length) (c : Nat) : crcAll (l.take (k + 1)) c = crcBits 8 (crcAll (l.take k) c ^^^ (l.getD k 0).toNat) := by
  rw [← List.take_append_getElem h, crcAll_append, List.getD_eq_getElem?_getD, List.getElem?_eq_getElem h]
  rfl
theorem i64_xor (a : Nat) (b : Int) (ha : a < 4294967296) (hb : 0 ≤ b ∧ b < 4294967296) : bits .xor .i64 (a : Int) b = ((a ^^^ b.toNat : Nat) : Int) := by
  obtain ⟨c, rfl⟩ := Int.eq_ofNat_of_zero_le hb.1
  have hx := lt32 ha (show c < 4294967296 by omega)
  show IntKind.i64.wrap ((BitVec.ofInt 64 (a : Int) ^^^ BitVec.ofInt 64 (c : Int)).toNat : Int) = _
  rw [BitVec.toNat_xor, BitVec.toNat_ofInt, BitVec.toNat_ofInt, i64_in]
  · congr 2 <;> omega
  · rw [show ((a : Int) % ((2 ^ 64 : Nat) : Int)).toNat = a by omega, show ((c : Int) % ((2 ^ 64 : Nat) : Int)).toNat = c by omega]
    omega
theorem u32_xor (a : Nat) (b : Int) (ha : a < 4294967296) (hb : 0 ≤ b ∧ b < 4294967296) : bits .xor .u32 (a : Int) b = ((a ^^^ b.toNat : Nat) : Int) := by
  obtain ⟨c, rfl⟩ := Int.eq_ofNat_of_zero_le hb.1
  exact u32_xor_nat a c ha (by omega)
theorem u32_and1 (a : Nat) (ha : a < 4294967296) : bits .and .u32 (a : Int) 1 = ((a % 2 : Nat) : Int) := by
  have := u32_and_nat a 1 ha (by omega)
  rw [Nat.and_one_is_mod] at this
  exact this
theorem crcAll_nil (h : Nat) : crcAll [] h = h := rfl
theorem crcBits_zero (h : Nat) : crcBits 0 h = h := rfl
theorem half1 (h : Nat) : (h : Int).fdiv (2 ^ min 1 32) = ((h / 2 : Nat) : Int) := by
  rw [show (2 : Int) ^ min 1 32 = 2 from rfl, Int.fdiv_eq_ediv_of_nonneg _ (by omega)]
  omega
theorem crcBits_odd (j c : Nat) (h : crcBits j c % 2 = 1) : crcBits (j + 1) c = crcBits j c / 2 ^^^ 3988292384 := if_pos h
theorem crcBits_even (j c : Nat) (h : ¬ crcBits j c % 2 = 1) : crcBits (j + 1) c = crcBits j c / 2 := if_neg h
theorem imCrc32_ok {xs : List Int} (h : xs.length < 2 ^ 40 := by exact pm) (hx : okBytes xs := by exact pm) : TSpec Try.prog 145 [] [.pd (encI .u8 xs)] false [] (.pl (.int .i64 (crcOf xs))) := by
  have hD := And.intro @encI_nil (And.intro @crcAll_nil (@crcBits_zero))
  refine sT 32 [.tmp 2] Try.func145 fun w0 S0 ρ0 φ0 => ?_
  repeat' (first | apply W.seq | apply W.skip | apply W.region | apply W.block | apply N.code | apply N.blk | apply Sl.nil | apply W.exit | apply W.ret | apply E.hit | apply E.code | apply E.fin | refine zM ?_ | apply O.i | refine sP ?_ | refine sQ fun _ => ?_ | refine zI ?_ ?_ | (intro hb; (try simp [-List.getD_eq_getElem?_getD] at hb); (try (exfalso; omega))))
  refine W.iter (fun k => ⟨32, [(3, .pl (.int .u32 (crcAll (xs.take k) 4294967295))), (7, .pd (encI .u8 xs)), (8, .pl (.int .i64 xs.length)), (9, .pl (.int .i64 k))], [], []⟩) (fun k => True) (xs.length) (Weak.to (by first | rfl | (simp only [virtAt_n, virt_n]; rfl)) ?s5 ?b5 (by exact dfe)) ?h5 (fun k hk hH => ?body5)
  (try case' s5 => first | exact to1 | (simp +decide only [go_sem]; (try simp (disch := first | exact ds | fail) only [go_sem, Nat.reduceAdd, Nat.reduceMul, Nat.reduceSub, Int.reduceToNat, Int.reduceNeg, Nat.reduceLeDiff, hD]); (try simp only [SV.pl.injEq, SV.sl.injEq, Value.int.injEq, Bk.c.injEq, encI_inj, true_and]); (try omega))); (try case' b5 => first | exact to1 | (simp +decide only [go_sem]; (try simp (disch := first | exact ds | fail) only [go_sem, Nat.reduceAdd, Nat.reduceMul, Nat.reduceSub, Int.reduceToNat, Int.reduceNeg, Nat.reduceLeDiff, hD]); (try simp only [SV.pl.injEq, SV.sl.injEq, Value.int.injEq, Bk.c.injEq, encI_inj, true_and]); (try omega))); (try case' h5 => first | exact to1 | (simp +decide only [go_sem]; (try simp (disch := first | exact ds | fail) only [go_sem, Nat.reduceAdd, Nat.reduceMul, Nat.reduceSub, Int.reduceToNat, Int.reduceNeg, Nat.reduceLeDiff, hD]); (try simp only [SV.pl.injEq, SV.sl.injEq, Value.int.injEq, Bk.c.injEq, encI_inj, true_and]); (try omega)))
  have hc0 := crcAll_lt _ (okBytes_take hx k) (h := 4294967295) (by omega)
  repeat' (first | apply W.seq | apply W.skip | apply W.region | apply W.block | apply N.code | apply N.blk | apply Sl.nil | apply W.exit | apply W.ret | apply E.hit | apply E.code | apply E.fin | refine zM ?_ | apply O.i | refine sP ?_ | refine sQ fun _ => ?_ | refine zI ?_ ?_ | (intro hb; (try simp [-List.getD_eq_getElem?_getD] at hb); (try (exfalso; omega))))
  · have hg := okBytes_getD hx k hb
    obtain ⟨c, hc⟩ : ∃ c, c = crcAll (xs.take k) 4294967295 ^^^ (xs.getD k 0).toNat := ⟨_, rfl⟩
    have hcl : c < 4294967296 := hc ▸ lt32 hc0 (by omega)
    have hcx : bits .xor .u32 ((crcAll (xs.take k) 4294967295 : Nat) : Int) (xs.getD k 0) = ((c : Nat) : Int) := by
      rw [u32_xor _ _ hc0 (by omega), hc]
    have hD := And.intro @encI_nil (And.intro @crcAll_nil (And.intro @crcBits_zero (@hcx)))
    refine W.iter (fun j => ⟨32, [(3, .pl (.int .u32 (crcBits j c))), (7, .pd (encI .u8 xs)), (8, .pl (.int .i64 xs.length)), (9, .pl (.int .i64 k)), (17, .pl (.int .i64 j))], [], []⟩) (fun j => True) (8) (Weak.to (by first | rfl | (simp only [virtAt_n, virt_n]; rfl)) ?s6 ?b6 (by exact dfe)) ?h6 (fun j hj Hj => ?body6)
    (try case' s6 => first | exact to1 | (simp +decide only [go_sem]; (try simp (disch := first | exact ds | fail) only [go_sem, Nat.reduceAdd, Nat.reduceMul, Nat.reduceSub, Int.reduceToNat, Int.reduceNeg, Nat.reduceLeDiff, hD]); (try simp only [SV.pl.injEq, SV.sl.injEq, Value.int.injEq, Bk.c.injEq, encI_inj, true_and]); (try omega))); (try case' b6 => first | exact to1 | (simp +decide only [go_sem]; (try simp (disch := first | exact ds | fail) only [go_sem, Nat.reduceAdd, Nat.reduceMul, Nat.reduceSub, Int.reduceToNat, Int.reduceNeg, Nat.reduceLeDiff, hD]); (try simp only [SV.pl.injEq, SV.sl.injEq, Value.int.injEq, Bk.c.injEq, encI_inj, true_and]); (try omega))); (try case' h6 => first | exact to1 | (simp +decide only [go_sem]; (try simp (disch := first | exact ds | fail) only [go_sem, Nat.reduceAdd, Nat.reduceMul, Nat.reduceSub, Int.reduceToNat, Int.reduceNeg, Nat.reduceLeDiff, hD]); (try simp only [SV.pl.injEq, SV.sl.injEq, Value.int.injEq, Bk.c.injEq, encI_inj, true_and]); (try omega)))
    have hjl := crcBits_lt j hcl
    repeat' (first | apply W.seq | apply W.skip | apply W.region | apply W.block | apply N.code | apply N.blk | apply Sl.nil | apply W.exit | apply W.ret | apply E.hit | apply E.code | apply E.fin | refine zM ?_ | apply O.i | refine sP ?_ | refine sQ fun _ => ?_ | refine zI ?_ ?_ | (intro hb; (try simp [-List.getD_eq_getElem?_getD] at hb); (try (exfalso; omega))))
    · have e1 := u32_and1 _ hjl
      (refine N.fin ⟨by omega, ?h7, ?w7⟩; case' w7 => (refine Weak.to (by first | rfl | (simp only [virtAt_n, virt_n]; rfl)) ?s7 ?b7 (by exact dfe)))
      (try case' s7 => first | exact to1 | (simp +decide only [go_sem]; (try simp (disch := first | exact ds | fail) only [go_sem, Nat.reduceAdd, Nat.reduceMul, Nat.reduceSub, Int.reduceToNat, Int.reduceNeg, Nat.reduceLeDiff, hD]); (try simp only [SV.pl.injEq, SV.sl.injEq, Value.int.injEq, Bk.c.injEq, encI_inj, true_and]); (try omega))); (try case' b7 => first | exact to1 | (simp +decide only [go_sem]; (try simp (disch := first | exact ds | fail) only [go_sem, Nat.reduceAdd, Nat.reduceMul, Nat.reduceSub, Int.reduceToNat, Int.reduceNeg, Nat.reduceLeDiff, hD]); (try simp only [SV.pl.injEq, SV.sl.injEq, Value.int.injEq, Bk.c.injEq, encI_inj, true_and]); (try omega))); (try case' h7 => first | exact to1 | (simp +decide only [go_sem]; (try simp (disch := first | exact ds | fail) only [go_sem, Nat.reduceAdd, Nat.reduceMul, Nat.reduceSub, Int.reduceToNat, Int.reduceNeg, Nat.reduceLeDiff, hD]); (try simp only [SV.pl.injEq, SV.sl.injEq, Value.int.injEq, Bk.c.injEq, encI_inj, true_and]); (try omega)))
      rw [half1, u32_xor _ _ (by omega) (by omega), crcBits_odd j c (by omega)]
      exact ⟨rfl, by omega⟩
    · have e1 := u32_and1 _ hjl
      (refine N.fin ⟨by omega, ?h8, ?w8⟩; case' w8 => (refine Weak.to (by first | rfl | (simp only [virtAt_n, virt_n]; rfl)) ?s8 ?b8 (by exact dfe)))
      (try case' s8 => first | exact to1 | (simp +decide only [go_sem]; (try simp (disch := first | exact ds | fail) only [go_sem, Nat.reduceAdd, Nat.reduceMul, Nat.reduceSub, Int.reduceToNat, Int.reduceNeg, Nat.reduceLeDiff, hD]); (try simp only [SV.pl.injEq, SV.sl.injEq, Value.int.injEq, Bk.c.injEq, encI_inj, true_and]); (try omega))); (try case' b8 => first | exact to1 | (simp +decide only [go_sem]; (try simp (disch := first | exact ds | fail) only [go_sem, Nat.reduceAdd, Nat.reduceMul, Nat.reduceSub, Int.reduceToNat, Int.reduceNeg, Nat.reduceLeDiff, hD]); (try simp only [SV.pl.injEq, SV.sl.injEq, Value.int.injEq, Bk.c.injEq, encI_inj, true_and]); (try omega))); (try case' h8 => first | exact to1 | (simp +decide only [go_sem]; (try simp (disch := first | exact ds | fail) only [go_sem, Nat.reduceAdd, Nat.reduceMul, Nat.reduceSub, Int.reduceToNat, Int.reduceNeg, Nat.reduceLeDiff, hD]); (try simp only [SV.pl.injEq, SV.sl.injEq, Value.int.injEq, Bk.c.injEq, encI_inj, true_and]); (try omega)))
      rw [half1, crcBits_even j c (by omega)]
      exact ⟨rfl, by omega⟩
    · obtain rfl : j = 8 := by omega
      (refine N.fin ⟨by omega, ?h9, ?w9⟩; case' w9 => (refine Weak.to (by first | rfl | (simp only [virtAt_n, virt_n]; rfl)) ?s9 ?b9 (by exact dfe)))
      (try case' s9 => first | exact to1 | (simp +decide only [go_sem]; (try simp (disch := first | exact ds | fail) only [go_sem, Nat.reduceAdd, Nat.reduceMul, Nat.reduceSub, Int.reduceToNat, Int.reduceNeg, Nat.reduceLeDiff, hD]); (try simp only [SV.pl.injEq, SV.sl.injEq, Value.int.injEq, Bk.c.injEq, encI_inj, true_and]); (try omega))); (try case' b9 => first | exact to1 | (simp +decide only [go_sem]; (try simp (disch := first | exact ds | fail) only [go_sem, Nat.reduceAdd, Nat.reduceMul, Nat.reduceSub, Int.reduceToNat, Int.reduceNeg, Nat.reduceLeDiff, hD]); (try simp only [SV.pl.injEq, SV.sl.injEq, Value.int.injEq, Bk.c.injEq, encI_inj, true_and]); (try omega))); (try case' h9 => first | exact to1 | (simp +decide only [go_sem]; (try simp (disch := first | exact ds | fail) only [go_sem, Nat.reduceAdd, Nat.reduceMul, Nat.reduceSub, Int.reduceToNat, Int.reduceNeg, Nat.reduceLeDiff, hD]); (try simp only [SV.pl.injEq, SV.sl.injEq, Value.int.injEq, Bk.c.injEq, encI_inj, true_and]); (try omega)))
      rw [crcAll_step xs k (by omega), hc]
      exact ⟨rfl, by omega⟩
  · obtain rfl : k = xs.length := by omega
    rw [List.take_length] at hc0
    have hf : bits .xor .u32 ((crcAll xs 4294967295 : Nat) : Int) 4294967295 = ((crcOf xs : Nat) : Int) := by
      rw [u32_xor _ _ hc0 (by omega)]
      rfl
    have hfl : crcOf xs < 4294967296 := lt32 hc0 (by omega)
    have hD := And.intro @encI_nil (@hf)
    exact rT
theorem half2 (h : Nat) : (h : Int).tdiv 2 = ((h / 2 : Nat) : Int) := by
  rw [Int.tdiv_eq_ediv_of_nonneg (by omega)]
  omega
theorem mod2 (h : Nat) : (h : Int).tmod 2 = ((h % 2 : Nat) : Int) := by
  rw [Int.tmod_eq_emod_of_nonneg (by omega)]
  omega
theorem spCrc32_ok {xs : List Int} (h : xs.length < 2 ^ 40 := by exact pm) (hx : okBytes xs := by exact pm) : TSpec Try.prog 76 [] [.pd (encI .u8 xs)] false [] (.pl (.int .i64 (crcOf xs))) := by
  have hD := And.intro @encI_nil (And.intro @crcAll_nil (@crcBits_zero))
  refine sT 34 [.tmp 2] Try.func76 fun w0 S0 ρ0 φ0 => ?_
  repeat' (first | apply W.seq | apply W.skip | apply W.region | apply W.block | apply N.code | apply N.blk | apply Sl.nil | apply W.exit | apply W.ret | apply E.hit | apply E.code | apply E.fin | refine zM ?_ | apply O.i | refine sP ?_ | refine sQ fun _ => ?_ | refine zI ?_ ?_ | (intro hb; (try simp [-List.getD_eq_getElem?_getD] at hb); (try (exfalso; omega))))
  refine W.iter (fun k => ⟨34, [(0, .pd (encI .u8 xs)), (3, .pl (.int .i64 (crcAll (xs.take k) 4294967295))), (4, .pl (.int .i64 k))], [], []⟩) (fun k => True) (xs.length) (Weak.to (by first | rfl | (simp only [virtAt_n, virt_n]; rfl)) ?s10 ?b10 (by exact dfe)) ?h10 (fun k hk hH => ?body10)
  (try case' s10 => first | exact to1 | (simp +decide only [go_sem]; (try simp (disch := first | exact ds | fail) only [go_sem, Nat.reduceAdd, Nat.reduceMul, Nat.reduceSub, Int.reduceToNat, Int.reduceNeg, Nat.reduceLeDiff, hD]); (try simp only [SV.pl.injEq, SV.sl.injEq, Value.int.injEq, Bk.c.injEq, encI_inj, true_and]); (try omega))); (try case' b10 => first | exact to1 | (simp +decide only [go_sem]; (try simp (disch := first | exact ds | fail) only [go_sem, Nat.reduceAdd, Nat.reduceMul, Nat.reduceSub, Int.reduceToNat, Int.reduceNeg, Nat.reduceLeDiff, hD]); (try simp only [SV.pl.injEq, SV.sl.injEq, Value.int.injEq, Bk.c.injEq, encI_inj, true_and]); (try omega))); (try case' h10 => first | exact to1 | (simp +decide only [go_sem]; (try simp (disch := first | exact ds | fail) only [go_sem, Nat.reduceAdd, Nat.reduceMul, Nat.reduceSub, Int.reduceToNat, Int.reduceNeg, Nat.reduceLeDiff, hD]); (try simp only [SV.pl.injEq, SV.sl.injEq, Value.int.injEq, Bk.c.injEq, encI_inj, true_and]); (try omega)))
  have hc0 := crcAll_lt _ (okBytes_take hx k) (h := 4294967295) (by omega)
  repeat' (first | apply W.seq | apply W.skip | apply W.region | apply W.block | apply N.code | apply N.blk | apply Sl.nil | apply W.exit | apply W.ret | apply E.hit | apply E.code | apply E.fin | refine zM ?_ | apply O.i | refine sP ?_ | refine sQ fun _ => ?_ | refine zI ?_ ?_ | (intro hb; (try simp [-List.getD_eq_getElem?_getD] at hb); (try (exfalso; omega))))
  · have hg := okBytes_getD hx k hb
    obtain ⟨c, hc⟩ : ∃ c, c = crcAll (xs.take k) 4294967295 ^^^ (xs.getD k 0).toNat := ⟨_, rfl⟩
    have hcl : c < 4294967296 := hc ▸ lt32 hc0 (by omega)
    have hcx : bits .xor .i64 ((crcAll (xs.take k) 4294967295 : Nat) : Int) (xs.getD k 0) = ((c : Nat) : Int) := by
      rw [i64_xor _ _ hc0 (by omega), hc]
    have hD := And.intro @encI_nil (And.intro @crcAll_nil (And.intro @crcBits_zero (@hcx)))
    refine W.iter (fun j => ⟨34, [(0, .pd (encI .u8 xs)), (3, .pl (.int .i64 (crcBits j c))), (4, .pl (.int .i64 k)), (5, .pl (.int .i64 j))], [], []⟩) (fun j => True) (8) (Weak.to (by first | rfl | (simp only [virtAt_n, virt_n]; rfl)) ?s11 ?b11 (by exact dfe)) ?h11 (fun j hj Hj => ?body11)
    (try case' s11 => first | exact to1 | (simp +decide only [go_sem]; (try simp (disch := first | exact ds | fail) only [go_sem, Nat.reduceAdd, Nat.reduceMul, Nat.reduceSub, Int.reduceToNat, Int.reduceNeg, Nat.reduceLeDiff, hD]); (try simp only [SV.pl.injEq, SV.sl.injEq, Value.int.injEq, Bk.c.injEq, encI_inj, true_and]); (try omega))); (try case' b11 => first | exact to1 | (simp +decide only [go_sem]; (try simp (disch := first | exact ds | fail) only [go_sem, Nat.reduceAdd, Nat.reduceMul, Nat.reduceSub, Int.reduceToNat, Int.reduceNeg, Nat.reduceLeDiff, hD]); (try simp only [SV.pl.injEq, SV.sl.injEq, Value.int.injEq, Bk.c.injEq, encI_inj, true_and]); (try omega))); (try case' h11 => first | exact to1 | (simp +decide only [go_sem]; (try simp (disch := first | exact ds | fail) only [go_sem, Nat.reduceAdd, Nat.reduceMul, Nat.reduceSub, Int.reduceToNat, Int.reduceNeg, Nat.reduceLeDiff, hD]); (try simp only [SV.pl.injEq, SV.sl.injEq, Value.int.injEq, Bk.c.injEq, encI_inj, true_and]); (try omega)))
    have hjl := crcBits_lt j hcl
    have e1 := mod2 (crcBits j c)
    have e2 := half2 (crcBits j c)
    repeat' (first | apply W.seq | apply W.skip | apply W.region | apply W.block | apply N.code | apply N.blk | apply Sl.nil | apply W.exit | apply W.ret | apply E.hit | apply E.code | apply E.fin | refine zM ?_ | apply O.i | refine sP ?_ | refine sQ fun _ => ?_ | refine zI ?_ ?_ | (intro hb; (try simp [-List.getD_eq_getElem?_getD] at hb); (try (exfalso; omega))))
    · (refine N.fin ⟨by omega, ?h12, ?w12⟩; case' w12 => (refine Weak.to (by first | rfl | (simp only [virtAt_n, virt_n]; rfl)) ?s12 ?b12 (by exact dfe)))
      (try case' s12 => first | exact to1 | (simp +decide only [go_sem]; (try simp (disch := first | exact ds | fail) only [go_sem, Nat.reduceAdd, Nat.reduceMul, Nat.reduceSub, Int.reduceToNat, Int.reduceNeg, Nat.reduceLeDiff, hD]); (try simp only [SV.pl.injEq, SV.sl.injEq, Value.int.injEq, Bk.c.injEq, encI_inj, true_and]); (try omega))); (try case' b12 => first | exact to1 | (simp +decide only [go_sem]; (try simp (disch := first | exact ds | fail) only [go_sem, Nat.reduceAdd, Nat.reduceMul, Nat.reduceSub, Int.reduceToNat, Int.reduceNeg, Nat.reduceLeDiff, hD]); (try simp only [SV.pl.injEq, SV.sl.injEq, Value.int.injEq, Bk.c.injEq, encI_inj, true_and]); (try omega))); (try case' h12 => first | exact to1 | (simp +decide only [go_sem]; (try simp (disch := first | exact ds | fail) only [go_sem, Nat.reduceAdd, Nat.reduceMul, Nat.reduceSub, Int.reduceToNat, Int.reduceNeg, Nat.reduceLeDiff, hD]); (try simp only [SV.pl.injEq, SV.sl.injEq, Value.int.injEq, Bk.c.injEq, encI_inj, true_and]); (try omega)))
      rw [e2, i64_xor _ _ (by omega) (by omega), crcBits_odd j c (by omega)]
      exact ⟨rfl, by omega⟩
    · (refine N.fin ⟨by omega, ?h13, ?w13⟩; case' w13 => (refine Weak.to (by first | rfl | (simp only [virtAt_n, virt_n]; rfl)) ?s13 ?b13 (by exact dfe)))
      (try case' s13 => first | exact to1 | (simp +decide only [go_sem]; (try simp (disch := first | exact ds | fail) only [go_sem, Nat.reduceAdd, Nat.reduceMul, Nat.reduceSub, Int.reduceToNat, Int.reduceNeg, Nat.reduceLeDiff, hD]); (try simp only [SV.pl.injEq, SV.sl.injEq, Value.int.injEq, Bk.c.injEq, encI_inj, true_and]); (try omega))); (try case' b13 => first | exact to1 | (simp +decide only [go_sem]; (try simp (disch := first | exact ds | fail) only [go_sem, Nat.reduceAdd, Nat.reduceMul, Nat.reduceSub, Int.reduceToNat, Int.reduceNeg, Nat.reduceLeDiff, hD]); (try simp only [SV.pl.injEq, SV.sl.injEq, Value.int.injEq, Bk.c.injEq, encI_inj, true_and]); (try omega))); (try case' h13 => first | exact to1 | (simp +decide only [go_sem]; (try simp (disch := first | exact ds | fail) only [go_sem, Nat.reduceAdd, Nat.reduceMul, Nat.reduceSub, Int.reduceToNat, Int.reduceNeg, Nat.reduceLeDiff, hD]); (try simp only [SV.pl.injEq, SV.sl.injEq, Value.int.injEq, Bk.c.injEq, encI_inj, true_and]); (try omega)))
      rw [e2, crcBits_even j c (by omega)]
      exact ⟨rfl, by omega⟩
    · obtain rfl : j = 8 := by omega
      (refine N.fin ⟨by omega, ?h14, ?w14⟩; case' w14 => (refine Weak.to (by first | rfl | (simp only [virtAt_n, virt_n]; rfl)) ?s14 ?b14 (by exact dfe)))
      (try case' s14 => first | exact to1 | (simp +decide only [go_sem]; (try simp (disch := first | exact ds | fail) only [go_sem, Nat.reduceAdd, Nat.reduceMul, Nat.reduceSub, Int.reduceToNat, Int.reduceNeg, Nat.reduceLeDiff, hD]); (try simp only [SV.pl.injEq, SV.sl.injEq, Value.int.injEq, Bk.c.injEq, encI_inj, true_and]); (try omega))); (try case' b14 => first | exact to1 | (simp +decide only [go_sem]; (try simp (disch := first | exact ds | fail) only [go_sem, Nat.reduceAdd, Nat.reduceMul, Nat.reduceSub, Int.reduceToNat, Int.reduceNeg, Nat.reduceLeDiff, hD]); (try simp only [SV.pl.injEq, SV.sl.injEq, Value.int.injEq, Bk.c.injEq, encI_inj, true_and]); (try omega))); (try case' h14 => first | exact to1 | (simp +decide only [go_sem]; (try simp (disch := first | exact ds | fail) only [go_sem, Nat.reduceAdd, Nat.reduceMul, Nat.reduceSub, Int.reduceToNat, Int.reduceNeg, Nat.reduceLeDiff, hD]); (try simp only [SV.pl.injEq, SV.sl.injEq, Value.int.injEq, Bk.c.injEq, encI_inj, true_and]); (try omega)))
      rw [crcAll_step xs k (by omega), hc]
      exact ⟨rfl, by omega⟩
  · obtain rfl : k = xs.length := by omega
    rw [List.take_length] at hc0
    have hf : bits .xor .i64 ((crcAll xs 4294967295 : Nat) : Int) 4294967295 = ((crcOf xs : Nat) : Int) := by
      rw [i64_xor _ _ hc0 (by omega)]
      rfl
    have hfl : crcOf xs < 4294967296 := lt32 hc0 (by omega)
    have hD := And.intro @encI_nil (@hf)
    exact rT
end Go.Proofs.Ytfmbifnbmlhhjaa

