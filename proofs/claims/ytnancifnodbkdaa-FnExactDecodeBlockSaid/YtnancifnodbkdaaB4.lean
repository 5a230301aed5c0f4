import Derived.Test.YtnancifnodbkdaaB3
import Derived.Test.YtnancifnodbkdaaUc
namespace Go.Proofs.Ytnancifnodbkdaa
open Go Go.Vcg Go.IntWalk
set_option maxRecDepth 100000
set_option maxHeartbeats 20000000
set_option linter.unusedSimpArgs false
set_option linter.unusedVariables false

/-! The program's words. -/
theorem u64_and (a b : Nat) (ha : a < 18446744073709551616) (hb : b < 18446744073709551616) : bits .and .u64 (a : Int) (b : Int) = ((a &&& b : Nat) : Int) := by
  have hx : a &&& b < 18446744073709551616 := Nat.lt_of_le_of_lt Nat.and_le_left ha
  show IntKind.u64.wrap ((BitVec.ofInt 64 (a : Int) &&& BitVec.ofInt 64 (b : Int)).toNat : Int) = _
  rw [BitVec.toNat_and, BitVec.toNat_ofInt, BitVec.toNat_ofInt, u64_in]
  · congr 2 <;> omega
  · rw [show ((a : Int) % ((2 ^ 64 : Nat) : Int)).toNat = a by omega, show ((b : Int) % ((2 ^ 64 : Nat) : Int)).toNat = b by omega]
    omega
theorem u32_or_nat (a b : Nat) (ha : a < 4294967296) (hb : b < 4294967296) : bits .or .u32 (a : Int) (b : Int) = ((a ||| b : Nat) : Int) := by
  have hx : a ||| b < 4294967296 := Nat.or_lt_two_pow (n := 32) ha hb
  show IntKind.u32.wrap ((BitVec.ofInt 32 (a : Int) ||| BitVec.ofInt 32 (b : Int)).toNat : Int) = _
  rw [BitVec.toNat_or, BitVec.toNat_ofInt, BitVec.toNat_ofInt, u32_in]
  · congr 2 <;> omega
  · rw [show ((a : Int) % ((2 ^ 32 : Nat) : Int)).toNat = a by omega, show ((b : Int) % ((2 ^ 32 : Nat) : Int)).toNat = b by omega]
    omega
theorem or_add (a b i : Nat) (hb : b < 2 ^ i) : a * 2 ^ i ||| b = a * 2 ^ i + b := by
  rw [← Nat.shiftLeft_eq, ← Nat.shiftLeft_add_eq_or_of_lt hb]
theorem rot_or {m n : Nat} (hm : m < 4294967296) (h1 : 1 ≤ n) (h2 : n ≤ 31) : bits .or .u32 (IntKind.u32.wrap ((m : Int) * 2 ^ (32 - n))) ((m : Int) / 2 ^ n) = rr m n := by
  have hp : (2 : Nat) ^ n * 2 ^ (32 - n) = 4294967296 := by rw [← Nat.pow_add, show n + (32 - n) = 32 by omega]
  have a1 : m / 2 ^ n < 2 ^ (32 - n) := by
    refine Nat.div_lt_of_lt_mul ?_
    rw [hp]; exact hm
  have e1 : IntKind.u32.wrap ((m : Int) * 2 ^ (32 - n)) = ((m % 2 ^ n * 2 ^ (32 - n) : Nat) : Int) := by
    rw [IntKind.wrap_u32]
    have : (m * 2 ^ (32 - n)) % 4294967296 = m % 2 ^ n * 2 ^ (32 - n) := by
      rw [← hp, Nat.mul_mod_mul_right]
    rw [← this, Int.natCast_emod, Int.natCast_mul, Int.natCast_pow]
    rfl
  have e2 : (m : Int) / 2 ^ n = ((m / 2 ^ n : Nat) : Int) := by rw [Int.natCast_ediv, Int.natCast_pow]; rfl
  have hlt := rr_lt hm h1 h2
  rw [e1, e2, rr_nat, u32_or_nat _ _ (Nat.lt_of_le_of_lt (Nat.le_add_left _ _) hlt) (Nat.lt_of_le_of_lt (Nat.le_add_right _ _) hlt), or_add _ _ _ a1, Nat.add_comm]
theorem and31 {n : Nat} (h1 : 1 ≤ n) (h2 : n ≤ 31) : bits .and .u64 (IntKind.u64.wrap (-(n : Int))) 31 = ((32 - n : Nat) : Int) := by
  have e1 : IntKind.u64.wrap (-(n : Int)) = ((18446744073709551616 - n : Nat) : Int) := by rw [IntKind.wrap_u64]; omega
  rw [e1]
  have := u64_and (18446744073709551616 - n) 31 (by omega) (by omega)
  rw [show ((31 : Nat) : Int) = 31 from rfl] at this
  rw [this, show (31 : Nat) = 2 ^ 5 - 1 from rfl, Nat.and_two_pow_sub_one_eq_mod]
  omega
theorem c235 : CallOk Try.prog 235 := ⟨_, Try.func235, rfl, by kernel_rfl⟩
theorem c227 : CallOk Try.prog 227 := ⟨_, Try.func227, rfl, by kernel_rfl⟩
theorem c205 : CallOk Try.prog 205 := ⟨_, Try.func205, rfl, by kernel_rfl⟩
theorem c185 : CallOk Try.prog 185 := ⟨_, Try.func185, rfl, by kernel_rfl⟩
theorem c186 : CallOk Try.prog 186 := ⟨_, Try.func186, rfl, by kernel_rfl⟩
theorem c184 : CallOk Try.prog 184 := ⟨_, Try.func184, rfl, by kernel_rfl⟩
theorem c204 : CallOk Try.prog 204 := ⟨_, Try.func204, rfl, by kernel_rfl⟩
theorem c206 : CallOk Try.prog 206 := ⟨_, Try.func206, rfl, by kernel_rfl⟩
theorem c228 : CallOk Try.prog 228 := ⟨_, Try.func228, rfl, by kernel_rfl⟩
theorem c187 : CallOk Try.prog 187 := ⟨_, Try.func187, rfl, by kernel_rfl⟩
theorem rotl_ok {m n : Nat} (hm : m < 4294967296 := by exact pm) (h1 : 1 ≤ n := by exact pm) (h2 : n ≤ 31 := by exact pm) : TSpec Try.prog 235 [] [.pl (.int .u32 (m : Int)), .pl (.int .i64 (-(n : Int)))] false [] (.pl (.int .u32 (rr m n))) := by
  have a1 := and31 h1 h2
  have a2 := rot_or hm h1 h2
  have a3 : (((32 - n : Nat) : Int)).toNat = 32 - n := by omega
  have a4 : min (32 - n) 32 = 32 - n := by omega
  have a5 : IntKind.u64.wrap (32 - ((32 - n : Nat) : Int)) = n := by rw [IntKind.wrap_u64]; omega
  have a6 : min n 32 = n := by omega
  have a7 : (m : Int).fdiv (2 ^ n) = (m : Int) / 2 ^ n := Int.fdiv_eq_ediv_of_nonneg _ (by have := pow2_pos n; omega)
  have hD := And.intro (a1) (And.intro (a3) (And.intro (a4) (And.intro (a5) (And.intro (a6) (And.intro (a7) ((a2)))))))
  have hD := And.intro (a1) (And.intro (a3) (And.intro (a4) (And.intro (a5) (And.intro (a6) (And.intro (a7) ((a2)))))))
  refine sT 17 [.tmp 4] Try.func235 fun w0 S0 ρ0 φ0 => ?_
  repeat' (first | apply W.seq | apply W.skip | apply W.region | apply W.block | apply N.code | apply N.blk | apply Sl.nil | apply W.exit | apply W.ret | apply E.hit | apply E.code | apply E.fin | refine zM ?_ | apply O.i | refine sP ?_ | refine sQ fun _ => ?_ | refine zI ?_ ?_ | (intro hb; (try simp [-List.getD_eq_getElem?_getD] at hb); (try (exfalso; omega))))
  exact rT
theorem right_ok {x : Int} {n : Nat} (hx : W32 x := by exact pm) (h1 : 1 ≤ n := by exact pm) (h2 : n ≤ 31 := by exact pm) : TSpec Try.prog 227 [] [.pl (.int .u32 x), .pl (.int .i64 n)] false [] (.pl (.int .u32 (rr x n))) := by
  obtain ⟨m, rfl, hm⟩ := hx.nat
  have a1 : IntKind.i64.wrap (0 - (n : Int)) = -(n : Int) := by rw [i64_in _ (by omega)]; omega
  have hD := (a1)
  have hD := (a1)
  refine sT 9 [.tmp 4] Try.func227 fun w0 S0 ρ0 φ0 => ?_
  repeat' (first | apply W.seq | apply W.skip | apply W.region | apply W.block | apply N.code | apply N.blk | apply Sl.nil | apply W.exit | apply W.ret | apply E.hit | apply E.code | apply E.fin | refine zM ?_ | apply O.i | refine sP ?_ | refine sQ fun _ => ?_ | (refine k1 false [] c235 ?_; refine k2 rotl_ok ?_) | refine zI ?_ ?_ | (intro hb; (try simp [-List.getD_eq_getElem?_getD] at hb); (try (exfalso; omega))))
  exact rT
theorem W_wrap (x : Int) : IntKind.u32.wrap x = x % 4294967296 := IntKind.wrap_u32 x
theorem shl24 {x : Int} (h : 0 ≤ x ∧ x < 256) (j : Nat) (hj : j ≤ 24) : x * 2 ^ j < 4294967296 := by
  have := pow2_le (n := j) (m := 24) hj
  have e : (2 : Int) ^ 24 = 16777216 := by decide
  have hp := pow2_pos j
  have : x * 2 ^ j ≤ 255 * 16777216 := Int.mul_le_mul (by omega) (by omega) (by omega) (by omega)
  omega
theorem or4 {a b c d : Nat} (ha : a < 256) (hb : b < 256) (hc : c < 256) (hd : d < 256) : ((a * 2 ^ 24 ||| b * 2 ^ 16) ||| c * 2 ^ 8) ||| d = a * 16777216 + b * 65536 + c * 256 + d := by
  have e1 : a * 2 ^ 24 ||| b * 2 ^ 16 = (a * 256 + b) * 2 ^ 16 := by
    have := or_add (a * 256) b 0
    rw [show a * 2 ^ 24 = (a * 2 ^ 8) * 2 ^ 16 by rw [Nat.mul_assoc], ← Nat.shiftLeft_eq (a * 2 ^ 8) 16, ← Nat.shiftLeft_eq b 16, ← Nat.shiftLeft_or_distrib, or_add a b 8 hb, Nat.shiftLeft_eq]
  have e2 : (a * 256 + b) * 2 ^ 16 ||| c * 2 ^ 8 = ((a * 256 + b) * 256 + c) * 2 ^ 8 := by
    rw [show (a * 256 + b) * 2 ^ 16 = ((a * 256 + b) * 2 ^ 8) * 2 ^ 8 by rw [Nat.mul_assoc], ← Nat.shiftLeft_eq ((a * 256 + b) * 2 ^ 8) 8, ← Nat.shiftLeft_eq c 8, ← Nat.shiftLeft_or_distrib, or_add _ c 8 hc, Nat.shiftLeft_eq]
  rw [e1, e2, or_add _ d 8 hd]
  omega
theorem sh24 {x : Nat} (h : x < 256) : x * 2 ^ 24 < 2 ^ 32 := by show x * 16777216 < 4294967296; omega
theorem sh16 {x : Nat} (h : x < 256) : x * 2 ^ 16 < 2 ^ 32 := by show x * 65536 < 4294967296; omega
theorem sh8 {x : Nat} (h : x < 256) : x * 2 ^ 8 < 2 ^ 32 := by show x * 256 < 4294967296; omega
theorem sh0 {x : Nat} (h : x < 256) : x < 2 ^ 32 := by show x < 4294967296; omega
theorem or_hi4 {b : List Int} (ho : okBytes b) {i : Nat} (hi : 4 * i + 4 ≤ b.length) : bits .or .u32 (bits .or .u32 (bits .or .u32 (b.getD (4 * i) 0 * 2 ^ 24) (b.getD (4 * i + 1) 0 * 2 ^ 16)) (b.getD (4 * i + 2) 0 * 2 ^ 8)) (b.getD (4 * i + 3) 0) = hi4 b i := by
  have h0 := okBytes_getD ho (4 * i) (by omega)
  have h1 := okBytes_getD ho (4 * i + 1) (by omega)
  have h2 := okBytes_getD ho (4 * i + 2) (by omega)
  have h3 := okBytes_getD ho (4 * i + 3) (by omega)
  unfold hi4
  obtain ⟨a, ea⟩ := Int.eq_ofNat_of_zero_le h0.1
  obtain ⟨c, ec⟩ := Int.eq_ofNat_of_zero_le h1.1
  obtain ⟨d, ed⟩ := Int.eq_ofNat_of_zero_le h2.1
  obtain ⟨e, ee⟩ := Int.eq_ofNat_of_zero_le h3.1
  rw [ea] at h0
  rw [ec] at h1
  rw [ed] at h2
  rw [ee] at h3
  rw [ea, ec, ed, ee]
  clear ea ec ed ee
  have q1 : (a : Int) * 2 ^ 24 = ((a * 2 ^ 24 : Nat) : Int) := by rw [Int.natCast_mul]; rfl
  have q2 : (c : Int) * 2 ^ 16 = ((c * 2 ^ 16 : Nat) : Int) := by rw [Int.natCast_mul]; rfl
  have q3 : (d : Int) * 2 ^ 8 = ((d * 2 ^ 8 : Nat) : Int) := by rw [Int.natCast_mul]; rfl
  have b0 : a < 256 := by omega
  have b1 : c < 256 := by omega
  have b2 : d < 256 := by omega
  have b3 : e < 256 := by omega
  have l1 := sh24 b0
  have l2 := sh16 b1
  have l3 := sh8 b2
  have l0 : e < 2 ^ 32 := sh0 b3
  have l4 := Nat.or_lt_two_pow l1 l2
  have l5 := Nat.or_lt_two_pow l4 l3
  rw [q1, q2, q3, u32_or_nat _ _ l1 l2, u32_or_nat _ _ l4 l3, u32_or_nat _ _ l5 l0, or4 b0 b1 b2 b3]
  clear l0 l1 l2 l3 l4 l5
  omega
end Go.Proofs.Ytnancifnodbkdaa

