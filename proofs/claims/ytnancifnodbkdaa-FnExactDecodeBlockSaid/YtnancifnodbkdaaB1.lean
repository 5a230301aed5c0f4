import Derived.Test.YtnancifnodbkdaaA11
namespace Go.Proofs.Ytnancifnodbkdaa
open Go Go.Vcg Go.IntWalk
set_option maxRecDepth 100000
set_option maxHeartbeats 20000000
set_option linter.unusedSimpArgs false
set_option linter.unusedVariables false

/-! Words of 32 bits; the hash's mixing. -/
def W32 (x : Int) : Prop := 0 ≤ x ∧ x < 4294967296
def rr (x : Int) (n : Nat) : Int := x / 2 ^ n + x % 2 ^ n * 2 ^ (32 - n)
def xr (a b : Int) : Int := bits .xor .u32 a b
def an (a b : Int) : Int := bits .and .u32 a b
def ng (a : Int) : Int := 4294967295 - a
theorem xr_nat (a b : Nat) (ha : a < 4294967296) (hb : b < 4294967296) : xr (a : Int) (b : Int) = ((a ^^^ b : Nat) : Int) := u32_xor_nat a b ha hb
theorem an_nat (a b : Nat) (ha : a < 4294967296) (hb : b < 4294967296) : an (a : Int) (b : Int) = ((a &&& b : Nat) : Int) := u32_and_nat a b ha hb
theorem W32.nat {x : Int} (h : W32 x) : ∃ n : Nat, x = (n : Int) ∧ n < 4294967296 := ⟨x.toNat, by unfold W32 at h; omega, by unfold W32 at h; omega⟩
theorem W_xr {a b : Int} (ha : W32 a) (hb : W32 b) : W32 (xr a b) := by
  obtain ⟨m, rfl, hm⟩ := ha.nat
  obtain ⟨n, rfl, hn⟩ := hb.nat
  rw [xr_nat m n hm hn]
  have := lt32 hm hn
  exact ⟨by omega, by omega⟩
theorem W_an {a b : Int} (ha : W32 a) (hb : W32 b) : W32 (an a b) := by
  obtain ⟨m, rfl, hm⟩ := ha.nat
  obtain ⟨n, rfl, hn⟩ := hb.nat
  rw [an_nat m n hm hn]
  have : m &&& n < 4294967296 := Nat.lt_of_le_of_lt Nat.and_le_left hm
  exact ⟨by omega, by omega⟩
theorem W_ng {a : Int} (ha : W32 a) : W32 (ng a) := by unfold W32 at *; unfold ng; omega
theorem Wf {x : Int} (h : W32 x) : 0 ≤ x ∧ x < 4294967296 := h
theorem rr_nat (m n : Nat) : rr (m : Int) n = ((m / 2 ^ n + m % 2 ^ n * 2 ^ (32 - n) : Nat) : Int) := by
  unfold rr
  push_cast
  rfl
theorem rr_lt {m n : Nat} (hm : m < 4294967296) (h1 : 1 ≤ n) (h2 : n ≤ 31) : m / 2 ^ n + m % 2 ^ n * 2 ^ (32 - n) < 4294967296 := by
  have hp : (2 : Nat) ^ n * 2 ^ (32 - n) = 4294967296 := by rw [← Nat.pow_add, show n + (32 - n) = 32 by omega]
  have hpos : 0 < 2 ^ (32 - n) := Nat.pow_pos (by omega)
  have a1 : m / 2 ^ n < 2 ^ (32 - n) := by
    refine Nat.div_lt_of_lt_mul ?_
    rw [hp]; exact hm
  have a2 : m % 2 ^ n + 1 ≤ 2 ^ n := Nat.mod_lt _ (Nat.pow_pos (by omega))
  have a3 : (m % 2 ^ n + 1) * 2 ^ (32 - n) ≤ 2 ^ n * 2 ^ (32 - n) := Nat.mul_le_mul_right _ a2
  rw [hp, Nat.add_mul] at a3
  omega
theorem W_rr {x : Int} {n : Nat} (hx : W32 x) (h1 : 1 ≤ n) (h2 : n ≤ 31) : W32 (rr x n) := by
  obtain ⟨m, rfl, hm⟩ := hx.nat
  rw [rr_nat]
  have := rr_lt hm h1 h2
  generalize m / 2 ^ n + m % 2 ^ n * 2 ^ (32 - n) = z at this ⊢
  exact ⟨by omega, by omega⟩
theorem W_div {x n : Int} (h : W32 x) (hn : 1 ≤ n) : W32 (x / n) := by
  unfold W32 at *
  exact ⟨Int.ediv_nonneg h.1 (by omega), by have := Int.ediv_le_self n h.1; omega⟩
def WL (l : List Int) : Prop := ∀ i, W32 (l.getD i 0)
def rnd (v : List Int) (k w : Int) : List Int :=
  let one := (v.getD 7 0 + xr (xr (rr (v.getD 4 0) 6) (rr (v.getD 4 0) 11)) (rr (v.getD 4 0) 25) + xr (an (v.getD 4 0) (v.getD 5 0)) (an (ng (v.getD 4 0)) (v.getD 6 0)) + k + w) % 4294967296
  [(one + xr (xr (rr (v.getD 0 0) 2) (rr (v.getD 0 0) 13)) (rr (v.getD 0 0) 22) + xr (xr (an (v.getD 0 0) (v.getD 1 0)) (an (v.getD 0 0) (v.getD 2 0))) (an (v.getD 1 0) (v.getD 2 0))) % 4294967296, v.getD 0 0, v.getD 1 0, v.getD 2 0, (v.getD 3 0 + one) % 4294967296, v.getD 4 0, v.getD 5 0, v.getD 6 0]
def rnds (ks ws : List Int) : Nat → List Int → List Int
  | 0, v => v
  | n + 1, v => rnd (rnds ks ws n v) (ks.getD n 0) (ws.getD n 0)
theorem rnd_length (v : List Int) (k w : Int) : (rnd v k w).length = 8 := rfl
theorem rnds_length (ks ws : List Int) (n : Nat) (v : List Int) (h : v.length = 8) : (rnds ks ws n v).length = 8 := by
  cases n with
  | zero => exact h
  | succ n => rfl
theorem W_mod (x : Int) : W32 (x % 4294967296) := by unfold W32; omega
theorem rnd_WL {v : List Int} (h : WL v) (k w : Int) : WL (rnd v k w) := by
  intro i
  unfold rnd
  match i with
  | 0 => exact W_mod _
  | 1 => exact h 0
  | 2 => exact h 1
  | 3 => exact h 2
  | 4 => exact W_mod _
  | 5 => exact h 4
  | 6 => exact h 5
  | 7 => exact h 6
  | i + 8 => show W32 0; exact ⟨by omega, by omega⟩
theorem rnds_WL {ks ws : List Int} (n : Nat) {v : List Int} (h : WL v) : WL (rnds ks ws n v) := by
  induction n with
  | zero => exact h
  | succ n ih => exact rnd_WL ih _ _
def hi4 (b : List Int) (i : Nat) : Int := b.getD (4 * i) 0 * 16777216 + b.getD (4 * i + 1) 0 * 65536 + b.getD (4 * i + 2) 0 * 256 + b.getD (4 * i + 3) 0
def wnext (l : List Int) (i : Nat) : Int := (xr (xr (rr (l.getD (i - 2) 0) 17) (rr (l.getD (i - 2) 0) 19)) (l.getD (i - 2) 0 / 1024) + l.getD (i - 7) 0 + xr (xr (rr (l.getD (i - 15) 0) 7) (rr (l.getD (i - 15) 0) 18)) (l.getD (i - 15) 0 / 8) + l.getD (i - 16) 0) % 4294967296
def wgo : Nat → List Int → List Int
  | 0, l => l
  | n + 1, l => wgo n l ++ [wnext (wgo n l) (16 + n)]
def words0 (b : List Int) (n : Nat) : List Int := (List.range n).map (hi4 b)
def words (b : List Int) (n : Nat) : List Int := wgo n (words0 b 16)
def kTab : List Int := [1116352408, 1899447441, 3049323471, 3921009573, 961987163, 1508970993, 2453635748, 2870763221, 3624381080, 310598401, 607225278, 1426881987, 1925078388, 2162078206, 2614888103, 3248222580, 3835390401, 4022224774, 264347078, 604807628, 770255983, 1249150122, 1555081692, 1996064986, 2554220882, 2821834349, 2952996808, 3210313671, 3336571891, 3584528711, 113926993, 338241895, 666307205, 773529912, 1294757372, 1396182291, 1695183700, 1986661051, 2177026350, 2456956037, 2730485921, 2820302411, 3259730800, 3345764771, 3516065817, 3600352804, 4094571909, 275423344, 430227734, 506948616, 659060556, 883997877, 958139571, 1322822218, 1537002063, 1747873779, 1955562222, 2024104815, 2227730452, 2361852424, 2428436474, 2756734187, 3204031479, 3329325298]
def mixV (h b : List Int) : List Int := rnds kTab (words b 48) 64 h
def mixF (h b : List Int) (i : Nat) : Int := ((mixV h b).getD i 0 + h.getD i 0) % 4294967296
def mix (h b : List Int) : List Int := (List.range 8).map (mixF h b)
theorem range_map_getD {α : Type} (f : Nat → α) (n i : Nat) (d : α) (h : i < n) : ((List.range n).map f).getD i d = f i := by
  rw [List.getD_eq_getElem?_getD, List.getElem?_map, List.getElem?_range h]
  rfl
theorem range_map_succ {α : Type} (f : Nat → α) (n : Nat) : (List.range n).map f ++ [f n] = (List.range (n + 1)).map f := by
  rw [List.range_succ, List.map_append]
  rfl
theorem words0_length (b : List Int) (n : Nat) : (words0 b n).length = n := by simp [words0]
theorem wgo_length (n : Nat) (l : List Int) : (wgo n l).length = l.length + n := by
  induction n with
  | zero => rfl
  | succ n ih => simp [wgo, ih]; omega
theorem words_length (b : List Int) (n : Nat) : (words b n).length = 16 + n := by rw [words, wgo_length, words0_length]
theorem mix_length (h b : List Int) : (mix h b).length = 8 := by simp [mix]
theorem WL_getD_out (l : List Int) (i : Nat) (h : l.length ≤ i) : W32 (l.getD i 0) := by
  rw [List.getD_eq_getElem?_getD, List.getElem?_eq_none h]
  exact ⟨Int.le_refl _, by decide⟩
theorem WL_of {l : List Int} (h : ∀ i, i < l.length → W32 (l.getD i 0)) : WL l := fun i => by
  by_cases hi : i < l.length
  · exact h i hi
  · exact WL_getD_out l i (by omega)
theorem hi4_W {b : List Int} (hb : okBytes b) (i : Nat) : W32 (hi4 b i) := by
  have g : ∀ j, 0 ≤ b.getD j 0 ∧ b.getD j 0 < 256 := fun j => by
    by_cases hj : j < b.length
    · exact okBytes_getD hb j hj
    · rw [List.getD_eq_getElem?_getD, List.getElem?_eq_none (by omega)]
      exact ⟨Int.le_refl _, by decide⟩
  have h0 := g (4 * i)
  have h1 := g (4 * i + 1)
  have h2 := g (4 * i + 2)
  have h3 := g (4 * i + 3)
  unfold hi4 W32
  omega
theorem words0_WL {b : List Int} (hb : okBytes b) (n : Nat) : WL (words0 b n) := WL_of fun i hi => by
  rw [words0_length] at hi
  rw [words0, range_map_getD _ _ _ _ hi]
  exact hi4_W hb i
theorem wgo_WL {l : List Int} (h : WL l) (hl : l.length = 16) (n : Nat) : WL (wgo n l) := by
  induction n with
  | zero => exact h
  | succ n ih =>
    refine WL_of fun i hi => ?_
    simp only [wgo, List.length_append, List.length_cons, List.length_nil] at hi
    by_cases e : i < (wgo n l).length
    · rw [wgo, List.getD_eq_getElem?_getD, List.getElem?_append_left e, ← List.getD_eq_getElem?_getD]
      exact ih i
    · obtain rfl : i = (wgo n l).length := by omega
      rw [wgo, app_getD _ _ _ _ rfl]
      exact W_mod _
theorem words_WL {b : List Int} (hb : okBytes b) (n : Nat) : WL (words b n) := wgo_WL (words0_WL hb 16) (words0_length b 16) n
theorem mix_WL (h b : List Int) : WL (mix h b) := WL_of fun i hi => by
  rw [mix_length] at hi
  rw [mix, range_map_getD _ _ _ _ hi]
  exact W_mod _
theorem mix_getD (h b : List Int) (i : Nat) (hi : i < 8) : (mix h b).getD i 0 = mixF h b i := by rw [mix, range_map_getD _ _ _ _ hi]
theorem words_succ (b : List Int) (j : Nat) : words b (j + 1) = words b j ++ [wnext (words b j) (16 + j)] := rfl
theorem words0_words (b : List Int) : words0 b 16 = words b 0 := rfl
theorem words0_zero (b : List Int) : words0 b 0 = [] := rfl
theorem words0_succ (b : List Int) (k : Nat) : words0 b k ++ [hi4 b k] = words0 b (k + 1) := range_map_succ (hi4 b) k
theorem rnds_zero (ks ws v : List Int) : rnds ks ws 0 v = v := rfl
theorem rnds_succ (ks ws v : List Int) (n : Nat) : rnds ks ws (n + 1) v = rnd (rnds ks ws n v) (ks.getD n 0) (ws.getD n 0) := rfl
theorem kTab_length : kTab.length = 64 := rfl
theorem kTab_W : WL kTab := WL_of fun i hi => by
  have h : ∀ x ∈ kTab, 0 ≤ x ∧ x < 4294967296 := by decide
  rw [List.getD_eq_getElem?_getD, List.getElem?_eq_getElem hi]
  exact h _ (List.getElem_mem hi)
theorem mix_eq (h b : List Int) : mix h b = (List.range 8).map (mixF h b) := rfl
theorem mixF_eq (h b : List Int) (i : Nat) : mixF h b i = ((mixV h b).getD i 0 + h.getD i 0) % 4294967296 := rfl
theorem mixV_eq (h b : List Int) : mixV h b = rnds kTab (words b 48) 64 h := rfl
attribute [irreducible] rr xr an ng words words0 rnds rnd mix mixF mixV kTab W32
/-! The reference's arithmetic. -/
theorem x64 {a b : Int} (ha : W32 a) (hb : W32 b) : bits .xor .i64 a b = xr a b := by
  obtain ⟨m, rfl, hm⟩ := ha.nat
  obtain ⟨n, rfl, hn⟩ := hb.nat
  rw [i64_xor m n hm (by omega), xr_nat m n hm hn]
  rfl
theorem i64_and (a b : Nat) (ha : a < 4294967296) (hb : b < 4294967296) : bits .and .i64 (a : Int) (b : Int) = ((a &&& b : Nat) : Int) := by
  have hx : a &&& b < 4294967296 := Nat.lt_of_le_of_lt Nat.and_le_left ha
  show IntKind.i64.wrap ((BitVec.ofInt 64 (a : Int) &&& BitVec.ofInt 64 (b : Int)).toNat : Int) = _
  rw [BitVec.toNat_and, BitVec.toNat_ofInt, BitVec.toNat_ofInt, i64_in]
  · congr 2 <;> omega
  · rw [show ((a : Int) % ((2 ^ 64 : Nat) : Int)).toNat = a by omega, show ((b : Int) % ((2 ^ 64 : Nat) : Int)).toNat = b by omega]
    omega
theorem a64 {a b : Int} (ha : W32 a) (hb : W32 b) : bits .and .i64 a b = an a b := by
  obtain ⟨m, rfl, hm⟩ := ha.nat
  obtain ⟨n, rfl, hn⟩ := hb.nat
  rw [i64_and m n hm hn, an_nat m n hm hn]
theorem tm32 {x : Int} (h : 0 ≤ x) : x.tmod 4294967296 = x % 4294967296 := Int.tmod_eq_emod_of_nonneg h
theorem td_nat {x : Int} {n : Int} (h : 0 ≤ x) : x.tdiv n = x / n := Int.tdiv_eq_ediv_of_nonneg h
theorem pow2_pos (n : Nat) : (0 : Int) < 2 ^ n := Int.pow_pos (by omega)
theorem pow2_le {n m : Nat} (h : n ≤ m) : (2 : Int) ^ n ≤ 2 ^ m := by
  have : (2 : Nat) ^ n ≤ 2 ^ m := Nat.pow_le_pow_right (by omega) h
  exact_mod_cast this
theorem pow2_succ (k : Nat) : (2 : Int) ^ k * 2 = 2 ^ (k + 1) := (Int.pow_succ 2 k).symm
theorem c226 : CallOk Try.prog 226 := ⟨_, Try.func226, rfl, by kernel_rfl⟩
theorem c203 : CallOk Try.prog 203 := ⟨_, Try.func203, rfl, by kernel_rfl⟩
theorem c225 : CallOk Try.prog 225 := ⟨_, Try.func225, rfl, by kernel_rfl⟩
theorem c201 : CallOk Try.prog 201 := ⟨_, Try.func201, rfl, by kernel_rfl⟩
theorem c202 : CallOk Try.prog 202 := ⟨_, Try.func202, rfl, by kernel_rfl⟩
theorem c183 : CallOk Try.prog 183 := ⟨_, Try.func183, rfl, by kernel_rfl⟩
theorem c182 : CallOk Try.prog 182 := ⟨_, Try.func182, rfl, by kernel_rfl⟩
theorem c168 : CallOk Try.prog 168 := ⟨_, Try.func168, rfl, by kernel_rfl⟩
theorem c75 : CallOk Try.prog 75 := ⟨_, Try.func75, rfl, by kernel_rfl⟩
theorem l5Power_ok {n : Nat} (hn : n ≤ 40 := by exact pm) : TSpec Try.prog 226 [] [.pl (.int .i64 n)] false [] (.pl (.int .i64 (2 ^ n))) := by
  have hD := dN0
  refine sT 13 [.tmp 2] Try.func226 fun w0 S0 ρ0 φ0 => ?_
  repeat' (first | apply W.seq | apply W.skip | apply W.region | apply W.block | apply N.code | apply N.blk | apply Sl.nil | apply W.exit | apply W.ret | apply E.hit | apply E.code | apply E.fin | refine zM ?_ | apply O.i | refine sP ?_ | refine sQ fun _ => ?_ | refine zI ?_ ?_ | (intro hb; (try simp [-List.getD_eq_getElem?_getD] at hb); (try (exfalso; omega))))
  refine W.iter (fun k => ⟨13, [(0, .pl (.int .i64 n)), (3, .pl (.int .i64 (2 ^ k))), (4, .pl (.int .i64 k))], [], []⟩) (fun k => True) (n) (Weak.to (by first | rfl | (simp only [virtAt_n]; rfl)) ?s1 ?b1 (by exact dfe)) ?h1 (fun k hk hH => ?body1)
  (try case' s1 => first | exact to1 | (simp +decide only [go_sem]; (try simp (disch := first | exact ds | fail) only [go_sem, Nat.reduceAdd, Nat.reduceMul, Nat.reduceSub, Int.reduceToNat, Int.reduceNeg, Nat.reduceLeDiff, hD]); (try simp only [SV.pl.injEq, SV.sl.injEq, Value.int.injEq, Bk.c.injEq, encI_inj, true_and]); (try omega))); (try case' b1 => first | exact to1 | (simp +decide only [go_sem]; (try simp (disch := first | exact ds | fail) only [go_sem, Nat.reduceAdd, Nat.reduceMul, Nat.reduceSub, Int.reduceToNat, Int.reduceNeg, Nat.reduceLeDiff, hD]); (try simp only [SV.pl.injEq, SV.sl.injEq, Value.int.injEq, Bk.c.injEq, encI_inj, true_and]); (try omega))); (try case' h1 => first | exact to1 | (simp +decide only [go_sem]; (try simp (disch := first | exact ds | fail) only [go_sem, Nat.reduceAdd, Nat.reduceMul, Nat.reduceSub, Int.reduceToNat, Int.reduceNeg, Nat.reduceLeDiff, hD]); (try simp only [SV.pl.injEq, SV.sl.injEq, Value.int.injEq, Bk.c.injEq, encI_inj, true_and]); (try omega)))
  have hp := pow2_le (n := k) (m := 40) (by omega)
  have hq := pow2_pos k
  have e40 : (2 : Int) ^ 40 = 1099511627776 := by decide
  repeat' (first | apply W.seq | apply W.skip | apply W.region | apply W.block | apply N.code | apply N.blk | apply Sl.nil | apply W.exit | apply W.ret | apply E.hit | apply E.code | apply E.fin | refine zM ?_ | apply O.i | refine sP ?_ | refine sQ fun _ => ?_ | refine zI ?_ ?_ | (intro hb; (try simp [-List.getD_eq_getElem?_getD] at hb); (try (exfalso; omega))))
  · (refine N.fin ⟨by omega, ?h2, ?w2⟩; case' w2 => (refine Weak.to (by first | rfl | (simp only [virtAt_n]; rfl)) ?s2 ?b2 (by exact dfe)))
    (try case' s2 => first | exact to1 | (simp +decide only [go_sem]; (try simp (disch := first | exact ds | fail) only [go_sem, Nat.reduceAdd, Nat.reduceMul, Nat.reduceSub, Int.reduceToNat, Int.reduceNeg, Nat.reduceLeDiff, hD]); (try simp only [SV.pl.injEq, SV.sl.injEq, Value.int.injEq, Bk.c.injEq, encI_inj, true_and]); (try omega))); (try case' b2 => first | exact to1 | (simp +decide only [go_sem]; (try simp (disch := first | exact ds | fail) only [go_sem, Nat.reduceAdd, Nat.reduceMul, Nat.reduceSub, Int.reduceToNat, Int.reduceNeg, Nat.reduceLeDiff, hD]); (try simp only [SV.pl.injEq, SV.sl.injEq, Value.int.injEq, Bk.c.injEq, encI_inj, true_and]); (try omega))); (try case' h2 => first | exact to1 | (simp +decide only [go_sem]; (try simp (disch := first | exact ds | fail) only [go_sem, Nat.reduceAdd, Nat.reduceMul, Nat.reduceSub, Int.reduceToNat, Int.reduceNeg, Nat.reduceLeDiff, hD]); (try simp only [SV.pl.injEq, SV.sl.injEq, Value.int.injEq, Bk.c.injEq, encI_inj, true_and]); (try omega)))
  · obtain rfl : k = n := by omega
    exact rT
theorem l5Turn_ok {x : Int} {n : Nat} (hx : W32 x := by exact pm) (h1 : 1 ≤ n := by exact pm) (h2 : n ≤ 31 := by exact pm) : TSpec Try.prog 203 [] [.pl (.int .i64 x), .pl (.int .i64 n)] false [] (.pl (.int .i64 (rr x n))) := by
  obtain ⟨m, rfl, hm⟩ := hx.nat
  have hp : (2 : Nat) ^ n * 2 ^ (32 - n) = 4294967296 := by rw [← Nat.pow_add, show n + (32 - n) = 32 by omega]
  have hq : 0 < 2 ^ n := Nat.pow_pos (n := n) (by omega : 0 < 2)
  have e1 : (2 : Int) ^ n = ((2 ^ n : Nat) : Int) := by push_cast; rfl
  have hlt := rr_lt hm h1 h2
  have a1 : ((m : Nat) : Int).tdiv (2 ^ n) = ((m / 2 ^ n : Nat) : Int) := by rw [e1, td_nat (by omega)]; exact (Int.natCast_ediv m (2 ^ n)).symm
  have a2 : ((m : Nat) : Int).tmod (2 ^ n) = ((m % 2 ^ n : Nat) : Int) := by rw [e1, Int.tmod_eq_emod_of_nonneg (by omega)]; exact (Int.natCast_emod m (2 ^ n)).symm
  have a3 : (4294967296 : Int).tdiv (2 ^ n) = ((2 ^ (32 - n) : Nat) : Int) := by
    have hc : (4294967296 : Int) = ((2 ^ n * 2 ^ (32 - n) : Nat) : Int) := by rw [hp]; rfl
    rw [e1, td_nat (by omega), hc]
    push_cast
    exact Int.mul_ediv_cancel_left _ (by have := pow2_pos n; omega)
  have a4 : ((m % 2 ^ n : Nat) : Int) * ((2 ^ (32 - n) : Nat) : Int) = ((m % 2 ^ n * 2 ^ (32 - n) : Nat) : Int) := by push_cast; rfl
  have a5 : 0 < 2 ^ n := hq
  have hne : ¬ (2 : Int) ^ n = 0 := by have := pow2_pos n; omega
  have b1 : m / 2 ^ n ≤ m := Nat.div_le_self _ _
  obtain ⟨u, hu⟩ : ∃ u, u = m / 2 ^ n := ⟨_, rfl⟩
  obtain ⟨y, hy⟩ : ∃ y, y = m % 2 ^ n * 2 ^ (32 - n) := ⟨_, rfl⟩
  rw [rr_nat, ← hu, ← hy]
  rw [← hu, ← hy] at hlt
  rw [← hu] at a1 b1
  rw [← hy] at a4
  have b2 : m % 2 ^ n < 2 ^ n := Nat.mod_lt _ hq
  have b3 : (2 : Nat) ^ n ≤ 2147483648 := Nat.pow_le_pow_right (n := 2) (by omega) h2
  have b4 : (2 : Nat) ^ (32 - n) ≤ 2147483648 := Nat.pow_le_pow_right (n := 2) (j := 31) (by omega) (by omega)
  have b5 := pow2_pos n
  obtain ⟨z, hz⟩ : ∃ z, z = 2 ^ (32 - n) := ⟨_, rfl⟩
  obtain ⟨q, hq2⟩ : ∃ q, q = m % 2 ^ n := ⟨_, rfl⟩
  rw [← hz] at b4 a3 a4
  rw [← hq2] at a2 a4
  have c1 : IntKind.i64.wrap (z : Int) = z := i64_in _ (by omega)
  have c2 : IntKind.i64.wrap (y : Int) = y := i64_in _ (by omega)
  have c3 : IntKind.i64.wrap ((u : Int) + y) = ((u + y : Nat) : Int) := by
    rw [i64_in _ (by omega)]
    omega
  have c4 : IntKind.i64.wrap (u : Int) = u := i64_in _ (by omega)
  have hD := And.intro (a1) (And.intro (a2) (And.intro (a3) (And.intro (a4) (And.intro (c1) (And.intro (c2) (And.intro (c4) ((c3))))))))
  have hD := And.intro (a1) (And.intro (a2) (And.intro (a3) (And.intro (a4) (And.intro (c1) (And.intro (c2) (And.intro (c4) ((c3))))))))
  refine sT 18 [.tmp 4] Try.func203 fun w0 S0 ρ0 φ0 => ?_
  repeat' (first | apply W.seq | apply W.skip | apply W.region | apply W.block | apply N.code | apply N.blk | apply Sl.nil | apply W.exit | apply W.ret | apply E.hit | apply E.code | apply E.fin | refine zM ?_ | apply O.i | refine sP ?_ | refine sQ fun _ => ?_ | (refine k1 false [] c226 ?_; refine k2 l5Power_ok ?_) | (refine rD (id := 2) anyW [] ?_; refine rP 0 false fun _ => ?_; refine rP 1 false fun _ => ?_; refine rP 2 false fun _ => ?_; refine rP 3 false fun _ => ?_; refine rP 4 false fun _ => ?_; refine rP 5 false fun _ => ?_; refine rP 6 false fun _ => ?_; refine rP 7 false fun _ => ?_; refine rP 8 false fun _ => ?_; refine rP 9 false fun _ => ?_; refine rP 10 false fun _ => ?_; refine rE ?_) | refine zI ?_ ?_ | (intro hb; (try simp [-List.getD_eq_getElem?_getD] at hb); (try (exfalso; omega))))
  exact rT
theorem l5High_ok {b : List Int} (ho : okBytes b := by exact pm) (hl : b.length = 4 := by exact pm) : TSpec Try.prog 225 [] [.pd (encI .u8 b)] false [] (.pl (.int .i64 (hi4 b 0))) := by
  have h0 := okBytes_getD ho 0 (by omega)
  have h1 := okBytes_getD ho 1 (by omega)
  have h2 := okBytes_getD ho 2 (by omega)
  have h3 := okBytes_getD ho 3 (by omega)
  have hD := dN0
  refine sT 25 [.tmp 2] Try.func225 fun w0 S0 ρ0 φ0 => ?_
  repeat' (first | apply W.seq | apply W.skip | apply W.region | apply W.block | apply N.code | apply N.blk | apply Sl.nil | apply W.exit | apply W.ret | apply E.hit | apply E.code | apply E.fin | refine zM ?_ | apply O.i | refine sP ?_ | refine sQ fun _ => ?_ | (refine rD (id := 1) anyW [] ?_; refine rP 0 false fun _ => ?_; refine rP 1 false fun _ => ?_; refine rP 2 true fun _ => ?_; refine rP 3 false fun _ => ?_; refine rP 4 false fun _ => ?_; refine rP 5 false fun _ => ?_; refine rP 6 false fun _ => ?_; refine rP 7 true fun _ => ?_; refine rP 8 false fun _ => ?_; refine rP 9 false fun _ => ?_; refine rP 10 false fun _ => ?_; refine rP 11 false fun _ => ?_; refine rP 12 false fun _ => ?_; refine rP 13 true fun _ => ?_; refine rP 14 false fun _ => ?_; refine rP 15 false fun _ => ?_; refine rP 16 false fun _ => ?_; refine rP 17 false fun _ => ?_; refine rP 18 false fun _ => ?_; refine rP 19 true fun _ => ?_; refine rP 20 false fun _ => ?_; refine rP 21 false fun _ => ?_; refine rP 22 false fun _ => ?_; refine rE ?_) | refine zI ?_ ?_ | (intro hb; (try simp [-List.getD_eq_getElem?_getD] at hb); (try (exfalso; omega))))
  simp only [hi4]
  exact rT
theorem hi4_sub (b : List Int) (k : Nat) : hi4 ((b.drop (4 * k)).take 4) 0 = hi4 b k := by
  unfold hi4
  simp [List.getElem?_take, List.getElem?_drop]
theorem okBytes_sub {b : List Int} (ho : okBytes b) (i n : Nat) : okBytes ((b.drop i).take n) := fun x hx => ho x (List.mem_of_mem_drop (List.mem_of_mem_take hx))
theorem l5HighAt_ok {b : List Int} {k : Nat} (ho : okBytes b := by exact pm) (hl : 4 * k + 4 ≤ b.length := by exact pm) : TSpec Try.prog 225 [] [.pd (encI .u8 ((b.drop (4 * k)).take 4))] false [] (.pl (.int .i64 (hi4 b k))) := by
  have := l5High_ok (okBytes_sub ho (4 * k) 4) (by simp; omega)
  rw [hi4_sub] at this
  exact this
theorem l5Words_ok {b : List Int} (ho : okBytes b := by exact pm) (hl : b.length = 64 := by exact pm) : TSpec Try.prog 201 [] [.pd (encI .u8 b)] false [] (.ow 1 (encI .i64 (words b 48))) := by
  have hD := @words0_zero
  refine sT 76 [.tmp 2] Try.func201 fun w0 S0 ρ0 φ0 => ?_
  repeat' (first | apply W.seq | apply W.skip | apply W.region | apply W.block | apply N.code | apply N.blk | apply Sl.nil | apply W.exit | apply W.ret | apply E.hit | apply E.code | apply E.fin | refine zM ?_ | apply O.i | refine sP ?_ | refine sQ fun _ => ?_ | refine sX fun _ => ?_ | (refine k1 false [] c225 ?_; refine k2 l5HighAt_ok ?_) | (refine k1 false [] c203 ?_; refine k2 l5Turn_ok ?_) | (refine rD (id := 13) anyW [18] ?_; refine rP 0 false fun _ => ?_; refine rP 1 false fun _ => ?_; refine rP 2 false fun _ => ?_; refine rP 3 false fun _ => ?_; refine rP 4 false fun _ => ?_; refine rP 5 false fun _ => ?_; refine rP 6 true fun _ => ?_; refine rP 7 false fun _ => ?_; refine rP 8 false fun _ => ?_; refine rP 9 false fun _ => ?_; refine rP 10 false fun _ => ?_; refine rP 11 false fun _ => ?_; refine rP 12 false fun _ => ?_; refine rP 13 false fun _ => ?_; refine rP 14 true fun _ => ?_; refine rP 15 false fun _ => ?_; refine rP 16 false fun _ => ?_; refine rO 17 fun _ _ _ _ _ => ?_; refine sX fun _ => ?_; refine rO 18 fun _ _ _ _ _ => ?_; refine sX fun _ => ?_; refine rP 19 false fun _ => ?_; refine rE ?_) | refine zI ?_ ?_ | (intro hb; (try simp [-List.getD_eq_getElem?_getD] at hb); (try (exfalso; omega))))
  (refine gR 10 2000000 ?_)
  refine W.iter (fun k => ⟨76, [(0, .pd (encI .u8 b)), (3, .sl 2000000 0 k), (4, .pl (.int .i64 k))], [(2000000, .c 1 (encI .i64 (words0 b k)))], []⟩) (fun k => True) (16) (Weak.to (by first | rfl | (simp only [virtAt_n]; rfl)) ?s3 ?b3 (by exact dfe)) ?h3 (fun k hk hH => ?body3)
  (try case' s3 => first | exact to1 | (simp +decide only [go_sem]; (try simp (disch := first | exact ds | fail) only [go_sem, Nat.reduceAdd, Nat.reduceMul, Nat.reduceSub, Int.reduceToNat, Int.reduceNeg, Nat.reduceLeDiff, hD]); (try simp only [SV.pl.injEq, SV.sl.injEq, Value.int.injEq, Bk.c.injEq, encI_inj, true_and]); (try omega))); (try case' b3 => first | exact to1 | (simp +decide only [go_sem]; (try simp (disch := first | exact ds | fail) only [go_sem, Nat.reduceAdd, Nat.reduceMul, Nat.reduceSub, Int.reduceToNat, Int.reduceNeg, Nat.reduceLeDiff, hD]); (try simp only [SV.pl.injEq, SV.sl.injEq, Value.int.injEq, Bk.c.injEq, encI_inj, true_and]); (try omega))); (try case' h3 => first | exact to1 | (simp +decide only [go_sem]; (try simp (disch := first | exact ds | fail) only [go_sem, Nat.reduceAdd, Nat.reduceMul, Nat.reduceSub, Int.reduceToNat, Int.reduceNeg, Nat.reduceLeDiff, hD]); (try simp only [SV.pl.injEq, SV.sl.injEq, Value.int.injEq, Bk.c.injEq, encI_inj, true_and]); (try omega)))
  have f1 : (4 * (k : Int)).toNat = 4 * k := by omega
  have f2 : (4 * (k : Int) + 4).toNat = 4 * k + 4 := by omega
  have f3 : 4 * k + 4 - 4 * k = 4 := by omega
  have hD := And.intro (f1) (And.intro (f2) (And.intro (f3) (And.intro @encI_one (And.intro @encI_append (@words0_length)))))
  repeat' (first | apply W.seq | apply W.skip | apply W.region | apply W.block | apply N.code | apply N.blk | apply Sl.nil | apply W.exit | apply W.ret | apply E.hit | apply E.code | apply E.fin | refine zM ?_ | apply O.i | refine sP ?_ | refine sQ fun _ => ?_ | refine sX fun _ => ?_ | (refine k1 false [] c225 ?_; refine k2 l5HighAt_ok ?_) | (refine k1 false [] c203 ?_; refine k2 l5Turn_ok ?_) | (refine rD (id := 13) anyW [18] ?_; refine rP 0 false fun _ => ?_; refine rP 1 false fun _ => ?_; refine rP 2 false fun _ => ?_; refine rP 3 false fun _ => ?_; refine rP 4 false fun _ => ?_; refine rP 5 false fun _ => ?_; refine rP 6 true fun _ => ?_; refine rP 7 false fun _ => ?_; refine rP 8 false fun _ => ?_; refine rP 9 false fun _ => ?_; refine rP 10 false fun _ => ?_; refine rP 11 false fun _ => ?_; refine rP 12 false fun _ => ?_; refine rP 13 false fun _ => ?_; refine rP 14 true fun _ => ?_; refine rP 15 false fun _ => ?_; refine rP 16 false fun _ => ?_; refine rO 17 fun _ _ _ _ _ => ?_; refine sX fun _ => ?_; refine rO 18 fun _ _ _ _ _ => ?_; refine sX fun _ => ?_; refine rP 19 false fun _ => ?_; refine rE ?_) | refine zI ?_ ?_ | (intro hb; (try simp [-List.getD_eq_getElem?_getD] at hb); (try (exfalso; omega))))
  · (refine N.fin ⟨by omega, ?h4, ?w4⟩; case' w4 => (refine eR 25 2000000 ?_; refine Weak.to (by first | rfl | (simp only [virtAt_n]; rfl)) ?s4 ?b4 (by exact dfe)))
    (try case' s4 => first | exact to1 | (simp +decide only [go_sem]; (try simp (disch := first | exact ds | fail) only [go_sem, Nat.reduceAdd, Nat.reduceMul, Nat.reduceSub, Int.reduceToNat, Int.reduceNeg, Nat.reduceLeDiff, hD]); (try simp only [SV.pl.injEq, SV.sl.injEq, Value.int.injEq, Bk.c.injEq, encI_inj, true_and]); (try omega))); (try case' b4 => first | exact to1 | (simp +decide only [go_sem]; (try simp (disch := first | exact ds | fail) only [go_sem, Nat.reduceAdd, Nat.reduceMul, Nat.reduceSub, Int.reduceToNat, Int.reduceNeg, Nat.reduceLeDiff, hD]); (try simp only [SV.pl.injEq, SV.sl.injEq, Value.int.injEq, Bk.c.injEq, encI_inj, true_and]); (try omega))); (try case' h4 => first | exact to1 | (simp +decide only [go_sem]; (try simp (disch := first | exact ds | fail) only [go_sem, Nat.reduceAdd, Nat.reduceMul, Nat.reduceSub, Int.reduceToNat, Int.reduceNeg, Nat.reduceLeDiff, hD]); (try simp only [SV.pl.injEq, SV.sl.injEq, Value.int.injEq, Bk.c.injEq, encI_inj, true_and]); (try omega)))
    exact words0_succ b k
  · obtain rfl : k = 16 := by omega
    rw [words0_words]
    refine W.iter (fun j => ⟨76, [(3, .sl 2000000 0 (16 + j)), (5, .pl (.int .i64 (16 + j : Nat)))], [(2000000, .c 1 (encI .i64 (words b j)))], []⟩) (fun j => True) (48) (Weak.to (by first | rfl | (simp only [virtAt_n]; rfl)) ?s5 ?b5 (by exact dfe)) ?h5 (fun j hj Hj => ?body5)
    (try case' s5 => first | exact to1 | (simp +decide only [go_sem]; (try simp (disch := first | exact ds | fail) only [go_sem, Nat.reduceAdd, Nat.reduceMul, Nat.reduceSub, Int.reduceToNat, Int.reduceNeg, Nat.reduceLeDiff, hD]); (try simp only [SV.pl.injEq, SV.sl.injEq, Value.int.injEq, Bk.c.injEq, encI_inj, true_and]); (try omega))); (try case' b5 => first | exact to1 | (simp +decide only [go_sem]; (try simp (disch := first | exact ds | fail) only [go_sem, Nat.reduceAdd, Nat.reduceMul, Nat.reduceSub, Int.reduceToNat, Int.reduceNeg, Nat.reduceLeDiff, hD]); (try simp only [SV.pl.injEq, SV.sl.injEq, Value.int.injEq, Bk.c.injEq, encI_inj, true_and]); (try omega))); (try case' h5 => first | exact to1 | (simp +decide only [go_sem]; (try simp (disch := first | exact ds | fail) only [go_sem, Nat.reduceAdd, Nat.reduceMul, Nat.reduceSub, Int.reduceToNat, Int.reduceNeg, Nat.reduceLeDiff, hD]); (try simp only [SV.pl.injEq, SV.sl.injEq, Value.int.injEq, Bk.c.injEq, encI_inj, true_and]); (try omega)))
    have g15 : (((16 + j : Nat) : Int) - 15).toNat = 16 + j - 15 := by omega
    have g2 : (((16 + j : Nat) : Int) - 2).toNat = 16 + j - 2 := by omega
    have g7 : (((16 + j : Nat) : Int) - 7).toNat = 16 + j - 7 := by omega
    have g16 : (((16 + j : Nat) : Int) - 16).toNat = 16 + j - 16 := by omega
    have hwl := words_length b j
    have hw := words_WL ho j
    obtain ⟨a, ha⟩ : ∃ a, a = (words b j).getD (16 + j - 15) 0 := ⟨_, rfl⟩
    obtain ⟨c, hc⟩ : ∃ c, c = (words b j).getD (16 + j - 2) 0 := ⟨_, rfl⟩
    obtain ⟨u, hu⟩ : ∃ u, u = (words b j).getD (16 + j - 7) 0 := ⟨_, rfl⟩
    obtain ⟨y, hy⟩ : ∃ y, y = (words b j).getD (16 + j - 16) 0 := ⟨_, rfl⟩
    have Wa : W32 a := ha ▸ hw _
    have Wc : W32 c := hc ▸ hw _
    have bu := Wf (hu ▸ hw (16 + j - 7))
    have by' := Wf (hy ▸ hw (16 + j - 16))
    have ba := Wf Wa
    have bc := Wf Wc
    have w1 : W32 (rr a 7) := W_rr Wa (by omega) (by omega)
    have w2 : W32 (rr a 18) := W_rr Wa (by omega) (by omega)
    have w3 : W32 (rr c 17) := W_rr Wc (by omega) (by omega)
    have w4 : W32 (rr c 19) := W_rr Wc (by omega) (by omega)
    have w5 := W_xr w1 w2
    have w6 := W_xr w3 w4
    have w7 : W32 (a / 8) := W_div Wa (by omega)
    have w8 : W32 (c / 1024) := W_div Wc (by omega)
    have bd7 := Wf w7
    have bd8 := Wf w8
    obtain ⟨s0, hs0⟩ : ∃ s, s = xr (xr (rr a 7) (rr a 18)) (a / 8) := ⟨_, rfl⟩
    obtain ⟨s1, hs1⟩ : ∃ s, s = xr (xr (rr c 17) (rr c 19)) (c / 1024) := ⟨_, rfl⟩
    have bs0 := Wf (hs0 ▸ W_xr w5 w7)
    have bs1 := Wf (hs1 ▸ W_xr w6 w8)
    have e1 : words b (j + 1) = words b j ++ [(s1 + u + s0 + y) % 4294967296] := by
      rw [words_succ, hs0, hs1, ha, hc, hu, hy]
      rfl
    have hD := And.intro (g15) (And.intro (g2) (And.intro (g7) (And.intro (g16) (And.intro (hwl) (And.intro (ha.symm) (And.intro (hc.symm) (And.intro (hu.symm) (And.intro (hy.symm) (And.intro (hs0.symm) (And.intro (hs1.symm) (And.intro @x64 (And.intro @td_nat (And.intro @tm32 (And.intro @encI_one (@encI_append)))))))))))))))
    repeat' (first | apply W.seq | apply W.skip | apply W.region | apply W.block | apply N.code | apply N.blk | apply Sl.nil | apply W.exit | apply W.ret | apply E.hit | apply E.code | apply E.fin | refine zM ?_ | apply O.i | refine sP ?_ | refine sQ fun _ => ?_ | refine sX fun _ => ?_ | (refine k1 false [] c225 ?_; refine k2 l5HighAt_ok ?_) | (refine k1 false [] c203 ?_; refine k2 l5Turn_ok ?_) | (refine rD (id := 13) anyW [18] ?_; refine rP 0 false fun _ => ?_; refine rP 1 false fun _ => ?_; refine rP 2 false fun _ => ?_; refine rP 3 false fun _ => ?_; refine rP 4 false fun _ => ?_; refine rP 5 false fun _ => ?_; refine rP 6 true fun _ => ?_; refine rP 7 false fun _ => ?_; refine rP 8 false fun _ => ?_; refine rP 9 false fun _ => ?_; refine rP 10 false fun _ => ?_; refine rP 11 false fun _ => ?_; refine rP 12 false fun _ => ?_; refine rP 13 false fun _ => ?_; refine rP 14 true fun _ => ?_; refine rP 15 false fun _ => ?_; refine rP 16 false fun _ => ?_; refine rO 17 fun _ _ _ _ _ => ?_; refine sX fun _ => ?_; refine rO 18 fun _ _ _ _ _ => ?_; refine sX fun _ => ?_; refine rP 19 false fun _ => ?_; refine rE ?_) | refine zI ?_ ?_ | (intro hb; (try simp [-List.getD_eq_getElem?_getD] at hb); (try (exfalso; omega))))
    · (refine N.fin ⟨by omega, ?h6, ?w6⟩; case' w6 => (refine eR 74 2000000 ?_; refine Weak.to (by first | rfl | (simp only [virtAt_n]; rfl)) ?s6 ?b6 (by exact dfe)))
      (try case' s6 => first | exact to1 | (simp +decide only [go_sem]; (try simp (disch := first | exact ds | fail) only [go_sem, Nat.reduceAdd, Nat.reduceMul, Nat.reduceSub, Int.reduceToNat, Int.reduceNeg, Nat.reduceLeDiff, hD]); (try simp only [SV.pl.injEq, SV.sl.injEq, Value.int.injEq, Bk.c.injEq, encI_inj, true_and]); (try omega))); (try case' b6 => first | exact to1 | (simp +decide only [go_sem]; (try simp (disch := first | exact ds | fail) only [go_sem, Nat.reduceAdd, Nat.reduceMul, Nat.reduceSub, Int.reduceToNat, Int.reduceNeg, Nat.reduceLeDiff, hD]); (try simp only [SV.pl.injEq, SV.sl.injEq, Value.int.injEq, Bk.c.injEq, encI_inj, true_and]); (try omega))); (try case' h6 => first | exact to1 | (simp +decide only [go_sem]; (try simp (disch := first | exact ds | fail) only [go_sem, Nat.reduceAdd, Nat.reduceMul, Nat.reduceSub, Int.reduceToNat, Int.reduceNeg, Nat.reduceLeDiff, hD]); (try simp only [SV.pl.injEq, SV.sl.injEq, Value.int.injEq, Bk.c.injEq, encI_inj, true_and]); (try omega)))
      rw [e1]
    · obtain rfl : j = 48 := by omega
      exact rT
end Go.Proofs.Ytnancifnodbkdaa

