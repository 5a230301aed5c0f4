import Derived.Test.YtfmbifnbmlhhjaaA10
import Derived.Test.YtfmbifnbmlhhjaaUc
namespace Go.Proofs.Ytfmbifnbmlhhjaa
open Go Go.Vcg Go.IntWalk
set_option maxRecDepth 100000
set_option maxHeartbeats 20000000
set_option linter.unusedSimpArgs false
set_option linter.unusedVariables false
theorem c82 : CallOk Try.prog 82 := ⟨_, Try.func82, rfl, by kernel_rfl⟩
theorem c83 : CallOk Try.prog 83 := ⟨_, Try.func83, rfl, by kernel_rfl⟩
theorem c146 : CallOk Try.prog 146 := ⟨_, Try.func146, rfl, by kernel_rfl⟩
theorem c84 : CallOk Try.prog 84 := ⟨_, Try.func84, rfl, by kernel_rfl⟩
theorem nSnoc {α : Type} (d : α) (l : List α) (k : Nat) (h : k < l.length) : l.take k ++ [l.getD k d] = l.take (k + 1) := by
  rw [List.take_succ_eq_append_getElem h, List.getD_eq_getElem?_getD, List.getElem?_eq_getElem h, Option.getD_some]
theorem nWrap {x : Int} (h0 : 0 ≤ x) (h : x < 2 ^ 62) : IntKind.i64.wrap x = x := by
  simp only [IntKind.wrap, IntKind.signed, IntKind.bits]
  simp
  omega
/-- Bytes, the lowest first. -/
def leN : List Int → Nat
  | [] => 0
  | x :: xs => x.toNat + 256 * leN xs
theorem leN_snoc (xs : List Int) (y : Int) : leN (xs ++ [y]) = leN xs + 256 ^ xs.length * y.toNat := by
  induction xs with
  | nil => simp [leN]
  | cons x xs ih =>
    rw [List.cons_append, leN, ih, leN, List.length_cons, Nat.pow_succ, Nat.mul_add, Nat.add_assoc, ← Nat.mul_assoc, Nat.mul_comm 256 (256 ^ xs.length)]
theorem leN_lt (xs : List Int) (h : okBytes xs) : leN xs < 256 ^ xs.length := by
  induction xs with
  | nil => simp [leN]
  | cons x xs ih =>
    have h1 := ih fun y hy => h y (List.mem_cons_of_mem _ hy)
    have h2 := h x (List.mem_cons_self ..)
    rw [leN, List.length_cons, Nat.pow_succ]
    omega
theorem leN_take (xs : List Int) (k : Nat) (h : k < xs.length) : leN (xs.take (k + 1)) = leN (xs.take k) + 256 ^ k * (xs.getD k 0).toNat := by
  rw [← nSnoc 0 xs k h, leN_snoc, List.length_take, Nat.min_eq_left (by omega)]
theorem leN_drop (xs : List Int) (k : Nat) (h : k < xs.length) : leN (xs.drop k) = (xs.getD k 0).toNat + 256 * leN (xs.drop (k + 1)) := by
  rw [List.drop_eq_getElem_cons h, leN, List.getD_eq_getElem?_getD, List.getElem?_eq_getElem h, Option.getD_some]
/-- What numberAt reads: eight bytes may make it negative. -/
def numI (xs : List Int) : Int := IntKind.i64.wrap (leN xs)
theorem pow256_le (a b : Nat) (h : a ≤ b) : 256 ^ a ≤ 256 ^ b := Nat.pow_le_pow_right (by omega) h
theorem l2Low_ok {xs : List Int} (h : okBytes xs := by exact pm) (hl : xs.length ≤ 7 := by exact pm) : TSpec Try.prog 82 [] [.pd (encI .u8 xs)] false [] (.pl (.int .i64 (leN xs))) := by
  have hD := dN0
  refine sT 21 [.tmp 2] Try.func82 fun w0 S0 ρ0 φ0 => ?_
  repeat' (first | apply W.seq | apply W.skip | apply W.region | apply W.block | apply N.code | apply N.blk | apply Sl.nil | apply W.exit | apply W.ret | apply E.hit | apply E.code | apply E.fin | refine zM ?_ | apply O.i | refine sP ?_ | refine sQ fun _ => ?_ | refine zI ?_ ?_ | (intro hb; (try simp [-List.getD_eq_getElem?_getD] at hb); (try (exfalso; omega))))
  refine W.iter (fun k => ⟨21, [(0, .pd (encI .u8 xs)), (3, .pl (.int .i64 (leN (xs.drop (xs.length - k))))), (4, .pl (.int .i64 ((xs.length : Int) - 1 - k)))], [], []⟩) (fun k => True) (xs.length) (Weak.to (by first | rfl | (simp only [virtAt_n, virt_n]; rfl)) ?s1 ?b1 (by exact dfe)) ?h1 (fun k hk hH => ?body1)
  (try case' s1 => first | exact to1 | (simp +decide only [go_sem]; (try simp (disch := first | exact ds | fail) only [go_sem, Nat.reduceAdd, Nat.reduceMul, Nat.reduceSub, Int.reduceToNat, Int.reduceNeg, Nat.reduceLeDiff, hD]); (try simp only [SV.pl.injEq, SV.sl.injEq, Value.int.injEq, Bk.c.injEq, encI_inj, true_and]); (try omega))); (try case' b1 => first | exact to1 | (simp +decide only [go_sem]; (try simp (disch := first | exact ds | fail) only [go_sem, Nat.reduceAdd, Nat.reduceMul, Nat.reduceSub, Int.reduceToNat, Int.reduceNeg, Nat.reduceLeDiff, hD]); (try simp only [SV.pl.injEq, SV.sl.injEq, Value.int.injEq, Bk.c.injEq, encI_inj, true_and]); (try omega))); (try case' h1 => first | exact to1 | (simp +decide only [go_sem]; (try simp (disch := first | exact ds | fail) only [go_sem, Nat.reduceAdd, Nat.reduceMul, Nat.reduceSub, Int.reduceToNat, Int.reduceNeg, Nat.reduceLeDiff, hD]); (try simp only [SV.pl.injEq, SV.sl.injEq, Value.int.injEq, Bk.c.injEq, encI_inj, true_and]); (try omega)))
  · rw [List.drop_of_length_le (Nat.le_refl _)]
    exact ⟨rfl, by omega⟩
  have hix : ((xs.length : Int) - 1 - k).toNat = xs.length - 1 - k := by omega
  have hD := (hix)
  repeat' (first | apply W.seq | apply W.skip | refine W.region (id := 0) ?_ | refine W.region (id := 1) ?_ | refine W.region (id := 2) ?_ | refine W.region (id := 3) ?_ | refine W.region (id := 4) ?_ | refine W.region (id := 6) ?_ | apply W.block | apply N.code | apply N.blk | apply Sl.nil | apply W.exit | apply W.ret | apply E.hit | apply E.code | apply E.fin | refine zM ?_ | apply O.i | refine sP ?_ | refine sQ fun _ => ?_ | refine zI ?_ ?_ | (intro hb; (try simp [-List.getD_eq_getElem?_getD] at hb); (try (exfalso; omega))))
  · have hod : okBytes (xs.drop (xs.length - k)) := fun x hx => h x (List.mem_of_mem_drop hx)
    have hlt := leN_lt _ hod
    rw [List.length_drop] at hlt
    have hp := pow256_le (xs.length - (xs.length - k)) 6 (by omega)
    have hst := leN_drop xs (xs.length - 1 - k) (by omega)
    rw [show xs.length - 1 - k + 1 = xs.length - k by omega] at hst
    have hby := okBytes_getD h (xs.length - 1 - k) (by omega)
    obtain ⟨v, hv⟩ : ∃ v, v = leN (xs.drop (xs.length - k)) := ⟨_, rfl⟩
    rw [← hv] at hst hlt ⊢
    have hv6 : v < 281474976710656 := by omega
    repeat' (first | apply W.seq | apply W.skip | apply W.region | apply W.block | apply N.code | apply N.blk | apply Sl.nil | apply W.exit | apply W.ret | apply E.hit | apply E.code | apply E.fin | refine zM ?_ | apply O.i | refine sP ?_ | refine sQ fun _ => ?_ | refine zI ?_ ?_ | (intro hb; (try simp [-List.getD_eq_getElem?_getD] at hb); (try (exfalso; omega))))
    (refine N.fin ⟨by omega, ?h2, ?w2⟩; case' w2 => (refine Weak.to (by first | rfl | (simp only [virtAt_n, virt_n]; rfl)) ?s2 ?b2 (by exact dfe)))
    (try case' s2 => first | exact to1 | (simp +decide only [go_sem]; (try simp (disch := first | exact ds | fail) only [go_sem, Nat.reduceAdd, Nat.reduceMul, Nat.reduceSub, Int.reduceToNat, Int.reduceNeg, Nat.reduceLeDiff, hD]); (try simp only [SV.pl.injEq, SV.sl.injEq, Value.int.injEq, Bk.c.injEq, encI_inj, true_and]); (try omega))); (try case' b2 => first | exact to1 | (simp +decide only [go_sem]; (try simp (disch := first | exact ds | fail) only [go_sem, Nat.reduceAdd, Nat.reduceMul, Nat.reduceSub, Int.reduceToNat, Int.reduceNeg, Nat.reduceLeDiff, hD]); (try simp only [SV.pl.injEq, SV.sl.injEq, Value.int.injEq, Bk.c.injEq, encI_inj, true_and]); (try omega))); (try case' h2 => first | exact to1 | (simp +decide only [go_sem]; (try simp (disch := first | exact ds | fail) only [go_sem, Nat.reduceAdd, Nat.reduceMul, Nat.reduceSub, Int.reduceToNat, Int.reduceNeg, Nat.reduceLeDiff, hD]); (try simp only [SV.pl.injEq, SV.sl.injEq, Value.int.injEq, Bk.c.injEq, encI_inj, true_and]); (try omega)))
    rw [show xs.length - (k + 1) = xs.length - 1 - k by omega, hst]
    omega
  obtain rfl : k = xs.length := by omega
  rw [Nat.sub_self, List.drop_zero]
  exact rT
theorem l2Same_ok {xs ys : List Int} (h : xs.length < 2 ^ 40 := by exact pm) : TSpec Try.prog 83 [] [.pd (encI .u8 xs), .pd (encI .u8 ys)] false [] (.pl (.bool (decide (xs = ys)))) := by
  have hD := dN0
  have hD := dN0
  refine sT 26 [.tmp 4] Try.func83 fun w0 S0 ρ0 φ0 => ?_
  repeat' (first | apply W.seq | apply W.skip | apply W.region | apply W.block | apply N.code | apply N.blk | apply Sl.nil | apply W.exit | apply W.ret | apply E.hit | apply E.code | apply E.fin | refine zM ?_ | apply O.i | refine sP ?_ | refine sQ fun _ => ?_ | (refine rD (id := 6) anyW [] ?_; refine rP 0 false fun _ => ?_; refine rP 1 false fun _ => ?_; refine rP 2 false fun _ => ?_; refine rP 3 true fun _ => ?_; refine rP 4 false fun _ => ?_; refine rP 5 false fun _ => ?_; refine rP 6 false fun _ => ?_; refine rP 7 true fun _ => ?_; refine rP 8 false fun _ => ?_; refine rE ?_) | refine zI ?_ ?_ | (intro hb; (try simp [-List.getD_eq_getElem?_getD] at hb); (try (exfalso; omega))))
  · have hne : decide (xs = ys) = false := decide_eq_false fun e => hb (by rw [e])
    rw [hne]
    exact rT
  · refine W.iter (fun k => ⟨26, [(0, .pd (encI .u8 xs)), (1, .pd (encI .u8 ys)), (5, .pl (.int .i64 k))], [], []⟩) (fun k => xs.take k = ys.take k) (xs.length) (Weak.to (by first | rfl | (simp only [virtAt_n, virt_n]; rfl)) ?s3 ?b3 (by exact dfe)) ?h3 (fun k hk hH => ?body3)
    (try case' s3 => first | exact to1 | (simp +decide only [go_sem]; (try simp (disch := first | exact ds | fail) only [go_sem, Nat.reduceAdd, Nat.reduceMul, Nat.reduceSub, Int.reduceToNat, Int.reduceNeg, Nat.reduceLeDiff, hD]); (try simp only [SV.pl.injEq, SV.sl.injEq, Value.int.injEq, Bk.c.injEq, encI_inj, true_and]); (try omega))); (try case' b3 => first | exact to1 | (simp +decide only [go_sem]; (try simp (disch := first | exact ds | fail) only [go_sem, Nat.reduceAdd, Nat.reduceMul, Nat.reduceSub, Int.reduceToNat, Int.reduceNeg, Nat.reduceLeDiff, hD]); (try simp only [SV.pl.injEq, SV.sl.injEq, Value.int.injEq, Bk.c.injEq, encI_inj, true_and]); (try omega))); (try case' h3 => first | exact to1 | (simp +decide only [go_sem]; (try simp (disch := first | exact ds | fail) only [go_sem, Nat.reduceAdd, Nat.reduceMul, Nat.reduceSub, Int.reduceToNat, Int.reduceNeg, Nat.reduceLeDiff, hD]); (try simp only [SV.pl.injEq, SV.sl.injEq, Value.int.injEq, Bk.c.injEq, encI_inj, true_and]); (try omega)))
    repeat' (first | apply W.seq | apply W.skip | apply W.region | apply W.block | apply N.code | apply N.blk | apply Sl.nil | apply W.exit | apply W.ret | apply E.hit | apply E.code | apply E.fin | refine zM ?_ | apply O.i | refine sP ?_ | refine sQ fun _ => ?_ | (refine rD (id := 6) anyW [] ?_; refine rP 0 false fun _ => ?_; refine rP 1 false fun _ => ?_; refine rP 2 false fun _ => ?_; refine rP 3 true fun _ => ?_; refine rP 4 false fun _ => ?_; refine rP 5 false fun _ => ?_; refine rP 6 false fun _ => ?_; refine rP 7 true fun _ => ?_; refine rP 8 false fun _ => ?_; refine rE ?_) | refine zI ?_ ?_ | (intro hb; (try simp [-List.getD_eq_getElem?_getD] at hb); (try (exfalso; omega))))
    · have hne : decide (xs = ys) = false := decide_eq_false fun e => hb (by rw [e])
      rw [hne]
      exact rT
    · (refine N.fin ⟨by omega, ?h4, ?w4⟩; case' w4 => (refine Weak.to (by first | rfl | (simp only [virtAt_n, virt_n]; rfl)) ?s4 ?b4 (by exact dfe)))
      (try case' s4 => first | exact to1 | (simp +decide only [go_sem]; (try simp (disch := first | exact ds | fail) only [go_sem, Nat.reduceAdd, Nat.reduceMul, Nat.reduceSub, Int.reduceToNat, Int.reduceNeg, Nat.reduceLeDiff, hD]); (try simp only [SV.pl.injEq, SV.sl.injEq, Value.int.injEq, Bk.c.injEq, encI_inj, true_and]); (try omega))); (try case' b4 => first | exact to1 | (simp +decide only [go_sem]; (try simp (disch := first | exact ds | fail) only [go_sem, Nat.reduceAdd, Nat.reduceMul, Nat.reduceSub, Int.reduceToNat, Int.reduceNeg, Nat.reduceLeDiff, hD]); (try simp only [SV.pl.injEq, SV.sl.injEq, Value.int.injEq, Bk.c.injEq, encI_inj, true_and]); (try omega))); (try case' h4 => first | exact to1 | (simp +decide only [go_sem]; (try simp (disch := first | exact ds | fail) only [go_sem, Nat.reduceAdd, Nat.reduceMul, Nat.reduceSub, Int.reduceToNat, Int.reduceNeg, Nat.reduceLeDiff, hD]); (try simp only [SV.pl.injEq, SV.sl.injEq, Value.int.injEq, Bk.c.injEq, encI_inj, true_and]); (try omega)))
      exact take_eq_step 0 xs ys k (by omega) (by omega) hH (by simpa using hb)
    · rw [decide_eq_true (take_all_eq hH (by omega) (by omega))]
      exact rT
theorem ofInt_wrap (x : Int) : BitVec.ofInt 64 (IntKind.i64.wrap x) = BitVec.ofInt 64 x := by
  apply BitVec.eq_of_toInt_eq
  simp only [BitVec.toInt_ofInt, IntKind.wrap, IntKind.signed, IntKind.bits]
  simp only [Int.bmod]
  simp
  omega
theorem or_step (A b k : Nat) (hA : A < 256 ^ k) (hb : b < 256) (hk : k ≤ 7) : bits .or .i64 (IntKind.i64.wrap A) (IntKind.i64.wrap ((b : Int) * 2 ^ min (8 * k) 64)) = IntKind.i64.wrap ((A + 256 ^ k * b : Nat) : Int) := by
  show IntKind.i64.wrap ((BitVec.ofInt 64 (IntKind.i64.wrap A) ||| BitVec.ofInt 64 (IntKind.i64.wrap ((b : Int) * 2 ^ min (8 * k) 64))).toNat : Int) = _
  rw [ofInt_wrap, ofInt_wrap]
  have h2 : (256 : Nat) ^ k = 2 ^ (8 * k) := by rw [show (256 : Nat) = 2 ^ 8 from rfl, ← Nat.pow_mul]
  have h3 : ((b : Int) * 2 ^ min (8 * k) 64) = ((2 ^ (8 * k) * b : Nat) : Int) := by rw [show min (8 * k) 64 = 8 * k by omega, Int.natCast_mul, Int.mul_comm]; simp
  have h4 : 2 ^ (8 * k) ≤ 2 ^ 56 := Nat.pow_le_pow_right (by omega) (by omega)
  have h5 : 2 ^ (8 * k) * b ≤ 2 ^ (8 * k) * 255 := Nat.mul_le_mul_left _ (by omega)
  rw [h2] at hA
  rw [h3, h2, BitVec.ofInt_natCast, BitVec.ofInt_natCast, BitVec.toNat_or, BitVec.toNat_ofNat, BitVec.toNat_ofNat, Nat.mod_eq_of_lt (by omega), Nat.mod_eq_of_lt (by omega)]
  have := Nat.shiftLeft_add_eq_or_of_lt hA b
  rw [Nat.shiftLeft_eq, Nat.mul_comm b] at this
  rw [Nat.or_comm, ← this, Nat.add_comm]
theorem numberAt_ok {xs : List Int} (h : okBytes xs := by exact pm) (hl : xs.length ≤ 8 := by exact pm) : TSpec Try.prog 146 [] [.pd (encI .u8 xs)] false [] (.pl (.int .i64 (numI xs))) := by
  have hD := dN0
  refine sT 22 [.tmp 2] Try.func146 fun w0 S0 ρ0 φ0 => ?_
  repeat' (first | apply W.seq | apply W.skip | apply W.region | apply W.block | apply N.code | apply N.blk | apply Sl.nil | apply W.exit | apply W.ret | apply E.hit | apply E.code | apply E.fin | refine zM ?_ | apply O.i | refine sP ?_ | refine sQ fun _ => ?_ | refine zI ?_ ?_ | (intro hb; (try simp [-List.getD_eq_getElem?_getD] at hb); (try (exfalso; omega))))
  refine W.iter (fun k => ⟨22, [(6, .pd (encI .u8 xs)), (3, .pl (.int .i64 (IntKind.i64.wrap (leN (xs.take k))))), (7, .pl (.int .i64 xs.length)), (8, .pl (.int .i64 k))], [], []⟩) (fun k => True) (xs.length) (Weak.to (by first | rfl | (simp only [virtAt_n, virt_n]; rfl)) ?s5 ?b5 (by exact dfe)) ?h5 (fun k hk hH => ?body5)
  (try case' s5 => first | exact to1 | (simp +decide only [go_sem]; (try simp (disch := first | exact ds | fail) only [go_sem, Nat.reduceAdd, Nat.reduceMul, Nat.reduceSub, Int.reduceToNat, Int.reduceNeg, Nat.reduceLeDiff, hD]); (try simp only [SV.pl.injEq, SV.sl.injEq, Value.int.injEq, Bk.c.injEq, encI_inj, true_and]); (try omega))); (try case' b5 => first | exact to1 | (simp +decide only [go_sem]; (try simp (disch := first | exact ds | fail) only [go_sem, Nat.reduceAdd, Nat.reduceMul, Nat.reduceSub, Int.reduceToNat, Int.reduceNeg, Nat.reduceLeDiff, hD]); (try simp only [SV.pl.injEq, SV.sl.injEq, Value.int.injEq, Bk.c.injEq, encI_inj, true_and]); (try omega))); (try case' h5 => first | exact to1 | (simp +decide only [go_sem]; (try simp (disch := first | exact ds | fail) only [go_sem, Nat.reduceAdd, Nat.reduceMul, Nat.reduceSub, Int.reduceToNat, Int.reduceNeg, Nat.reduceLeDiff, hD]); (try simp only [SV.pl.injEq, SV.sl.injEq, Value.int.injEq, Bk.c.injEq, encI_inj, true_and]); (try omega)))
  · rfl
  repeat' (first | apply W.seq | apply W.skip | refine W.region (id := 0) ?_ | refine W.region (id := 1) ?_ | refine W.region (id := 2) ?_ | refine W.region (id := 3) ?_ | refine W.region (id := 5) ?_ | refine W.region (id := 6) ?_ | refine W.region (id := 7) ?_ | apply W.block | apply N.code | apply N.blk | apply Sl.nil | apply W.exit | apply W.ret | apply E.hit | apply E.code | apply E.fin | refine zM ?_ | apply O.i | refine sP ?_ | refine sQ fun _ => ?_ | refine zI ?_ ?_ | (intro hb; (try simp [-List.getD_eq_getElem?_getD] at hb); (try (exfalso; omega))))
  · have hby := okBytes_getD h k (by omega)
    have hlt := leN_lt _ (okBytes_take h k)
    rw [List.length_take, Nat.min_eq_left hk] at hlt
    have hst := leN_take xs k hb
    obtain ⟨c, hc⟩ : ∃ c : Nat, xs.getD k 0 = (c : Int) := ⟨(xs.getD k 0).toNat, by omega⟩
    have hor := or_step (leN (xs.take k)) c k hlt (by omega) (by omega)
    rw [hc, Int.toNat_natCast] at hst
    have e8 : (8 * (k : Int)).toNat = 8 * k := by omega
    have ew : IntKind.i64.wrap (c : Int) = c := nWrap (by omega) (by omega)
    have hD := And.intro (hc) (And.intro (e8) (And.intro (ew) ((hor))))
    repeat' (first | apply W.seq | apply W.skip | apply W.region | apply W.block | apply N.code | apply N.blk | apply Sl.nil | apply W.exit | apply W.ret | apply E.hit | apply E.code | apply E.fin | refine zM ?_ | apply O.i | refine sP ?_ | refine sQ fun _ => ?_ | refine zI ?_ ?_ | (intro hb; (try simp [-List.getD_eq_getElem?_getD] at hb); (try (exfalso; omega))))
    (refine N.fin ⟨by omega, ?h6, ?w6⟩; case' w6 => (refine Weak.to (by first | rfl | (simp only [virtAt_n, virt_n]; rfl)) ?s6 ?b6 (by exact dfe)))
    (try case' s6 => first | exact to1 | (simp +decide only [go_sem]; (try simp (disch := first | exact ds | fail) only [go_sem, Nat.reduceAdd, Nat.reduceMul, Nat.reduceSub, Int.reduceToNat, Int.reduceNeg, Nat.reduceLeDiff, hD]); (try simp only [SV.pl.injEq, SV.sl.injEq, Value.int.injEq, Bk.c.injEq, encI_inj, true_and]); (try omega))); (try case' b6 => first | exact to1 | (simp +decide only [go_sem]; (try simp (disch := first | exact ds | fail) only [go_sem, Nat.reduceAdd, Nat.reduceMul, Nat.reduceSub, Int.reduceToNat, Int.reduceNeg, Nat.reduceLeDiff, hD]); (try simp only [SV.pl.injEq, SV.sl.injEq, Value.int.injEq, Bk.c.injEq, encI_inj, true_and]); (try omega))); (try case' h6 => first | exact to1 | (simp +decide only [go_sem]; (try simp (disch := first | exact ds | fail) only [go_sem, Nat.reduceAdd, Nat.reduceMul, Nat.reduceSub, Int.reduceToNat, Int.reduceNeg, Nat.reduceLeDiff, hD]); (try simp only [SV.pl.injEq, SV.sl.injEq, Value.int.injEq, Bk.c.injEq, encI_inj, true_and]); (try omega)))
    rw [hst]
    exact ⟨rfl, by omega⟩
  unfold numI
  exact rT
theorem l1Bytes_ok {xs : List Int} (h : xs.length < 2 ^ 40 := by exact pm) : TSpec Try.prog 84 [] [.pd (encI .u8 xs)] false [] (.ow 1 (encI .u8 xs)) := by
  have hD := dN0
  refine sT 8 [.tmp 2] Try.func84 fun w0 S0 ρ0 φ0 => ?_
  repeat' (first | apply W.seq | apply W.skip | apply W.region | apply W.block | apply N.code | apply N.blk | apply Sl.nil | apply W.exit | apply W.ret | apply E.hit | apply E.code | apply E.fin | refine zM ?_ | apply O.i | refine sP ?_ | refine sQ fun _ => ?_ | refine sX fun _ => ?_ | refine zI ?_ ?_ | (intro hb; (try simp [-List.getD_eq_getElem?_getD] at hb); (try (exfalso; omega))))
  exact rT
end Go.Proofs.Ytfmbifnbmlhhjaa

