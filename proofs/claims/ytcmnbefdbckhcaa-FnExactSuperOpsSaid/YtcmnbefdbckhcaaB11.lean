import Derived.Test.YtcmnbefdbckhcaaB10
namespace Go.Proofs.Ytcmnbefdbckhcaa
open Go Go.Vcg Go.IntWalk
set_option maxRecDepth 100000
set_option maxHeartbeats 4000000
set_option linter.unusedSimpArgs false
set_option linter.unusedVariables false

theorem c76 : CallOk Try.prog 76 := ⟨_, Try.func76, rfl, by kernel_rfl⟩
theorem c132 : CallOk Try.prog 132 := ⟨_, Try.func132, rfl, by kernel_rfl⟩
theorem c87 : CallOk Try.prog 87 := ⟨_, Try.func87, rfl, by kernel_rfl⟩
theorem c135 : CallOk Try.prog 135 := ⟨_, Try.func135, rfl, by kernel_rfl⟩
theorem c91 : CallOk Try.prog 91 := ⟨_, Try.func91, rfl, by kernel_rfl⟩
theorem c93 : CallOk Try.prog 93 := ⟨_, Try.func93, rfl, by kernel_rfl⟩
theorem c140 : CallOk Try.prog 140 := ⟨_, Try.func140, rfl, by kernel_rfl⟩
theorem c83 : CallOk Try.prog 83 := ⟨_, Try.func83, rfl, by kernel_rfl⟩
theorem ovL_all (xs ys : List Int) (h : ys.length = xs.length) : ovL xs 0 ys = ys := by
  unfold ovL
  rw [List.take_zero, List.nil_append, Nat.zero_add, List.drop_of_length_le (by omega), List.append_nil]
theorem impCs_app (r : List SV) : ∀ (cs : List SV) (n : Nat), impCs n (cs ++ r) = ((impCs n cs).1 ++ (impCs (n + cs.length) r).1, (impCs n cs).2 ++ (impCs (n + cs.length) r).2)
  | [], n => rfl
  | c :: cs, n => by
    have ih := impCs_app r cs (n + 1)
    show ((impC n c).1 :: (impCs (n + 1) (cs ++ r)).1, (impC n c).2 ++ (impCs (n + 1) (cs ++ r)).2) = _
    rw [ih]
    simp only [impCs, List.cons_append, List.length_cons, List.append_assoc, Nat.add_assoc, Nat.add_comm 1]
theorem eA_imp (k : IntKind) (xs : List Int) (r : List SV) (n : Nat) : impCs n (encA k xs ++ r) = (encA k xs ++ (impCs (n + xs.length) r).1, (impCs (n + xs.length) r).2) := by
  rw [impCs_app, impCs_A, encA_length, List.nil_append]
theorem eA_chunks (k : IntKind) (xs : List Int) (r : List SV) (n : Nat) (h : n ≤ xs.length) : chunks (encA k xs ++ r) 1 n = encI k (xs.take n) := by
  rw [← chunks_A k xs n h]
  unfold chunks
  refine List.map_congr_left fun i hi => ?_
  have := List.mem_range.mp hi
  rw [List.drop_append_of_le_length (by rw [encA_length]; omega), List.take_append_of_le_length (by rw [List.length_drop, encA_length]; omega)]
attribute [go_sem] putAt_all lRep lApp ovL_all ovL_length eA_imp eA_chunks
structure H32 where
  l : List Int
  len : l.length = 32
  ok : okBytes l
theorem H32.ext' {a b : H32} (h : a.l = b.l) : a = b := by
  cases a
  cases b
  simp only at h
  subst h
  rfl
instance : DecidableEq H32 := fun a b => if h : a.l = b.l then .isTrue (H32.ext' h) else .isFalse fun e => h (by rw [e])
instance : Inhabited H32 := ⟨⟨List.replicate 32 0, by simp, okBytes_rep 32⟩⟩
attribute [go_sem, simp] H32.len
theorem okBytes_mark (b : Int) (n : Nat) : okBytes (markL .u8 b n) := fun x hx => by
  obtain ⟨i, _, rfl⟩ := List.mem_map.mp hx
  simp only [IntKind.wrap, IntKind.signed, IntKind.bits]
  exact ⟨Int.emod_nonneg _ (by decide), Int.emod_lt_of_pos _ (by decide)⟩
def mkH (b : Int) : H32 := ⟨markL .u8 b 32, markL_length .u8 b 32, okBytes_mark b 32⟩
def shaH (b : List Int) (h : okBytes b) : H32 := ⟨sha b, sha_length b, okBytes_sha b⟩
def hR (h : H32) : List SV := encA .u8 h.l
theorem hR_clo (xs : List H32) : cloRows (encL hR xs) = true := encL_clo _ (fun x => by simp [hR, encA_clo]) xs
theorem hR_shut (xs : List H32) : shutRows (encL hR xs) = true := encL_shut _ (fun x => by simp [hR, encA_shut]) xs
theorem hR_frz (xs : List H32) : frzRows (encL hR xs) = encL hR xs := encL_frz _ (fun x => by simp [hR, encA_frz]) xs
theorem hR_len (xs : List H32) : RowsLen (encL hR xs) 32 = True := encL_rowsLen hR (fun x => by simp [hR, encA_length]) xs
attribute [go_sem] hR hR_clo hR_shut hR_frz hR_len
structure PointA where
  Id : H32
  N : Int
  deriving DecidableEq, Inhabited
def fPoint (a : PointA) : List SV := encA .u8 a.Id.l ++ [.pl (.int .i64 a.N)]
theorem fPoint_clo (xs : List PointA) : cloRows (encL fPoint xs) = true := encL_clo _ (fun x => by simp [fPoint, cloRow_append, encA_clo]; rfl) xs
theorem fPoint_shut (xs : List PointA) : shutRows (encL fPoint xs) = true := encL_shut _ (fun x => by simp [fPoint, shutL_append, encA_shut]; rfl) xs
theorem fPoint_frz (xs : List PointA) : frzRows (encL fPoint xs) = encL fPoint xs := encL_frz _ (fun x => by simp [fPoint, frzL_append, encA_frz]; rfl) xs
theorem fPoint_len (xs : List PointA) : RowsLen (encL fPoint xs) 33 = True := encL_rowsLen fPoint (fun x => by simp [fPoint, encA_length]) xs
attribute [go_sem] fPoint fPoint_clo fPoint_shut fPoint_frz fPoint_len
theorem toHash_ok {h : H32} : TSpec Try.prog 76 [] [.ag (encA .u8 h.l)] false [] (.ag (encA .u8 h.l)) := by
  have hD := dN0
  refine sT 15 [.cell 2 24] Try.func76 fun w0 S0 ρ0 φ0 => ?_
  repeat' (first | apply W.seq | apply W.skip | apply W.region | apply W.block | apply N.code | apply N.blk | apply Sl.nil | apply W.exit | apply W.ret | apply E.hit | apply E.code | apply E.fin | refine zM ?_ | apply O.i | refine sP ?_ | refine sQ fun _ => ?_ | refine sX fun _ => ?_ | refine zI ?_ ?_ | (intro hb; (try simp [-List.getD_eq_getElem?_getD] at hb); (try (exfalso; omega))))
  refine W.iter (fun k => ⟨15, [(1, .pt 1 0 0), (2, .pt 2 0 0), (3, .pt 3 0 0), (4, .pl (.int .i64 k))], [(1, .c 32 [encA .u8 h.l]), (2, .c 32 [encA .u8 (List.replicate 32 0)]), (3, .c 32 [encA .u8 (h.l.take k ++ List.replicate (32 - k) 0)])]⟩) (fun k => True) (32) (Weak.to rfl ?s1 ?b1) ?h1 (fun k hk hH => ?body1)
  (try case' s1 => first | exact to1 | (simp +decide only [go_sem]; (try simp (disch := first | exact ds | fail) only [go_sem, Nat.reduceAdd, Nat.reduceMul, Nat.reduceSub, Int.reduceToNat, Int.reduceNeg, Nat.reduceLeDiff, hD]); (try simp only [SV.pl.injEq, SV.sl.injEq, Value.int.injEq, Bk.c.injEq, encI_inj, true_and]); (try omega))); (try case' b1 => first | exact to1 | (simp +decide only [go_sem]; (try simp (disch := first | exact ds | fail) only [go_sem, Nat.reduceAdd, Nat.reduceMul, Nat.reduceSub, Int.reduceToNat, Int.reduceNeg, Nat.reduceLeDiff, hD]); (try simp only [SV.pl.injEq, SV.sl.injEq, Value.int.injEq, Bk.c.injEq, encI_inj, true_and]); (try omega))); (try case' h1 => first | exact to1 | (simp +decide only [go_sem]; (try simp (disch := first | exact ds | fail) only [go_sem, Nat.reduceAdd, Nat.reduceMul, Nat.reduceSub, Int.reduceToNat, Int.reduceNeg, Nat.reduceLeDiff, hD]); (try simp only [SV.pl.injEq, SV.sl.injEq, Value.int.injEq, Bk.c.injEq, encI_inj, true_and]); (try omega)))
  repeat' (first | apply W.seq | apply W.skip | apply W.region | apply W.block | apply N.code | apply N.blk | apply Sl.nil | apply W.exit | apply W.ret | apply E.hit | apply E.code | apply E.fin | refine zM ?_ | apply O.i | refine sP ?_ | refine sQ fun _ => ?_ | refine sX fun _ => ?_ | refine zI ?_ ?_ | (intro hb; (try simp [-List.getD_eq_getElem?_getD] at hb); (try (exfalso; omega))))
  · (refine N.fin ⟨by omega, ?h2, ?w2⟩; case' w2 => (refine Weak.to rfl ?s2 ?b2))
    (try case' s2 => first | exact to1 | (simp +decide only [go_sem]; (try simp (disch := first | exact ds | fail) only [go_sem, Nat.reduceAdd, Nat.reduceMul, Nat.reduceSub, Int.reduceToNat, Int.reduceNeg, Nat.reduceLeDiff, hD]); (try simp only [SV.pl.injEq, SV.sl.injEq, Value.int.injEq, Bk.c.injEq, encI_inj, true_and]); (try omega))); (try case' b2 => first | exact to1 | (simp +decide only [go_sem]; (try simp (disch := first | exact ds | fail) only [go_sem, Nat.reduceAdd, Nat.reduceMul, Nat.reduceSub, Int.reduceToNat, Int.reduceNeg, Nat.reduceLeDiff, hD]); (try simp only [SV.pl.injEq, SV.sl.injEq, Value.int.injEq, Bk.c.injEq, encI_inj, true_and]); (try omega))); (try case' h2 => first | exact to1 | (simp +decide only [go_sem]; (try simp (disch := first | exact ds | fail) only [go_sem, Nat.reduceAdd, Nat.reduceMul, Nat.reduceSub, Int.reduceToNat, Int.reduceNeg, Nat.reduceLeDiff, hD]); (try simp only [SV.pl.injEq, SV.sl.injEq, Value.int.injEq, Bk.c.injEq, encI_inj, true_and]); (try omega)))
    have := take_step 0 0 h.l k (by rw [h.len]; omega)
    rw [h.len] at this
    rw [this]
  · obtain rfl : k = 32 := by omega
    rw [show 32 - 32 = 0 from rfl, List.replicate_zero, List.append_nil]
    exact rT
theorem eqH_ok {a b : H32} : TSpec Try.prog 18 [] [.ag (encA .u8 a.l), .ag (encA .u8 b.l)] false [] (.pl (.bool (decide (a = b)))) := by
  have := eqHash_ok a.len b.len
  rwa [show decide (a.l = b.l) = decide (a = b) from by simp [show a.l = b.l ↔ a = b from ⟨H32.ext', fun e => by rw [e]⟩]] at this
theorem toPoint_ok {a : PointA} : TSpec Try.prog 132 [] [.ag (fPoint a)] false [] (.ag (fPoint a)) := by
  simp only [fPoint]
  have hD := dN0
  refine sT 12 [.cell 2 122] Try.func132 fun w0 S0 ρ0 φ0 => ?_
  repeat' (first | apply W.seq | apply W.skip | apply W.region | apply W.block | apply N.code | apply N.blk | apply Sl.nil | apply W.exit | apply W.ret | apply E.hit | apply E.code | apply E.fin | refine zM ?_ | apply O.i | refine sP ?_ | refine sQ fun _ => ?_ | refine sX fun _ => ?_ | (refine k1 false [] c76 ?_; refine k2 toHash_ok ?_) | refine zI ?_ ?_ | (intro hb; (try simp [-List.getD_eq_getElem?_getD] at hb); (try (exfalso; omega))))
  exact rT

theorem eqPoint_ok {a b : PointA} : TSpec Try.prog 135 [] [.ag (fPoint a), .ag (fPoint b)] false [] (.pl (.bool (decide (a = b)))) := by
  simp only [fPoint]
  have hD := dN0
  refine sT 16 [.tmp 4] Try.func135 fun w0 S0 ρ0 φ0 => ?_
  repeat' (first | apply W.seq | apply W.skip | apply W.region | apply W.block | apply N.code | apply N.blk | apply Sl.nil | apply W.exit | apply W.ret | apply E.hit | apply E.code | apply E.fin | refine zM ?_ | apply O.i | refine sP ?_ | refine sQ fun _ => ?_ | refine sX fun _ => ?_ | (refine k1 false [] c18 ?_; refine k2 eqH_ok ?_) | refine zI ?_ ?_ | (intro hb; (try simp [-List.getD_eq_getElem?_getD] at hb); (try (exfalso; omega))))
  all_goals (first | rw [show decide (a = b) = false from decide_eq_false fun e => hb (by rw [e])] | rw [show decide (a = b) = true from decide_eq_true (by cases a; cases b; simp_all)])
  all_goals exact rT

theorem toPointS_ok {xs : List PointA} (h : xs.length < 2 ^ 40 := by exact pm) : TSpec Try.prog 87 [] [.pd (encL fPoint xs)] false [] (.ow 33 (encL fPoint xs)) := by
  have hD := dN0
  refine sT 23 [.tmp 2] Try.func87 fun w0 S0 ρ0 φ0 => ?_
  repeat' (first | apply W.seq | apply W.skip | apply W.region | apply W.block | apply N.code | apply N.blk | apply Sl.nil | apply W.exit | apply W.ret | apply E.hit | apply E.code | apply E.fin | refine zM ?_ | apply O.i | refine sP ?_ | refine sQ fun _ => ?_ | refine sX fun _ => ?_ | (refine k1 false [] c132 ?_; refine k2 toPoint_ok ?_) | refine zI ?_ ?_ | (intro hb; (try simp [-List.getD_eq_getElem?_getD] at hb); (try (exfalso; omega))))
  refine W.iter (fun k => ⟨23, [(0, .pd (encL fPoint xs)), (3, .sl 7 0 xs.length), (4, .pl (.int .i64 k))], [(7, .c 33 (encL fPoint (xs.take k) ++ List.replicate (xs.length - k) (encA .u8 (List.replicate 32 0) ++ [.pl (.int .i64 0)])))]⟩) (fun k => True) (xs.length) (Weak.to rfl ?s3 ?b3) ?h3 (fun k hk hH => ?body3)
  (try case' s3 => first | exact to1 | (simp +decide only [go_sem]; (try simp (disch := first | exact ds | fail) only [go_sem, Nat.reduceAdd, Nat.reduceMul, Nat.reduceSub, Int.reduceToNat, Int.reduceNeg, Nat.reduceLeDiff, hD]); (try simp only [SV.pl.injEq, SV.sl.injEq, Value.int.injEq, Bk.c.injEq, encI_inj, true_and]); (try omega))); (try case' b3 => first | exact to1 | (simp +decide only [go_sem]; (try simp (disch := first | exact ds | fail) only [go_sem, Nat.reduceAdd, Nat.reduceMul, Nat.reduceSub, Int.reduceToNat, Int.reduceNeg, Nat.reduceLeDiff, hD]); (try simp only [SV.pl.injEq, SV.sl.injEq, Value.int.injEq, Bk.c.injEq, encI_inj, true_and]); (try omega))); (try case' h3 => first | exact to1 | (simp +decide only [go_sem]; (try simp (disch := first | exact ds | fail) only [go_sem, Nat.reduceAdd, Nat.reduceMul, Nat.reduceSub, Int.reduceToNat, Int.reduceNeg, Nat.reduceLeDiff, hD]); (try simp only [SV.pl.injEq, SV.sl.injEq, Value.int.injEq, Bk.c.injEq, encI_inj, true_and]); (try omega)))
  repeat' (first | apply W.seq | apply W.skip | apply W.region | apply W.block | apply N.code | apply N.blk | apply Sl.nil | apply W.exit | apply W.ret | apply E.hit | apply E.code | apply E.fin | refine zM ?_ | apply O.i | refine sP ?_ | refine sQ fun _ => ?_ | refine sX fun _ => ?_ | (refine k1 false [] c132 ?_; refine k2 toPoint_ok ?_) | refine zI ?_ ?_ | (intro hb; (try simp [-List.getD_eq_getElem?_getD] at hb); (try (exfalso; omega))))
  · (refine N.fin ⟨by omega, ?h4, ?w4⟩; case' w4 => (refine Weak.to rfl ?s4 ?b4))
    (try case' s4 => first | exact to1 | (simp +decide only [go_sem]; (try simp (disch := first | exact ds | fail) only [go_sem, Nat.reduceAdd, Nat.reduceMul, Nat.reduceSub, Int.reduceToNat, Int.reduceNeg, Nat.reduceLeDiff, hD]); (try simp only [SV.pl.injEq, SV.sl.injEq, Value.int.injEq, Bk.c.injEq, encI_inj, true_and]); (try omega))); (try case' b4 => first | exact to1 | (simp +decide only [go_sem]; (try simp (disch := first | exact ds | fail) only [go_sem, Nat.reduceAdd, Nat.reduceMul, Nat.reduceSub, Int.reduceToNat, Int.reduceNeg, Nat.reduceLeDiff, hD]); (try simp only [SV.pl.injEq, SV.sl.injEq, Value.int.injEq, Bk.c.injEq, encI_inj, true_and]); (try omega))); (try case' h4 => first | exact to1 | (simp +decide only [go_sem]; (try simp (disch := first | exact ds | fail) only [go_sem, Nat.reduceAdd, Nat.reduceMul, Nat.reduceSub, Int.reduceToNat, Int.reduceNeg, Nat.reduceLeDiff, hD]); (try simp only [SV.pl.injEq, SV.sl.injEq, Value.int.injEq, Bk.c.injEq, encI_inj, true_and]); (try omega)))
    exact to_stepL fPoint _ xs k (by omega)
  · obtain rfl : k = xs.length := by omega
    rw [to_allL]
    exact rT

theorem eqPointS_ok {xs ys : List PointA} (h : xs.length < 2 ^ 40 := by exact pm) : TSpec Try.prog 91 [] [.pd (encL fPoint xs), .pd (encL fPoint ys)] false [] (.pl (.bool (decide (xs = ys)))) := by
  have hD := dN0
  refine sT 27 [.tmp 4] Try.func91 fun w0 S0 ρ0 φ0 => ?_
  repeat' (first | apply W.seq | apply W.skip | apply W.region | apply W.block | apply N.code | apply N.blk | apply Sl.nil | apply W.exit | apply W.ret | apply E.hit | apply E.code | apply E.fin | refine zM ?_ | apply O.i | refine sP ?_ | refine sQ fun _ => ?_ | (refine rD (id := 6) anyW [] ?_; refine rP 0 false fun _ => ?_; refine rP 1 false fun _ => ?_; refine rP 2 false fun _ => ?_; refine rP 3 true fun _ => ?_; refine rP 4 false fun _ => ?_; refine rP 5 false fun _ => ?_; refine rP 6 false fun _ => ?_; refine rP 7 true fun _ => ?_; refine rO 8 fun _ _ _ _ _ => ?_; refine k1 false [] c135 ?_; refine k2 eqPoint_ok ?_; refine rP 9 false fun _ => ?_; refine rE ?_) | refine zI ?_ ?_ | (intro hb; (try simp [-List.getD_eq_getElem?_getD] at hb); (try (exfalso; omega))))
  · have hne : decide (xs = ys) = false := decide_eq_false fun e => hb (by rw [e])
    rw [hne]
    exact rT
  · refine W.iter (fun k => ⟨27, [(0, .pd (encL fPoint xs)), (1, .pd (encL fPoint ys)), (5, .pl (.int .i64 k))], []⟩) (fun k => xs.take k = ys.take k) (xs.length) (Weak.to rfl ?s5 ?b5) ?h5 (fun k hk hH => ?body5)
    (try case' s5 => first | exact to1 | (simp +decide only [go_sem]; (try simp (disch := first | exact ds | fail) only [go_sem, Nat.reduceAdd, Nat.reduceMul, Nat.reduceSub, Int.reduceToNat, Int.reduceNeg, Nat.reduceLeDiff, hD]); (try simp only [SV.pl.injEq, SV.sl.injEq, Value.int.injEq, Bk.c.injEq, encI_inj, true_and]); (try omega))); (try case' b5 => first | exact to1 | (simp +decide only [go_sem]; (try simp (disch := first | exact ds | fail) only [go_sem, Nat.reduceAdd, Nat.reduceMul, Nat.reduceSub, Int.reduceToNat, Int.reduceNeg, Nat.reduceLeDiff, hD]); (try simp only [SV.pl.injEq, SV.sl.injEq, Value.int.injEq, Bk.c.injEq, encI_inj, true_and]); (try omega))); (try case' h5 => first | exact to1 | (simp +decide only [go_sem]; (try simp (disch := first | exact ds | fail) only [go_sem, Nat.reduceAdd, Nat.reduceMul, Nat.reduceSub, Int.reduceToNat, Int.reduceNeg, Nat.reduceLeDiff, hD]); (try simp only [SV.pl.injEq, SV.sl.injEq, Value.int.injEq, Bk.c.injEq, encI_inj, true_and]); (try omega)))
    repeat' (first | apply W.seq | apply W.skip | apply W.region | apply W.block | apply N.code | apply N.blk | apply Sl.nil | apply W.exit | apply W.ret | apply E.hit | apply E.code | apply E.fin | refine zM ?_ | apply O.i | refine sP ?_ | refine sQ fun _ => ?_ | (refine rD (id := 6) anyW [] ?_; refine rP 0 false fun _ => ?_; refine rP 1 false fun _ => ?_; refine rP 2 false fun _ => ?_; refine rP 3 true fun _ => ?_; refine rP 4 false fun _ => ?_; refine rP 5 false fun _ => ?_; refine rP 6 false fun _ => ?_; refine rP 7 true fun _ => ?_; refine rO 8 fun _ _ _ _ _ => ?_; refine k1 false [] c135 ?_; refine k2 eqPoint_ok ?_; refine rP 9 false fun _ => ?_; refine rE ?_) | refine zI ?_ ?_ | (intro hb; (try simp [-List.getD_eq_getElem?_getD] at hb); (try (exfalso; omega))))
    · rw [decide_ne_of_take default k hb]
      exact rT
    · (refine N.fin ⟨by omega, ?h6, ?w6⟩; case' w6 => (refine Weak.to rfl ?s6 ?b6))
      (try case' s6 => first | exact to1 | (simp +decide only [go_sem]; (try simp (disch := first | exact ds | fail) only [go_sem, Nat.reduceAdd, Nat.reduceMul, Nat.reduceSub, Int.reduceToNat, Int.reduceNeg, Nat.reduceLeDiff, hD]); (try simp only [SV.pl.injEq, SV.sl.injEq, Value.int.injEq, Bk.c.injEq, encI_inj, true_and]); (try omega))); (try case' b6 => first | exact to1 | (simp +decide only [go_sem]; (try simp (disch := first | exact ds | fail) only [go_sem, Nat.reduceAdd, Nat.reduceMul, Nat.reduceSub, Int.reduceToNat, Int.reduceNeg, Nat.reduceLeDiff, hD]); (try simp only [SV.pl.injEq, SV.sl.injEq, Value.int.injEq, Bk.c.injEq, encI_inj, true_and]); (try omega))); (try case' h6 => first | exact to1 | (simp +decide only [go_sem]; (try simp (disch := first | exact ds | fail) only [go_sem, Nat.reduceAdd, Nat.reduceMul, Nat.reduceSub, Int.reduceToNat, Int.reduceNeg, Nat.reduceLeDiff, hD]); (try simp only [SV.pl.injEq, SV.sl.injEq, Value.int.injEq, Bk.c.injEq, encI_inj, true_and]); (try omega)))
      exact take_eq_step default xs ys k (by omega) (by omega) hH hb
    · rw [decide_eq_true (take_all_eq hH (by omega) (by omega))]
      exact rT
end Go.Proofs.Ytcmnbefdbckhcaa

