import Derived.Test.YtnancifnodbkdaaB10
namespace Go.Proofs.Ytnancifnodbkdaa
open Go Go.Vcg Go.IntWalk
set_option maxRecDepth 100000
set_option maxHeartbeats 20000000
set_option linter.unusedSimpArgs false
set_option linter.unusedVariables false

theorem c199 : CallOk Try.prog 199 := ⟨_, Try.func199, rfl, by kernel_rfl⟩
theorem c179 : CallOk Try.prog 179 := ⟨_, Try.func179, rfl, by kernel_rfl⟩
theorem c157 : CallOk Try.prog 157 := ⟨_, Try.func157, rfl, by kernel_rfl⟩
theorem c159 : CallOk Try.prog 159 := ⟨_, Try.func159, rfl, by kernel_rfl⟩
theorem ovL_all (xs ys : List Int) (h : ys.length = xs.length) : ovL xs 0 ys = ys := by
  unfold ovL
  rw [List.take_zero, List.nil_append, Nat.zero_add, List.drop_of_length_le (by omega), List.append_nil]
theorem impCs_app (r : List SV) : ∀ (cs : List SV) (n : Nat), impCs n (cs ++ r) = ((impCs n cs).1 ++ (impCs (n + cs.length) r).1, (impCs n cs).2 ++ (impCs (n + cs.length) r).2)
  | [], n => rfl
  | c :: cs, n => by
    have ih := impCs_app r cs (n + 1)
    show ((impC n c).1 :: (impCs (n + 1) (cs ++ r)).1, (impC n c).2 ++ (impCs (n + 1) (cs ++ r)).2) = _
    rw [ih]
    simp only [impCs, List.cons_append, List.length_cons, List.append_assoc, Nat.add_assoc, Nat.add_comm 1]
theorem eA_imp (k : IntKind) (xs : List Int) (r : List SV) (n : Nat) : impCs n (encA k xs ++ r) = (encA k xs ++ (impCs (n + xs.length) r).1, (impCs (n + xs.length) r).2) := by
  rw [impCs_app, impCs_A, encA_length, List.nil_append]
theorem eA_chunks (k : IntKind) (xs : List Int) (r : List SV) (n : Nat) (h : n ≤ xs.length) : chunks (encA k xs ++ r) 1 n = encI k (xs.take n) := by
  rw [← chunks_A k xs n h]
  unfold chunks
  refine List.map_congr_left fun i hi => ?_
  have := List.mem_range.mp hi
  rw [List.drop_append_of_le_length (by rw [encA_length]; omega), List.take_append_of_le_length (by rw [List.length_drop, encA_length]; omega)]
attribute [go_sem] putAt_all lRep lApp ovL_all ovL_length eA_imp eA_chunks
structure H32 where
  l : List Int
  len : l.length = 32
  ok : okBytes l
theorem H32.ext' {a b : H32} (h : a.l = b.l) : a = b := by
  cases a
  cases b
  simp only at h
  subst h
  rfl
instance : DecidableEq H32 := fun a b => if h : a.l = b.l then .isTrue (H32.ext' h) else .isFalse fun e => h (by rw [e])
instance : Inhabited H32 := ⟨⟨List.replicate 32 0, by simp, okBytes_rep 32⟩⟩
attribute [go_sem, simp] H32.len
theorem okBytes_mark (b : Int) (n : Nat) : okBytes (markL .u8 b n) := fun x hx => by
  obtain ⟨i, _, rfl⟩ := List.mem_map.mp hx
  simp only [IntKind.wrap, IntKind.signed, IntKind.bits]
  exact ⟨Int.emod_nonneg _ (by decide), Int.emod_lt_of_pos _ (by decide)⟩
def mkH (b : Int) : H32 := ⟨markL .u8 b 32, markL_length .u8 b 32, okBytes_mark b 32⟩
def shaH (b : List Int) (h : okBytes b) : H32 := ⟨sha b, sha_length b, okBytes_sha b⟩
def hR (h : H32) : List SV := encA .u8 h.l
theorem hR_clo (xs : List H32) : cloRows (encL hR xs) = true := encL_clo _ (fun x => by simp [hR, encA_clo]) xs
theorem hR_shut (xs : List H32) : shutRows (encL hR xs) = true := encL_shut _ (fun x => by simp [hR, encA_shut]) xs
theorem hR_frz (xs : List H32) : frzRows (encL hR xs) = encL hR xs := encL_frz _ (fun x => by simp [hR, encA_frz]) xs
theorem hR_len (xs : List H32) : RowsLen (encL hR xs) 32 = True := encL_rowsLen hR (fun x => by simp [hR, encA_length]) xs
attribute [go_sem] hR hR_clo hR_shut hR_frz hR_len
structure PointA where
  Id : H32
  N : Int
  deriving DecidableEq, Inhabited
def fPoint (a : PointA) : List SV := encA .u8 a.Id.l ++ [.pl (.int .i64 a.N)]
theorem fPoint_clo (xs : List PointA) : cloRows (encL fPoint xs) = true := encL_clo _ (fun x => by simp [fPoint, cloRow_append, encA_clo]; rfl) xs
theorem fPoint_shut (xs : List PointA) : shutRows (encL fPoint xs) = true := encL_shut _ (fun x => by simp [fPoint, shutL_append, encA_shut]; rfl) xs
theorem fPoint_frz (xs : List PointA) : frzRows (encL fPoint xs) = encL fPoint xs := encL_frz _ (fun x => by simp [fPoint, frzL_append, encA_frz]; rfl) xs
theorem fPoint_len (xs : List PointA) : RowsLen (encL fPoint xs) 33 = True := encL_rowsLen fPoint (fun x => by simp [fPoint, encA_length]) xs
attribute [go_sem] fPoint fPoint_clo fPoint_shut fPoint_frz fPoint_len
theorem eqH_ok {a b : H32} : TSpec Try.prog 106 [] [.ag (encA .u8 a.l), .ag (encA .u8 b.l)] false [] (.pl (.bool (decide (a = b)))) := by
  have := eqHash_ok a.len b.len
  rwa [show decide (a.l = b.l) = decide (a = b) from by simp [show a.l = b.l ↔ a = b from ⟨H32.ext', fun e => by rw [e]⟩]] at this
theorem eqPoint_ok {a b : PointA} : TSpec Try.prog 199 [] [.ag (fPoint a), .ag (fPoint b)] false [] (.pl (.bool (decide (a = b)))) := by
  simp only [fPoint]
  have hD := dN0
  refine sT 16 [.tmp 4] Try.func199 fun w0 S0 ρ0 φ0 => ?_
  repeat' (first | apply W.seq | apply W.skip | apply W.region | apply W.block | apply N.code | apply N.blk | apply Sl.nil | apply W.exit | apply W.ret | apply E.hit | apply E.code | apply E.fin | refine zM ?_ | apply O.i | refine sP ?_ | refine sQ fun _ => ?_ | refine sX fun _ => ?_ | (refine k1 false [] c106 ?_; refine k2 eqH_ok ?_) | refine zI ?_ ?_ | (intro hb; (try simp [-List.getD_eq_getElem?_getD] at hb); (try (exfalso; omega))))
  all_goals (first | rw [show decide (a = b) = false from decide_eq_false fun e => hb (by rw [e])] | rw [show decide (a = b) = true from decide_eq_true (by cases a; cases b; simp_all)])
  all_goals exact rT

theorem eqPointS_ok {xs ys : List PointA} (h : xs.length < 2 ^ 40 := by exact pm) : TSpec Try.prog 179 [] [.pd (encL fPoint xs), .pd (encL fPoint ys)] false [] (.pl (.bool (decide (xs = ys)))) := by
  have hD := dN0
  refine sT 27 [.tmp 4] Try.func179 fun w0 S0 ρ0 φ0 => ?_
  repeat' (first | apply W.seq | apply W.skip | apply W.region | apply W.block | apply N.code | apply N.blk | apply Sl.nil | apply W.exit | apply W.ret | apply E.hit | apply E.code | apply E.fin | refine zM ?_ | apply O.i | refine sP ?_ | refine sQ fun _ => ?_ | (refine rD (id := 6) anyW [] ?_; refine rP 0 false fun _ => ?_; refine rP 1 false fun _ => ?_; refine rP 2 false fun _ => ?_; refine rP 3 true fun _ => ?_; refine rP 4 false fun _ => ?_; refine rP 5 false fun _ => ?_; refine rP 6 false fun _ => ?_; refine rP 7 true fun _ => ?_; refine rO 8 fun _ _ _ _ _ => ?_; refine k1 false [] c199 ?_; refine k2 eqPoint_ok ?_; refine rP 9 false fun _ => ?_; refine rE ?_) | refine zI ?_ ?_ | (intro hb; (try simp [-List.getD_eq_getElem?_getD] at hb); (try (exfalso; omega))))
  · have hne : decide (xs = ys) = false := decide_eq_false fun e => hb (by rw [e])
    rw [hne]
    exact rT
  · refine W.iter (fun k => ⟨27, [(0, .pd (encL fPoint xs)), (1, .pd (encL fPoint ys)), (5, .pl (.int .i64 k))], [], []⟩) (fun k => xs.take k = ys.take k) (xs.length) (Weak.to (by first | rfl | (simp only [virtAt_n]; rfl)) ?s1 ?b1 (by exact dfe)) ?h1 (fun k hk hH => ?body1)
    (try case' s1 => first | exact to1 | (simp +decide only [go_sem]; (try simp (disch := first | exact ds | fail) only [go_sem, Nat.reduceAdd, Nat.reduceMul, Nat.reduceSub, Int.reduceToNat, Int.reduceNeg, Nat.reduceLeDiff, hD]); (try simp only [SV.pl.injEq, SV.sl.injEq, Value.int.injEq, Bk.c.injEq, encI_inj, true_and]); (try omega))); (try case' b1 => first | exact to1 | (simp +decide only [go_sem]; (try simp (disch := first | exact ds | fail) only [go_sem, Nat.reduceAdd, Nat.reduceMul, Nat.reduceSub, Int.reduceToNat, Int.reduceNeg, Nat.reduceLeDiff, hD]); (try simp only [SV.pl.injEq, SV.sl.injEq, Value.int.injEq, Bk.c.injEq, encI_inj, true_and]); (try omega))); (try case' h1 => first | exact to1 | (simp +decide only [go_sem]; (try simp (disch := first | exact ds | fail) only [go_sem, Nat.reduceAdd, Nat.reduceMul, Nat.reduceSub, Int.reduceToNat, Int.reduceNeg, Nat.reduceLeDiff, hD]); (try simp only [SV.pl.injEq, SV.sl.injEq, Value.int.injEq, Bk.c.injEq, encI_inj, true_and]); (try omega)))
    repeat' (first | apply W.seq | apply W.skip | apply W.region | apply W.block | apply N.code | apply N.blk | apply Sl.nil | apply W.exit | apply W.ret | apply E.hit | apply E.code | apply E.fin | refine zM ?_ | apply O.i | refine sP ?_ | refine sQ fun _ => ?_ | (refine rD (id := 6) anyW [] ?_; refine rP 0 false fun _ => ?_; refine rP 1 false fun _ => ?_; refine rP 2 false fun _ => ?_; refine rP 3 true fun _ => ?_; refine rP 4 false fun _ => ?_; refine rP 5 false fun _ => ?_; refine rP 6 false fun _ => ?_; refine rP 7 true fun _ => ?_; refine rO 8 fun _ _ _ _ _ => ?_; refine k1 false [] c199 ?_; refine k2 eqPoint_ok ?_; refine rP 9 false fun _ => ?_; refine rE ?_) | refine zI ?_ ?_ | (intro hb; (try simp [-List.getD_eq_getElem?_getD] at hb); (try (exfalso; omega))))
    · rw [decide_ne_of_take default k hb]
      exact rT
    · (refine N.fin ⟨by omega, ?h2, ?w2⟩; case' w2 => (refine Weak.to (by first | rfl | (simp only [virtAt_n]; rfl)) ?s2 ?b2 (by exact dfe)))
      (try case' s2 => first | exact to1 | (simp +decide only [go_sem]; (try simp (disch := first | exact ds | fail) only [go_sem, Nat.reduceAdd, Nat.reduceMul, Nat.reduceSub, Int.reduceToNat, Int.reduceNeg, Nat.reduceLeDiff, hD]); (try simp only [SV.pl.injEq, SV.sl.injEq, Value.int.injEq, Bk.c.injEq, encI_inj, true_and]); (try omega))); (try case' b2 => first | exact to1 | (simp +decide only [go_sem]; (try simp (disch := first | exact ds | fail) only [go_sem, Nat.reduceAdd, Nat.reduceMul, Nat.reduceSub, Int.reduceToNat, Int.reduceNeg, Nat.reduceLeDiff, hD]); (try simp only [SV.pl.injEq, SV.sl.injEq, Value.int.injEq, Bk.c.injEq, encI_inj, true_and]); (try omega))); (try case' h2 => first | exact to1 | (simp +decide only [go_sem]; (try simp (disch := first | exact ds | fail) only [go_sem, Nat.reduceAdd, Nat.reduceMul, Nat.reduceSub, Int.reduceToNat, Int.reduceNeg, Nat.reduceLeDiff, hD]); (try simp only [SV.pl.injEq, SV.sl.injEq, Value.int.injEq, Bk.c.injEq, encI_inj, true_and]); (try omega)))
      exact take_eq_step default xs ys k (by omega) (by omega) hH hb
    · rw [decide_eq_true (take_all_eq hH (by omega) (by omega))]
      exact rT
end Go.Proofs.Ytnancifnodbkdaa

