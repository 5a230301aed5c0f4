import Derived.Test.YtnancifnodbkdaaB16
namespace Go.Proofs.Ytnancifnodbkdaa
open Go Go.Vcg Go.IntWalk
set_option maxRecDepth 100000
set_option maxHeartbeats 20000000
set_option linter.unusedSimpArgs false
set_option linter.unusedVariables false
theorem c125 : CallOk Try.prog 125 := ⟨_, Try.func125, rfl, by kernel_rfl⟩
theorem c169 : CallOk Try.prog 169 := ⟨_, Try.func169, rfl, by kernel_rfl⟩
theorem H32.take (h : H32) : h.l.take 32 = h.l := List.take_of_length_le (by rw [h.len]; omega)
attribute [go_sem] H32.take chunks_A
theorem shaEx {b : List Int} (_h : okBytes b) : ∃ s : H32, s.l = sha b := ⟨⟨sha b, sha_length b, okBytes_sha b⟩, rfl⟩
theorem l5Double_ok {b : List Int} {d : H32} (hb : b.length < 2 ^ 38 := by exact pm) (ho : okBytes b := by exact pm) (hd : d.l = sha (sha b) := by exact pm) : TSpec Try.prog 125 [] [.pd (encI .u8 b)] false [] (.ag (encA .u8 d.l)) := by
  obtain ⟨s, hs⟩ := shaEx ho
  have h1 := spSha_ok hb ho
  have h2 := spSha_ok (b := s.l) (by rw [s.len]; omega) s.ok
  rw [← hs] at h1 hd
  rw [← hd] at h2
  clear hs hd
  have hD := dN0
  refine sT 7 [.cell 2 50] Try.func125 fun w0 S0 ρ0 φ0 => ?_
  repeat' (first | apply W.seq | apply W.skip | apply W.region | apply W.block | apply N.code | apply N.blk | apply Sl.nil | apply W.exit | apply W.ret | apply E.hit | apply E.code | apply E.fin | refine zM ?_ | apply O.i | refine sP ?_ | refine sQ fun _ => ?_ | refine sX fun _ => ?_ | (refine k1 false [] c168 ?_; (first | refine k2 h1 ?_ | refine k2 h2 ?_)) | (refine k1 false [] c164 ?_; refine k2 l5Of_ok ?_) | refine zI ?_ ?_ | (intro hb; (try simp [-List.getD_eq_getElem?_getD] at hb); (try (exfalso; omega))))
  exact rT
theorem double_ok {xs : List (List Int)} {d : H32} (hb : xs.flatten.length < 2 ^ 38 := by exact pm) (hx : xs.length < 2 ^ 38 := by exact pm) (ho : ∀ k, k < xs.length → okBytes (xs.getD k default) := by exact pm) (hd : d.l = sha (sha xs.flatten) := by exact pm) : TSpec Try.prog 169 [] [.pd (encL fB xs)] false [] (.ag (encA .u8 d.l)) := by
  have hof : ∀ k, k ≤ xs.length → okBytes (xs.take k).flatten := fun k hk y hy => by
    obtain ⟨l, hl, hy⟩ := List.mem_flatten.mp hy
    obtain ⟨i, hi, rfl⟩ := List.mem_iff_getElem.mp (List.mem_of_mem_take hl)
    have := ho i hi
    rw [List.getD_eq_getElem?_getD, List.getElem?_eq_getElem hi, Option.getD_some] at this
    exact this y hy
  have hstep : ∀ k, k < xs.length → (xs.take k).flatten ++ xs.getD k default = (xs.take (k + 1)).flatten := fun k hk => by
    rw [← take_snoc default xs k hk, List.flatten_append]
    simp
  have hlen : ∀ k, (xs.take k).flatten.length ≤ xs.flatten.length := fun k => by
    have := congrArg (fun l => l.flatten.length) (List.take_append_drop k xs)
    simp only [List.flatten_append, List.length_append] at this
    omega
  obtain ⟨s, hs⟩ := shaEx (hof xs.length (Nat.le_refl _))
  rw [List.take_length] at hs
  obtain ⟨q, hq⟩ : ∃ q, q = hrowM := ⟨_, rfl⟩
  have hnew := newHasher_ok
  have hsum := sum_ok (m := xs.flatten) hb (by have := hof xs.length (Nat.le_refl _); rwa [List.take_length] at this)
  have him := imSha_ok (b := s.l) (by rw [s.len]; omega) s.ok
  have hwr : ∀ k, k < xs.length → TSpec Try.prog 185 [(1000000, .c 74 [hrowM (xs.take k).flatten])] [.pt 1000000 0 0, .pd (encI .u8 (xs.getD k default))] false [(1000000, .c 74 [hrowM (xs.take (k + 1)).flatten])] (.tu []) := fun k hk => by
    rw [← hstep k hk]
    have h1 := hlen (k + 1)
    rw [← hstep k hk, List.length_append] at h1
    exact write_ok (by omega) (hof k (by omega)) (ho k hk)
  obtain ⟨q2, hq2⟩ : ∃ q2, q2 = hrowM (pad xs.flatten) := ⟨_, rfl⟩
  rw [← hs, ← hq2] at hsum
  rw [← hs] at hd
  rw [← hd] at him
  have e2 : cloRow q2 = true := by rw [hq2]; exact hrowM_clo _
  have l2 : q2.length = 74 := by rw [hq2]; exact hrowM_len _
  have e0 : ∀ m, cloRow (q m) = true := fun m => by rw [hq]; exact hrowM_clo m
  have l0 : ∀ m, (q m).length = 74 := fun m => by rw [hq]; exact hrowM_len m
  rw [← hq] at hnew hwr hsum
  clear hq hq2 hs hd hof
  have hD := And.intro (e0) (And.intro (l0) (And.intro (e2) ((l2))))
  have hD := And.intro (e0) (And.intro (l0) (And.intro (e2) ((l2))))
  refine sT 22 [.cell 2 50] Try.func169 fun w0 S0 ρ0 φ0 => ?_
  repeat' (first | apply W.seq | apply W.skip | apply W.region | apply W.block | apply N.code | apply N.blk | apply Sl.nil | apply W.exit | apply W.ret | apply E.hit | apply E.code | apply E.fin | refine zM ?_ | apply O.i | refine sP ?_ | refine sQ fun _ => ?_ | refine sX fun _ => ?_ | (refine k1 false [] c184 ?_; refine k2 hnew ?_) | (refine k1 false [(1000000, 0, none)] c185 ?_; refine k2 (hwr k (by omega)) ?_) | (refine k1 false [(1000000, 0, none)] c186 ?_; refine k2 hsum ?_) | (refine k1 false [] c187 ?_; refine k2 him ?_) | refine zI ?_ ?_ | (intro hb; (try simp [-List.getD_eq_getElem?_getD] at hb); (try (exfalso; omega))))
  (refine gR (nmR 7) 2000000 ?_)
  refine W.iter (fun k => ⟨22, [(2, .pt 2 0 0), (3, .pt 2000000 0 0), (8, .pd (encL fB xs)), (9, .pl (.int .i64 xs.length)), (10, .pl (.int .i64 k))], [(2, .c 32 [encA .u8 (List.replicate 32 0)]), (2000000, .c 74 [q (xs.take k).flatten])], []⟩) (fun k => True) (xs.length) (Weak.to (by first | rfl | (simp only [virtAt_n]; rfl)) ?s1 ?b1 (by exact dfe)) ?h1 (fun k hk hH => ?body1)
  (try case' s1 => first | exact to1 | (simp +decide only [go_sem]; (try simp (disch := first | exact ds | fail) only [go_sem, Nat.reduceAdd, Nat.reduceMul, Nat.reduceSub, Int.reduceToNat, Int.reduceNeg, Nat.reduceLeDiff, hD]); (try simp only [SV.pl.injEq, SV.sl.injEq, Value.int.injEq, Bk.c.injEq, encI_inj, true_and]); (try omega))); (try case' b1 => first | exact to1 | (simp +decide only [go_sem]; (try simp (disch := first | exact ds | fail) only [go_sem, Nat.reduceAdd, Nat.reduceMul, Nat.reduceSub, Int.reduceToNat, Int.reduceNeg, Nat.reduceLeDiff, hD]); (try simp only [SV.pl.injEq, SV.sl.injEq, Value.int.injEq, Bk.c.injEq, encI_inj, true_and]); (try omega))); (try case' h1 => first | exact to1 | (simp +decide only [go_sem]; (try simp (disch := first | exact ds | fail) only [go_sem, Nat.reduceAdd, Nat.reduceMul, Nat.reduceSub, Int.reduceToNat, Int.reduceNeg, Nat.reduceLeDiff, hD]); (try simp only [SV.pl.injEq, SV.sl.injEq, Value.int.injEq, Bk.c.injEq, encI_inj, true_and]); (try omega)))
  · rfl
  have hwk := hwr k
  repeat' (first | apply W.seq | apply W.skip | apply W.region | apply W.block | apply N.code | apply N.blk | apply Sl.nil | apply W.exit | apply W.ret | apply E.hit | apply E.code | apply E.fin | refine zM ?_ | apply O.i | refine sP ?_ | refine sQ fun _ => ?_ | refine sX fun _ => ?_ | (refine k1 false [] c184 ?_; refine k2 hnew ?_) | (refine k1 false [(1000000, 0, none)] c185 ?_; refine k2 (hwr k (by omega)) ?_) | (refine k1 false [(1000000, 0, none)] c186 ?_; refine k2 hsum ?_) | (refine k1 false [] c187 ?_; refine k2 him ?_) | refine zI ?_ ?_ | (intro hb; (try simp [-List.getD_eq_getElem?_getD] at hb); (try (exfalso; omega))))
  · (refine N.fin ⟨by omega, ?h2, ?w2⟩; case' w2 => (refine Weak.to (by first | rfl | (simp only [virtAt_n]; rfl)) ?s2 ?b2 (by exact dfe)))
    (try case' s2 => first | exact to1 | (simp +decide only [go_sem]; (try simp (disch := first | exact ds | fail) only [go_sem, Nat.reduceAdd, Nat.reduceMul, Nat.reduceSub, Int.reduceToNat, Int.reduceNeg, Nat.reduceLeDiff, hD]); (try simp only [SV.pl.injEq, SV.sl.injEq, Value.int.injEq, Bk.c.injEq, encI_inj, true_and]); (try omega))); (try case' b2 => first | exact to1 | (simp +decide only [go_sem]; (try simp (disch := first | exact ds | fail) only [go_sem, Nat.reduceAdd, Nat.reduceMul, Nat.reduceSub, Int.reduceToNat, Int.reduceNeg, Nat.reduceLeDiff, hD]); (try simp only [SV.pl.injEq, SV.sl.injEq, Value.int.injEq, Bk.c.injEq, encI_inj, true_and]); (try omega))); (try case' h2 => first | exact to1 | (simp +decide only [go_sem]; (try simp (disch := first | exact ds | fail) only [go_sem, Nat.reduceAdd, Nat.reduceMul, Nat.reduceSub, Int.reduceToNat, Int.reduceNeg, Nat.reduceLeDiff, hD]); (try simp only [SV.pl.injEq, SV.sl.injEq, Value.int.injEq, Bk.c.injEq, encI_inj, true_and]); (try omega)))
  · exact rT
end Go.Proofs.Ytnancifnodbkdaa

