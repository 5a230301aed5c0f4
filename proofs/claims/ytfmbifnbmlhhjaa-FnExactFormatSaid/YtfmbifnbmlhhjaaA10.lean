import Derived.Test.YtfmbifnbmlhhjaaA9
namespace Go.Proofs.Ytfmbifnbmlhhjaa
open Go Go.Vcg Go.IntWalk
set_option maxRecDepth 100000
set_option maxHeartbeats 20000000
set_option linter.unusedSimpArgs false
set_option linter.unusedVariables false

theorem c144 : CallOk Try.prog 144 := ⟨_, Try.func144, rfl, by kernel_rfl⟩
theorem c78 : CallOk Try.prog 78 := ⟨_, Try.func78, rfl, by kernel_rfl⟩
theorem c14 : CallOk Try.prog 14 := ⟨_, Try.func14, rfl, by kernel_rfl⟩
theorem c15 : CallOk Try.prog 15 := ⟨_, Try.func15, rfl, by kernel_rfl⟩
theorem chunks_1 (row : List SV) (n : Nat) (h : n = row.length) : chunks row 1 n = row.map fun c => [c] := by
  subst h
  unfold chunks
  apply List.ext_getElem?
  intro i
  rw [List.getElem?_map, List.getElem?_map]
  by_cases hi : i < row.length
  · rw [List.getElem?_range hi, List.getElem?_eq_getElem hi]
    simp only [Option.map_some, Nat.mul_one]
    rw [List.drop_eq_getElem_cons hi]
    rfl
  · rw [List.getElem?_eq_none (by simpa using hi), List.getElem?_eq_none (by simpa using hi)]
    rfl
theorem rep2 (x : SV) : List.replicate 2 x = [x, x] := rfl
theorem rep3 (x : SV) : List.replicate 3 x = [x, x, x] := rfl
theorem rep4 (x : SV) : List.replicate 4 x = [x, x, x, x] := rfl
attribute [go_sem] rep2 rep3 rep4
def headB (k n l : Int) : List Int := lowB k 4 ++ ([IntKind.u8.wrap n, 0] ++ (lowB l 2 ++ lowB 0 4))
theorem low4_ok {n : Int} (h : 0 ≤ n ∧ n < 2 ^ 62 := by exact pm) : TSpec Try.prog 129 [] [.pl (.int .i64 n), .pl (.int .i64 4)] false [] (.ow 1 (encI .u8 (lowB n 4))) := low_ok (m := 4) h (by omega)
theorem low2_ok {n : Int} (h : 0 ≤ n ∧ n < 2 ^ 62 := by exact pm) : TSpec Try.prog 129 [] [.pl (.int .i64 n), .pl (.int .i64 2)] false [] (.ow 1 (encI .u8 (lowB n 2))) := low_ok (m := 2) h (by omega)
theorem headBytes_ok {k n l : Int} (hk : 0 ≤ k ∧ k < 2 ^ 62 := by exact pm) (hl : 0 ≤ l ∧ l < 2 ^ 62 := by exact pm) : TSpec Try.prog 144 [] [.ag [.pl (.int .i64 k), .pl (.int .i64 n), .pl (.int .i64 l)]] false [] (.ow 1 (encI .u8 (headB k n l))) := by
  have j4 : ∀ a b c d : List Int, a.length + b.length + c.length + d.length < 2 ^ 38 → TSpec Try.prog 128 [] [.pd [[.pd (encI .u8 a)], [.pd (encI .u8 b)], [.pd (encI .u8 c)], [.pd (encI .u8 d)]], .pd []] false [] (.ow 1 (encI .u8 (a ++ (b ++ (c ++ d))))) := fun a b c d h => by
    have := join_ok (xs := [a, b, c, d]) (by simp) (by simp [totByteSS, sumN]; omega)
    simpa [encL, fB] using this
  have hD := And.intro @fB_len (@chunks_1)
  refine sT 16 [.tmp 2] Try.func144 fun w0 S0 ρ0 φ0 => ?_
  repeat' (first | apply W.seq | apply W.skip | apply W.region | apply W.block | apply N.code | apply N.blk | apply Sl.nil | apply W.exit | apply W.ret | apply E.hit | apply E.code | apply E.fin | refine zM ?_ | apply O.i | refine sP ?_ | refine sQ fun _ => ?_ | refine sX fun _ => ?_ | (refine rD (id := 1) anyW [] ?_; refine rP 0 false fun _ => ?_; refine rP 1 true fun _ => ?_; refine rP 3 false fun _ => ?_; refine rP 4 true fun _ => ?_; refine rP 5 false fun _ => ?_; refine rP 7 false fun _ => ?_; refine rP 8 true fun _ => ?_; (focus (refine rA [2, 6] (xO (fun _ _ _ _ _ => ?_) (xO (fun _ _ _ _ _ => ?_) RX.nil)); (focus (refine k1 false [] c129 ?_; (first | refine k2 low4_ok ?_ | refine k2 low2_ok ?_); (focus (refine rA [6, 9] (xO (fun _ _ _ _ _ => ?_) (xO (fun _ _ _ _ _ => ?_) RX.nil)); (focus (refine sX fun _ => ?_; refine rO 9 fun _ _ _ _ _ => ?_; refine k1 false [] c129 ?_; (first | refine k2 low4_ok ?_ | refine k2 low2_ok ?_); refine rO 10 fun _ _ _ _ _ => ?_; refine k1 false [] c129 ?_; (first | refine k2 low4_ok ?_ | refine k2 low2_ok ?_); refine rO 11 fun _ _ _ _ _ => ?_; refine sX fun _ => ?_; refine rO 12 fun _ _ _ _ _ => ?_; refine k1 false [] c128 ?_; refine k2 (j4 (lowB k 4) [IntKind.u8.wrap n, 0] (lowB l 2) (lowB 0 4) pm) ?_; refine rP 13 false fun _ => ?_; refine rE ?_)); rotate_left; (focus (refine k1 false [] c129 ?_; (first | refine k2 low4_ok ?_ | refine k2 low2_ok ?_); (focus (refine rA [6, 10] (xO (fun _ _ _ _ _ => ?_) (xO (fun _ _ _ _ _ => ?_) RX.nil)); (focus (refine sX fun _ => ?_; refine rO 10 fun _ _ _ _ _ => ?_; refine k1 false [] c129 ?_; (first | refine k2 low4_ok ?_ | refine k2 low2_ok ?_); refine rO 11 fun _ _ _ _ _ => ?_; refine sX fun _ => ?_; refine rO 12 fun _ _ _ _ _ => ?_; refine k1 false [] c128 ?_; refine k2 (j4 (lowB k 4) [IntKind.u8.wrap n, 0] (lowB l 2) (lowB 0 4) pm) ?_; refine rP 13 false fun _ => ?_; refine rE ?_)); rotate_left; (focus (refine k1 false [] c129 ?_; (first | refine k2 low4_ok ?_ | refine k2 low2_ok ?_); refine rO 6 fun _ _ _ _ _ => ?_; refine sX fun _ => ?_; refine rO 11 fun _ _ _ _ _ => ?_; refine sX fun _ => ?_; refine rO 12 fun _ _ _ _ _ => ?_; refine k1 false [] c128 ?_; refine k2 (j4 (lowB k 4) [IntKind.u8.wrap n, 0] (lowB l 2) (lowB 0 4) pm) ?_; refine rP 13 false fun _ => ?_; refine rE ?_)); rotate_left)))); rotate_left 2)))); rotate_left 3; (focus (refine sX fun _ => ?_; refine rO 2 fun _ _ _ _ _ => ?_; refine k1 false [] c129 ?_; (first | refine k2 low4_ok ?_ | refine k2 low2_ok ?_); refine rO 9 fun _ _ _ _ _ => ?_; refine k1 false [] c129 ?_; (first | refine k2 low4_ok ?_ | refine k2 low2_ok ?_); refine rO 10 fun _ _ _ _ _ => ?_; refine k1 false [] c129 ?_; (first | refine k2 low4_ok ?_ | refine k2 low2_ok ?_); refine rO 11 fun _ _ _ _ _ => ?_; refine sX fun _ => ?_; refine rO 12 fun _ _ _ _ _ => ?_; refine k1 false [] c128 ?_; refine k2 (j4 (lowB k 4) [IntKind.u8.wrap n, 0] (lowB l 2) (lowB 0 4) pm) ?_; refine rP 13 false fun _ => ?_; refine rE ?_)); rotate_left))) | refine zI ?_ ?_ | (intro hb; (try simp [-List.getD_eq_getElem?_getD] at hb); (try (exfalso; omega))))
  all_goals unfold headB
  all_goals exact rT

/-! Pages. -/
def ov (xs : List Int) (i : Nat) (ys : List Int) : List Int := xs.take i ++ ys ++ xs.drop (i + ys.length)
theorem overRows_encI (k : IntKind) (xs : List Int) (i : Nat) (ys : List Int) : overRows (encI k xs) i (encI k ys) = encI k (ov xs i ys) := by
  unfold overRows ov
  rw [encI_take, encI_append, encI_length, encI_drop, encI_append]
theorem ov_length (xs : List Int) (i : Nat) (ys : List Int) (h : i + ys.length ≤ xs.length) : (ov xs i ys).length = xs.length := by
  unfold ov; rw [List.length_append, List.length_append, List.length_take, List.length_drop]; omega
theorem headB_length (k n l : Int) : (headB k n l).length = 12 := by simp [headB]
def pageRest (k n : Int) (xs : List Int) : List Int := headB k n xs.length ++ (xs ++ List.replicate (240 - xs.length) 0)
def encPage (k n : Int) (xs : List Int) : List Int := lowB (crcOf (pageRest k n xs)) 4 ++ pageRest k n xs
theorem pageRest_length (k n : Int) (xs : List Int) (h : xs.length ≤ 240) : (pageRest k n xs).length = 252 := by
  simp only [pageRest, List.length_append, headB_length, List.length_replicate]; omega
theorem page_two (k n : Int) (xs : List Int) (h : xs.length ≤ 240) : ov (ov (List.replicate 256 0) 4 (headB k n xs.length)) 16 xs = List.replicate 4 0 ++ pageRest k n xs := by
  have h1 : ov (List.replicate 256 0) 4 (headB k n xs.length) = List.replicate 4 0 ++ headB k n xs.length ++ List.replicate 240 0 := by
    unfold ov
    rw [headB_length, List.take_replicate, List.drop_replicate]
    rfl
  rw [h1]
  unfold ov pageRest
  rw [List.take_append_of_le_length (by simp only [List.length_append, List.length_replicate, headB_length]; omega), List.take_of_length_le (by simp only [List.length_append, List.length_replicate, headB_length]; omega), List.drop_append, List.drop_of_length_le (by simp only [List.length_append, List.length_replicate, headB_length]; omega), List.nil_append, List.drop_replicate]
  simp only [List.append_assoc, List.length_append, List.length_replicate, headB_length]
  congr 3
  congr 1
  omega
theorem pg1_length (k n l : Int) : (ov (List.replicate 256 0) 4 (headB k n l)).length = 256 := by
  rw [ov_length _ _ _ (by rw [headB_length, List.length_replicate]; omega), List.length_replicate]
theorem pg2_length (k n : Int) (xs : List Int) (h : xs.length ≤ 240) : (List.replicate 4 0 ++ pageRest k n xs).length = 256 := by
  rw [List.length_append, pageRest_length k n xs h, List.length_replicate]
theorem min12 : min 12 252 = 12 := rfl
theorem min4 : min 4 256 = 4 := rfl
theorem drop4 (l : List Int) : (List.replicate 4 0 ++ l).drop 4 = l := rfl
theorem ov_first (c : Int) (l : List Int) : ov (List.replicate 4 0 ++ l) 0 (lowB c 4) = lowB c 4 ++ l := by
  unfold ov
  rw [lowB_length]
  rfl
theorem okBytes_append {a b : List Int} (ha : okBytes a) (hb : okBytes b) : okBytes (a ++ b) := fun x hx => (List.mem_append.mp hx).elim (ha x) (hb x)
theorem okBytes_low (n : Int) (k : Nat) : okBytes (lowB n k) := by
  induction k generalizing n with
  | zero => intro x hx; simp [lowB] at hx
  | succ k ih =>
    intro x hx
    rcases List.mem_cons.mp hx with rfl | hx
    · omega
    · exact ih _ x hx
theorem okBytes_rep (n : Nat) : okBytes (List.replicate n 0) := fun x hx => by rw [(List.mem_replicate.mp hx).2]; omega
theorem okBytes_rest (k n : Int) {xs : List Int} (hx : okBytes xs) : okBytes (pageRest k n xs) := by
  refine okBytes_append (okBytes_append (okBytes_low _ _) (okBytes_append (fun x hx => ?_) (okBytes_append (okBytes_low _ _) (okBytes_low _ _)))) (okBytes_append hx (okBytes_rep _))
  simp only [List.mem_cons, List.not_mem_nil, or_false] at hx
  rcases hx with rfl | rfl
  · rw [IntKind.wrap_u8]; omega
  · omega
theorem pageBytes_ok {k n : Int} {xs : List Int} (hk : 0 ≤ k ∧ k < 2 ^ 62 := by exact pm) (hx : xs.length ≤ 240 := by exact pm) (ho : okBytes xs := by exact pm) : TSpec Try.prog 78 [] [.ag [.pl (.int .i64 k), .pl (.int .i64 n), .pl (.int .i64 xs.length), .pd (encI .u8 xs)]] false [] (.ow 1 (encI .u8 (encPage k n xs))) := by
  have hor := okBytes_rest k n ho
  have hrl := pageRest_length k n xs hx
  have hr2 : (pageRest k n xs).length < 2 ^ 40 := by omega
  have hcl : crcOf (pageRest k n xs) < 4294967296 := lt32 (crcAll_lt _ hor (by omega)) (by omega)
  have hD := And.intro @pg1_length (And.intro @pg2_length (And.intro @fB_len (And.intro @chunks_1 (And.intro @overRows_encI (And.intro @headB_length (And.intro @min12 (And.intro @min4 (And.intro @Nat.min_eq_left (And.intro @page_two (And.intro @drop4 (And.intro @pageRest_length (@ov_first))))))))))))
  refine sT 23 [.tmp 2] Try.func78 fun w0 S0 ρ0 φ0 => ?_
  repeat' (first | apply W.seq | apply W.skip | apply W.region | apply W.block | apply N.code | apply N.blk | apply Sl.nil | apply W.exit | apply W.ret | apply E.hit | apply E.code | apply E.fin | refine zM ?_ | apply O.i | refine sP ?_ | refine sQ fun _ => ?_ | refine sX fun _ => ?_ | refine sY fun _ => ?_ | refine sYA fun _ => ?_ | (refine rD (id := 2) (fun b => b == 4) [5] ?_; refine rP 0 false fun _ => ?_; refine rP 1 false fun _ => ?_; refine rP 2 false fun _ => ?_; refine rP 3 true fun _ => ?_; refine rO 4 fun _ _ _ _ _ => ?_; refine k1 false [] c144 ?_; refine k2 headBytes_ok ?_; refine rO 5 fun _ _ _ _ _ => ?_; (first | refine sY fun _ => ?_ | refine sYA fun _ => ?_); refine rE ?_) | (refine rD (id := 3) anyW [4] ?_; refine rP 0 false fun _ => ?_; refine rP 1 false fun _ => ?_; refine rP 2 false fun _ => ?_; refine rP 3 true fun _ => ?_; refine rO 4 fun _ _ _ _ _ => ?_; (first | refine sY fun _ => ?_ | refine sYA fun _ => ?_); refine rE ?_) | (refine k1 false [] c145 ?_; refine k2 (imCrc32_ok (xs := pageRest k n xs)) ?_) | (refine k1 false [] c129 ?_; refine k2 (low4_ok (n := crcOf (pageRest k n xs))) ?_) | refine zI ?_ ?_ | (intro hb; (try simp [-List.getD_eq_getElem?_getD] at hb); (try (exfalso; omega))))
  unfold encPage
  exact rT

/-! The program's EncodePage. -/
theorem imEncodePage_ok {k n : Int} {xs : List Int} {b : Bool} (hx : xs.length < 2 ^ 40 := by exact pm) (ho : okBytes xs := by exact pm) (hP : b = true ↔ headOk k n xs.length := by exact pm) : TSpec Try.prog 15 [] [.pl (.int .i64 k), .pl (.int .i64 n), .pd (encI .u8 xs)] false [] (.tu [.ow 1 (encI .u8 (if b then encPage k n xs else [])), .pl (.bool b)]) := by
  have hD := dN0
  refine sT 22 [.tmp 6, .tmp 7] Try.func15 fun w0 S0 ρ0 φ0 => ?_
  repeat' (first | apply W.seq | apply W.skip | refine W.region (id := 0) ?_ | refine W.region (id := 1) ?_ | refine W.region (id := 2) ?_ | refine W.region (id := 3) ?_ | apply W.block | apply N.code | apply N.blk | apply Sl.nil | apply W.exit | apply W.ret | apply E.hit | apply E.code | apply E.fin | refine zM ?_ | apply O.i | refine sP ?_ | refine sQ fun _ => ?_ | refine sX fun _ => ?_ | (refine k1 false [] c77 ?_; refine k2 (valid_ok (b := b)) ?_) | (refine k1 false [] c78 ?_; refine k2 pageBytes_ok ?_) | refine zI ?_ ?_ | (intro hb; (try simp [-List.getD_eq_getElem?_getD] at hb); (try (exfalso; omega))))
  · obtain rfl : b = false := by simpa using hb
    simp only [Bool.false_eq_true, if_false]
    exact rT
  · obtain rfl : b = true := by simpa using hb
    have hok := hP.mp rfl
    unfold headOk at hok
    simp only [if_true]
    repeat' (first | apply W.seq | apply W.skip | apply W.region | apply W.block | apply N.code | apply N.blk | apply Sl.nil | apply W.exit | apply W.ret | apply E.hit | apply E.code | apply E.fin | refine zM ?_ | apply O.i | refine sP ?_ | refine sQ fun _ => ?_ | refine sX fun _ => ?_ | (refine k1 false [] c77 ?_; refine k2 (valid_ok (b := b)) ?_) | (refine k1 false [] c78 ?_; refine k2 pageBytes_ok ?_) | refine zI ?_ ?_ | (intro hb; (try simp [-List.getD_eq_getElem?_getD] at hb); (try (exfalso; omega))))
    exact rT
end Go.Proofs.Ytfmbifnbmlhhjaa

