/- The law FnExactCrc32, printed as a Lean function, answers true at every list of bytes that can be read: no condition. -/
import Derived.Test.YtekdhfppbahidaaPFnExactCrc32x1
namespace Go.Proofs.Ytekdhfppbahidaa.Pure
open Go.RowKit Go.Proofs.Ytekdhfppbahidaa.PFnExactCrc32 Go.Proofs.YtekdhfppbahidaaW.PrintWords Go.Proofs.YtekdhfppbahidaaW.PrintLast Go.Proofs.YtekdhfppbahidaaW.PrintMore

/-! The plain checksum. -/
def crcBit (h : Nat) : Nat := if h % 2 = 1 then (h / 2) ^^^ 3988292384 else h / 2
def crcBits : Nat → Nat → Nat
  | 0, h => h
  | n + 1, h => crcBits n (crcBit h)
def crcAll : List Int → Nat → Nat
  | [], h => h
  | c :: r, h => crcAll r (crcBits 8 (h ^^^ c.toNat))

theorem lt32 {a b : Nat} (ha : a < 4294967296) (hb : b < 4294967296) : a ^^^ b < 4294967296 := Nat.xor_lt_two_pow (n := 32) ha hb
theorem crcBit_lt {h : Nat} (hh : h < 4294967296) : crcBit h < 4294967296 := by
  unfold crcBit
  split
  · exact lt32 (by omega) (by omega)
  · omega
theorem crcBits_lt (n : Nat) : ∀ {h : Nat}, h < 4294967296 → crcBits n h < 4294967296 := by
  induction n with
  | zero => intro h hh; exact hh
  | succ n ih => intro h hh; exact ih (crcBit_lt hh)

theorem i64_xor_nat (a b : Nat) (ha : a < 4294967296) (hb : b < 4294967296) : bits .xor .i64 (a : Int) (b : Int) = ((a ^^^ b : Nat) : Int) := by
  have hx := lt32 ha hb
  show IntKind.i64.wrap ((BitVec.ofInt 64 (a : Int) ^^^ BitVec.ofInt 64 (b : Int)).toNat : Int) = _
  rw [BitVec.toNat_xor, ofInt_u64 a (by omega), ofInt_u64 b (by omega)]
  simp [IntKind.wrap, IntKind.bits, IntKind.signed]
  omega
theorem and_one (a : Nat) (ha : a < 4294967296) : bits .and .u32 (a : Int) 1 = ((a % 2 : Nat) : Int) := by
  have := u32_and_nat a 1 ha (by omega)
  rw [Nat.and_one_is_mod] at this
  exact this
theorem wrap_up (i : Int) (h0 : 0 ≤ i) (h1 : i ≤ 140737488355328) : wrap64 (i + 1) = i + 1 := by
  unfold wrap64
  omega
theorem wrap_half (h : Nat) (hh : h < 4294967296) : wrap64 (Int.tdiv (h : Int) 2) = ((h / 2 : Nat) : Int) := by
  rw [Int.tdiv_eq_ediv_of_nonneg (by omega)]
  unfold wrap64
  omega
theorem mod_two (h : Nat) : Int.tmod (h : Int) 2 = ((h % 2 : Nat) : Int) := by
  rw [Int.tmod_eq_emod_of_nonneg (by omega)]
  omega

theorem spec_bits (l : List Int) (i : Int) (r : Int) (d : Nat) : ∀ (j : Int) (h : Nat), 0 ≤ j → j + d = 8 → h < 4294967296 →
    Ev (fun k => spec_Crc32.l0 k l (crcBits d h : Nat) (wrap64 (i + 1))) r → Ev (fun k => spec_Crc32.l1 k l (h : Int) i j) r := by
  induction d with
  | zero =>
    intro j h h0 hj hh hr
    refine Ev.step (f := fun k => spec_Crc32.l0 k l (h : Int) (wrap64 (i + 1))) (fun k => ?_) hr
    simp only [spec_Crc32.l1]
    rw [if_neg (by omega)]
  | succ d ih =>
    intro j h h0 hj hh hr
    refine Ev.step (f := fun k => spec_Crc32.l1 k l (crcBit h : Nat) i (j + 1)) (fun k => ?_) (ih (j + 1) (crcBit h) (by omega) (by omega) (crcBit_lt hh) hr)
    simp only [spec_Crc32.l1]
    rw [if_pos (by omega), mod_two, wrap_half h hh, wrap_up j h0 (by omega)]
    unfold crcBit
    by_cases hb : h % 2 = 1
    · rw [if_pos (by omega), if_pos hb]
      have := i64_xor_nat (h / 2) 3988292384 (by omega) (by omega)
      rw [show ((3988292384 : Nat) : Int) = 3988292384 from rfl] at this
      rw [this]
    · rw [if_neg (by omega), if_neg hb]

theorem impl_bits (l : List Int) (n i : Int) (r : Int) (d : Nat) : ∀ (j : Int) (h : Nat), 0 ≤ j → j + d = 8 → h < 4294967296 →
    Ev (fun k => impl_Crc32.l0 k (crcBits d h : Nat) l n (wrap64 (i + 1))) r → Ev (fun k => impl_Crc32.l1 k (h : Int) l n i j) r := by
  induction d with
  | zero =>
    intro j h h0 hj hh hr
    refine Ev.step (f := fun k => impl_Crc32.l0 k (h : Int) l n (wrap64 (i + 1))) (fun k => ?_) hr
    simp only [impl_Crc32.l1]
    rw [if_neg (by omega)]
  | succ d ih =>
    intro j h h0 hj hh hr
    refine Ev.step (f := fun k => impl_Crc32.l1 k (crcBit h : Nat) l n i (j + 1)) (fun k => ?_) (ih (j + 1) (crcBit h) (by omega) (by omega) (crcBit_lt hh) hr)
    simp only [impl_Crc32.l1]
    rw [if_pos (by omega), and_one h hh, wrap_up j h0 (by omega), show ((h : Int) / 2) = ((h / 2 : Nat) : Int) from by omega]
    unfold crcBit
    by_cases hb : h % 2 = 1
    · rw [if_pos (by omega), if_pos hb]
      have := u32_xor_nat (h / 2) 3988292384 (by omega) (by omega)
      rw [show ((3988292384 : Nat) : Int) = 3988292384 from rfl] at this
      rw [this]
    · rw [if_neg (by omega), if_neg hb]

theorem drop_rd (l : List Int) (n : Nat) (h : n < l.length) : l.drop n = rd l (n : Int) :: l.drop (n + 1) := by
  rw [List.drop_eq_getElem_cons h]
  unfold rd
  simp [h]

def okBytes (l : List Int) : Prop := ∀ x ∈ l, 0 ≤ x ∧ x < 256
theorem okBytes_rd {l : List Int} (hl : okBytes l) (n : Nat) (h : n < l.length) : 0 ≤ rd l (n : Int) ∧ rd l (n : Int) < 256 := by
  have : rd l (n : Int) = l[n] := by unfold rd; simp [h]
  rw [this]
  exact hl _ (List.getElem_mem h)

theorem spec_all (l : List Int) (hl : okBytes l) (hn : l.length ≤ 1048576) (d : Nat) : ∀ (n : Nat) (h : Nat), n + d = l.length → h < 4294967296 →
    Ev (fun k => spec_Crc32.l0 k l (h : Int) (n : Int)) ((crcAll (l.drop n) h ^^^ 4294967295 : Nat) : Int) := by
  induction d with
  | zero =>
    intro n h hd hh
    refine Ev.step (f := fun _ => some ((crcAll (l.drop n) h ^^^ 4294967295 : Nat) : Int)) (fun k => ?_) (Ev.now _)
    simp only [spec_Crc32.l0]
    rw [if_neg (by omega), List.drop_of_length_le (by omega)]
    have := i64_xor_nat h 4294967295 hh (by omega)
    rw [show ((4294967295 : Nat) : Int) = 4294967295 from rfl] at this
    rw [this]
    rfl
  | succ d ih =>
    intro n h hd hh
    have hlt : n < l.length := by omega
    have hb := okBytes_rd hl n hlt
    obtain ⟨c, hc⟩ := Int.eq_ofNat_of_zero_le hb.1
    have hc2 : c < 256 := by omega
    have hx := lt32 hh (show c < 4294967296 by omega)
    refine Ev.step (f := fun k => spec_Crc32.l1 k l ((h ^^^ c : Nat) : Int) n 0) (fun k => ?_) (spec_bits l n _ 8 0 (h ^^^ c) (by omega) (by omega) hx ?_)
    · simp only [spec_Crc32.l0]
      rw [if_pos (by omega), if_pos (by omega), hc, show wrap64 (c : Int) = c from by unfold wrap64; omega, i64_xor_nat h c hh (by omega)]
    · rw [wrap_up _ (by omega) (by omega), drop_rd l n hlt]
      simp only [crcAll]
      rw [hc]
      exact ih (n + 1) (crcBits 8 (h ^^^ c)) (by omega) (crcBits_lt 8 hx)

theorem impl_all (l : List Int) (hl : okBytes l) (hn : l.length ≤ 1048576) (d : Nat) : ∀ (n : Nat) (h : Nat), n + d = l.length → h < 4294967296 →
    Ev (fun k => impl_Crc32.l0 k (h : Int) l (l.length : Int) (n : Int)) ((crcAll (l.drop n) h ^^^ 4294967295 : Nat) : Int) := by
  induction d with
  | zero =>
    intro n h hd hh
    refine Ev.step (f := fun _ => some ((crcAll (l.drop n) h ^^^ 4294967295 : Nat) : Int)) (fun k => ?_) (Ev.now _)
    simp only [impl_Crc32.l0]
    rw [if_neg (by omega), List.drop_of_length_le (by omega)]
    have := u32_xor_nat h 4294967295 hh (by omega)
    rw [show ((4294967295 : Nat) : Int) = 4294967295 from rfl] at this
    have hx := lt32 hh (show 4294967295 < 4294967296 by omega)
    rw [this]
    simp only [crcAll]
    rw [show wrap64 ((h ^^^ 4294967295 : Nat) : Int) = ((h ^^^ 4294967295 : Nat) : Int) from by unfold wrap64; omega]
  | succ d ih =>
    intro n h hd hh
    have hlt : n < l.length := by omega
    have hb := okBytes_rd hl n hlt
    obtain ⟨c, hc⟩ := Int.eq_ofNat_of_zero_le hb.1
    have hc2 : c < 256 := by omega
    have hx := lt32 hh (show c < 4294967296 by omega)
    refine Ev.step (f := fun k => impl_Crc32.l1 k ((h ^^^ c : Nat) : Int) l (l.length : Int) n 0) (fun k => ?_) (impl_bits l _ n _ 8 0 (h ^^^ c) (by omega) (by omega) hx ?_)
    · simp only [impl_Crc32.l0]
      rw [if_pos (by omega), if_pos (by omega), if_pos (by omega), hc, show (c : Int) % 4294967296 = c from by omega, u32_xor_nat h c hh (by omega)]
    · rw [wrap_up _ (by omega) (by omega), drop_rd l n hlt]
      simp only [crcAll]
      rw [hc]
      exact ih (n + 1) (crcBits 8 (h ^^^ c)) (by omega) (crcBits_lt 8 hx)

theorem copy_loop (l : List Int) (hn : l.length ≤ 1048576) (d : Nat) : ∀ (n : Nat) (m : List Int), n + d = l.length → m.length = l.length → m.take n = l.take n →
    Ev (fun k => laws_toByteS.l0 k l m (n : Int)) l := by
  induction d with
  | zero =>
    intro n m hd hm ht
    refine Ev.step (f := fun _ => some l) (fun k => ?_) (Ev.now _)
    simp only [laws_toByteS.l0]
    rw [if_neg (by omega)]
    rw [List.take_of_length_le (by omega), List.take_of_length_le (by omega)] at ht
    rw [ht]
  | succ d ih =>
    intro n m hd hm ht
    refine Ev.step (f := fun k => laws_toByteS.l0 k l (m.set n (rd l n)) ((n + 1 : Nat) : Int)) (fun k => ?_) (ih (n + 1) _ (by omega) (by simpa using hm) ?_)
    · simp only [laws_toByteS.l0]
      rw [if_pos (by omega), if_pos (by omega), if_pos (by omega), wrap_up _ (by omega) (by omega)]
      rfl
    · have h1 : n < l.length := by omega
      have h2 : n < m.length := by omega
      rw [List.take_add_one, List.take_add_one, List.take_set_of_le (Nat.le_refl n), ht]
      simp [h1, h2, rd]

theorem copy_ev (l : List Int) (hn : l.length ≤ 1048576) : Ev (fun k => laws_toByteS.f k l) l := by
  refine Ev.congr (f := fun k => laws_toByteS.l0 k l (List.replicate l.length 0) ((0 : Nat) : Int)) (fun k => ?_) (copy_loop l hn l.length 0 _ (by omega) (by simp) (by simp))
  unfold laws_toByteS.f
  rw [if_pos (by omega), if_pos (by omega)]
  rfl

theorem eq_loop (l : List Int) (hn : l.length ≤ 1048576) (d : Nat) : ∀ (n : Nat), n + d = l.length → Ev (fun k => laws_eqByteS.l0 k l l (n : Int)) true := by
  induction d with
  | zero =>
    intro n hd
    refine Ev.step (f := fun _ => some true) (fun k => ?_) (Ev.now _)
    simp only [laws_eqByteS.l0]
    rw [if_neg (by omega)]
  | succ d ih =>
    intro n hd
    refine Ev.step (f := fun k => laws_eqByteS.l0 k l l ((n + 1 : Nat) : Int)) (fun k => ?_) (ih (n + 1) (by omega))
    simp only [laws_eqByteS.l0]
    rw [if_pos (by omega), if_pos (by omega), if_pos (by omega), if_pos trivial, wrap_up _ (by omega) (by omega)]
    rfl

theorem eq_ev (l : List Int) (hn : l.length ≤ 1048576) : Ev (fun k => laws_eqByteS.f k l l) true := by
  refine Ev.congr (f := fun k => laws_eqByteS.l0 k l l ((0 : Nat) : Int)) (fun k => ?_) (eq_loop l hn l.length 0 (by omega))
  unfold laws_eqByteS.f
  rw [if_pos rfl]
  rfl

theorem spec_ev (l : List Int) (hl : okBytes l) (hn : l.length ≤ 1048576) : Ev (fun k => spec_Crc32.f k l) ((crcAll l 4294967295 ^^^ 4294967295 : Nat) : Int) :=
  spec_all l hl hn l.length 0 4294967295 (by omega) (by omega)
theorem impl_ev (l : List Int) (hl : okBytes l) (hn : l.length ≤ 1048576) : Ev (fun k => impl_Crc32.f k l) ((crcAll l 4294967295 ^^^ 4294967295 : Nat) : Int) :=
  impl_all l hl hn l.length 0 4294967295 (by omega) (by omega)

theorem wf_u8 {x : Int} (wf : (Lit.int .u8 x).wf = true) : 0 ≤ x ∧ x < 256 := by
  have h1 : IntKind.u8.min = 0 := by decide +kernel
  have h2 : IntKind.u8.max = 255 := by decide +kernel
  have wf2 : (decide (IntKind.u8.min ≤ x) && decide (x ≤ IntKind.u8.max)) = true := wf
  rw [h1, h2] at wf2
  simp at wf2
  omega

theorem FnExactCrc32 : laws_FnExactCrc32.Pure := by
  intro l _ _ wf
  by_cases hn : (l.length : Int) > 1048576
  · exact ⟨0, by unfold laws_FnExactCrc32.f; rw [if_pos hn]⟩
  · have hl : okBytes l := fun x hx => wf_u8 (wf x hx)
    have hn2 : l.length ≤ 1048576 := by omega
    refine Ev.rounds (g := fun k => laws_FnExactCrc32.f k l) ?_
    refine Ev.congr (fun k => by unfold laws_FnExactCrc32.f; rw [if_neg hn]) ?_
    refine Ev.bind (copy_ev l hn2) (Ev.bind (spec_ev l hl hn2) (Ev.bind (copy_ev l hn2) (Ev.bind (impl_ev l hl hn2) ?_)))
    refine Ev.congr (fun k => by rw [if_pos rfl]) ?_
    refine Ev.bind (copy_ev l hn2) (Ev.bind (eq_ev l hn2) ?_)
    exact Ev.congr (fun k => by rw [if_pos rfl]) (Ev.now true)

end Go.Proofs.Ytekdhfppbahidaa.Pure
