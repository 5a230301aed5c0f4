/- Rows made of a list of things, row by row; marked lists; sums of sizes. -/
import Derived.Test.YtekdhfppbahidaaU21
namespace Go.Vcg
open Go.IntWalk

/-! ## Lists, step by step -/

theorem getD_set_self {α : Type} (l : List α) (i : Nat) (a d : α) (h : i < l.length) : (l.set i a).getD i d = a := by
  rw [List.getD_eq_getElem?_getD, List.getElem?_set_self h]; rfl
theorem take_step {α : Type} (d : α) (z : α) (xs : List α) (k : Nat) (h : k < xs.length) : (xs.take k ++ List.replicate (xs.length - k) z).set k (xs.getD k d) = xs.take (k + 1) ++ List.replicate (xs.length - (k + 1)) z := by
  have h1 : (xs.take k).length = k := by rw [List.length_take]; omega
  have h2 : xs.length - k = (xs.length - (k + 1)) + 1 := by omega
  rw [List.set_append_right _ _ (by omega), h1, Nat.sub_self, h2, List.replicate_succ, List.set_cons_zero, List.getD_eq_getElem?_getD]
  rw [← List.take_append_getElem h, List.append_assoc, List.getElem?_eq_getElem h]
  rfl
theorem take_eq_step {α : Type} (d : α) (xs ys : List α) (k : Nat) (h1 : k < xs.length) (h2 : k < ys.length) (h : xs.take k = ys.take k) (he : xs.getD k d = ys.getD k d) : xs.take (k + 1) = ys.take (k + 1) := by
  rw [← List.take_append_getElem h1, ← List.take_append_getElem h2, h]
  rw [List.getD_eq_getElem?_getD, List.getD_eq_getElem?_getD, List.getElem?_eq_getElem h1, List.getElem?_eq_getElem h2] at he
  rw [show xs[k] = ys[k] from he]
theorem take_all_eq {α : Type} {xs ys : List α} {k : Nat} (h : xs.take k = ys.take k) (h1 : k = xs.length) (h2 : xs.length = ys.length) : xs = ys := by
  rw [h1, List.take_length, h2, List.take_length] at h; exact h
theorem set_step {α : Type} (d : α) (xs ys : List α) (k : Nat) (h : k < xs.length) (hl : ys.length = xs.length) : (ys.take k ++ xs.drop k).set k (ys.getD k d) = ys.take (k + 1) ++ xs.drop (k + 1) := by
  have h1 : (ys.take k).length = k := by rw [List.length_take]; omega
  have hk : k < ys.length := by omega
  rw [List.set_append_right _ _ (by omega), h1, Nat.sub_self, List.drop_eq_getElem_cons h, List.set_cons_zero, List.getD_eq_getElem?_getD, List.getElem?_eq_getElem hk]
  rw [← List.take_append_getElem hk, List.append_assoc]
  rfl
theorem take_drop_all {α : Type} (xs ys : List α) (h : ys.length = xs.length) : ys.take xs.length ++ xs.drop xs.length = ys := by
  rw [← h, List.take_length, h, List.drop_length, List.append_nil]
theorem td_getD {α : Type} (xs ys : List α) (k : Nat) (d : α) (hl : ys.length = xs.length) (h : k < xs.length) : (ys.take k ++ xs.drop k).getD k d = xs.getD k d := by
  have h1 : (ys.take k).length = k := by rw [List.length_take]; omega
  rw [List.getD_eq_getElem?_getD, List.getElem?_append_right (by omega), h1, Nat.sub_self, List.getElem?_drop, Nat.add_zero, List.getD_eq_getElem?_getD]
theorem td_length {α : Type} (xs ys : List α) (k : Nat) (hl : ys.length = xs.length) (h : k ≤ xs.length) : (ys.take k ++ xs.drop k).length = xs.length := by
  rw [List.length_append, List.length_take, List.length_drop]; omega
theorem tr_length {α : Type} (xs : List α) (k : Nat) (z : α) (h : k ≤ xs.length) : (xs.take k ++ List.replicate (xs.length - k) z).length = xs.length := by
  rw [List.length_append, List.length_take, List.length_replicate]; omega
theorem decide_ne_of_take {α : Type} [DecidableEq α] {xs ys : List α} (d : α) (k : Nat) (h : ¬ xs.getD k d = ys.getD k d) : decide (xs = ys) = false := decide_eq_false fun e => h (by rw [e])

theorem app_getD {α : Type} (l : List α) (x d : α) (k : Nat) (h : l.length = k) : (l ++ [x]).getD k d = x := by
  subst h; rw [List.getD_eq_getElem?_getD, List.getElem?_append_right (Nat.le_refl _), Nat.sub_self]; rfl
theorem app_set {α : Type} (l : List α) (x y : α) (k : Nat) (h : l.length = k) : (l ++ [x]).set k y = l ++ [y] := by
  subst h; rw [List.set_append_right _ _ (Nat.le_refl _), Nat.sub_self]; rfl

theorem forall_step {p : Nat → Prop} {k : Nat} (h : ∀ i, i < k → p i) (hk : p k) : ∀ i, i < k + 1 → p i := fun i hi => by
  by_cases e : i < k
  · exact h i e
  · obtain rfl : i = k := by omega
    exact hk
theorem forall_zero {p : Nat → Prop} : ∀ i, i < 0 → p i := fun i hi => absurd hi (Nat.not_lt_zero i)

/-! ## Rows, thing by thing -/

def encL {α : Type} (f : α → List SV) (xs : List α) : Rows := xs.map f
section
variable {α : Type} (f : α → List SV)
theorem encL_length (xs : List α) : (encL f xs).length = xs.length := by simp [encL]
theorem encL_getD [Inhabited α] (xs : List α) (k : Nat) (h : k < xs.length) : (encL f xs).getD k [] = f (xs.getD k default) := by
  simp [encL, List.getD_eq_getElem?_getD, h]
theorem encL_nil : encL f [] = [] := rfl
theorem encL_cons (x : α) (xs : List α) : encL f (x :: xs) = f x :: encL f xs := rfl
theorem encL_append (xs ys : List α) : encL f xs ++ encL f ys = encL f (xs ++ ys) := by simp [encL]
theorem encL_take (n : Nat) (xs : List α) : (encL f xs).take n = encL f (xs.take n) := by simp [encL, List.map_take]
theorem encL_drop (n : Nat) (xs : List α) : (encL f xs).drop n = encL f (xs.drop n) := by simp [encL, List.map_drop]
theorem encL_isEmpty (xs : List α) : (encL f xs).isEmpty = xs.isEmpty := by cases xs <;> rfl
theorem encL_clo (hf : ∀ x, cloRow (f x) = true) (xs : List α) : cloRows (encL f xs) = true := List.all_eq_true.mpr fun r hr => by obtain ⟨x, _, rfl⟩ := List.mem_map.mp hr; exact hf x
theorem encL_shut (hf : ∀ x, shutL (f x) = true) (xs : List α) : shutRows (encL f xs) = true := by
  rw [shutRows_eq]; exact List.all_eq_true.mpr fun r hr => by obtain ⟨x, _, rfl⟩ := List.mem_map.mp hr; rw [← shutL_eq]; exact hf x
theorem encL_dup (hf : ∀ x, (f x).all SV.dup = true) (xs : List α) : dupRows (encL f xs) = true := List.all_eq_true.mpr fun r hr => by obtain ⟨x, _, rfl⟩ := List.mem_map.mp hr; exact hf x
theorem encL_frz {g : α → List SV} (hf : ∀ x, frzL (f x) = g x) (xs : List α) : frzRows (encL f xs) = encL g xs := by
  rw [frzRows_eq]
  unfold encL
  rw [List.map_map]
  exact List.map_congr_left fun x _ => by rw [Function.comp_apply, ← hf x, frzL_eq]
theorem encL_rowsLen {n : Nat} (hf : ∀ x, (f x).length = n) (xs : List α) : RowsLen (encL f xs) n = True := eq_true fun r hr => by obtain ⟨x, _, rfl⟩ := List.mem_map.mp hr; exact hf x
theorem to_stepL [Inhabited α] (z : List SV) (xs : List α) (k : Nat) (h : k < xs.length) : (encL f (xs.take k) ++ List.replicate (xs.length - k) z).set k (f (xs.getD k default)) = encL f (xs.take (k + 1)) ++ List.replicate (xs.length - (k + 1)) z := by
  have := take_step [] z (encL f xs) k (by rw [encL_length]; exact h)
  rw [encL_length, encL_getD f xs k h, encL_take, encL_take] at this
  exact this
theorem to_allL (z : List SV) (xs : List α) : encL f (xs.take xs.length) ++ List.replicate (xs.length - xs.length) z = encL f xs := by
  rw [List.take_length, Nat.sub_self, List.replicate_zero, List.append_nil]
theorem to_lengthL (z : List SV) (xs : List α) (k : Nat) (h : k ≤ xs.length) : (encL f (xs.take k) ++ List.replicate (xs.length - k) z).length = xs.length := by
  rw [List.length_append, encL_length, List.length_take, List.length_replicate]; omega
theorem to_getDL (z : List SV) (xs : List α) (k : Nat) (h : k < xs.length) : (encL f (xs.take k) ++ List.replicate (xs.length - k) z).getD k [] = z := by
  have h1 : (encL f (xs.take k)).length = k := by rw [encL_length, List.length_take]; omega
  rw [List.getD_eq_getElem?_getD, List.getElem?_append_right (by omega), h1, Nat.sub_self, List.getElem?_replicate, if_pos (by omega)]; rfl
theorem mk_stepL [Inhabited α] (xs ys : List α) (k : Nat) (h : k < xs.length) (hl : ys.length = xs.length) : (encL f (ys.take k ++ xs.drop k)).set k (f (ys.getD k default)) = encL f (ys.take (k + 1) ++ xs.drop (k + 1)) := by
  rw [← set_step default xs ys k h hl]
  simp [encL, List.map_set]
end

/-! ## What is marked, how much there is -/

def sumN {α : Type} (ct : α → Nat) : List α → Nat
  | [] => 0
  | x :: xs => ct x + sumN ct xs
theorem sumN_nil {α : Type} (ct : α → Nat) : sumN ct [] = 0 := rfl
def mkS {α : Type} (mk : Int → α → α) (ct : α → Nat) : Int → List α → List α
  | _, [] => []
  | b, x :: xs => mk b x :: mkS mk ct (b + ct x) xs
section
variable {α : Type} (ct : α → Nat) (mk : Int → α → α)
theorem sumN_append (xs ys : List α) : sumN ct (xs ++ ys) = sumN ct xs + sumN ct ys := by
  induction xs with
  | nil => simp [sumN]
  | cons x xs ih => simp only [List.cons_append, sumN, ih]; omega
theorem sumN_step [Inhabited α] (xs : List α) (k : Nat) (h : k < xs.length) : sumN ct (xs.take (k + 1)) = sumN ct (xs.take k) + ct (xs.getD k default) := by
  rw [← List.take_append_getElem h, sumN_append, List.getD_eq_getElem?_getD, List.getElem?_eq_getElem h]; rfl
theorem sumN_le (xs : List α) (k : Nat) : sumN ct (xs.take k) ≤ sumN ct xs := by
  have := sumN_append ct (xs.take k) (xs.drop k)
  rw [List.take_append_drop] at this
  omega
theorem sumN_get [Inhabited α] (xs : List α) (k : Nat) (h : k < xs.length) : sumN ct (xs.take k) + ct (xs.getD k default) ≤ sumN ct xs := by
  rw [← sumN_step ct xs k h]; exact sumN_le ct xs (k + 1)
theorem mkS_length (b : Int) (xs : List α) : (mkS mk ct b xs).length = xs.length := by
  induction xs generalizing b with
  | nil => rfl
  | cons x xs ih => simp [mkS, ih]
theorem mkS_getD [Inhabited α] (b : Int) (xs : List α) (k : Nat) (h : k < xs.length) : (mkS mk ct b xs).getD k default = mk (b + sumN ct (xs.take k)) (xs.getD k default) := by
  induction xs generalizing b k with
  | nil => simp at h
  | cons x xs ih =>
    cases k with
    | zero => simp [mkS, sumN]
    | succ k =>
      have := ih (b + ct x) k (by simpa using h)
      simp only [mkS, List.getD_cons_succ, List.take_succ_cons, sumN]
      rw [this]
      congr 1
      omega
end
theorem mk_nextL {α : Type} [Inhabited α] (f : α → List SV) (mk : Int → α → α) (ct : α → Nat) (b : Int) (xs : List α) (k : Nat) (h : k < xs.length) : (encL f ((mkS mk ct b xs).take k ++ xs.drop k)).set k (f (mk (b + sumN ct (xs.take k)) (xs.getD k default))) = encL f ((mkS mk ct b xs).take (k + 1) ++ xs.drop (k + 1)) := by
  have := mk_stepL f xs (mkS mk ct b xs) k h (mkS_length ct mk b xs)
  rw [mkS_getD ct mk b xs k h] at this
  exact this
/-- The bytes of a marked slice. -/
def markL (k : IntKind) (b : Int) (n : Nat) : List Int := (List.range n).map fun (i : Nat) => k.wrap (b + i)
theorem markL_length (k : IntKind) (b : Int) (n : Nat) : (markL k b n).length = n := by simp [markL]
theorem markL_getD (k : IntKind) (b : Int) (n i : Nat) (h : i < n) : (markL k b n).getD i 0 = k.wrap (b + i) := by simp [markL, List.getD_eq_getElem?_getD, h]

/-! ## Calls, the contract last -/

section
variable {C : Cx} {st st' : St} {K : St → Prop} {ops : Array Oper} {l : List Oper} {ty : Nat} {pos : String} {af : Array Edge} {g : Option (Nat × Bool)}
theorem O.k {c : Call} {f : Nat} {d : Option Nat} (sh : Bool) (pa : List (Nat × Nat × Option Nat)) {bs : Bs} {pins ps : Pins} {args : List SV} {r : SV} (hk : CallOk C.P f) (hc : c.callee = .value (.func f)) (_hb0 : pa.map (pinAt (c.args.toList.map st.ev)) = bs)
    (hbs : bsOk bs = true) (hw : ∀ q ∈ bs, C.M.wr q.2) (hp : pinsOf st.blk (toPin bs) bs = some pins) (ha : (c.args.toList.map st.ev).map (argSV (lentB st bs sh) (toPin bs)) = args) (hsp : TSpec C.P f pins args sh ps r) (hd : dOk st.n d) (hi : impOk r) (hb : bindR (backs st bs ps) d r = st') (h : Sl C ops l st' K) :
    Sl C ops ({ dst := d, op := .call c, type := ty, pos := pos, after := af, guard := none } :: l) st K := O.c bs hsp hk hc hbs hw hp ha hd hi hb h
end
section
variable {P : Program} {W : Nat → Bool} {ws : List Nat} {pan : List PanicEntry → Prop} {fuel i : Nat} {listed : Array Bool} {st st' : St} {K : St → Prop} {l : List Oper}
theorem RA.k {ty : Nat} {d : Option Nat} {pos : String} {af : Array Edge} {c : Call} {f : Nat} (sh : Bool) (pa : List (Nat × Nat × Option Nat)) {bs : Bs} {pins ps : Pins} {args : List SV} {r : SV} (hk : CallOk P f)
    (ho : nthO l i = some { dst := d, op := .call c, type := ty, pos := pos, after := af, guard := none }) (hr : Region.ready .any l.toArray listed = [i]) (hc : c.callee = .value (.func f)) (_hb0 : pa.map (pinAt (c.args.toList.map st.ev)) = bs) (hbs : bsOk bs = true) (hw : ∀ q ∈ bs, ws.contains i = true ∧ W q.2 = true)
    (hp : pinsOf st.blk (toPin bs) bs = some pins) (ha : (c.args.toList.map st.ev).map (argSV (lentB st bs sh) (toPin bs)) = args) (hsp : TSpec P f pins args sh ps r) (hd : dOk st.n d) (hi : impOk r) (hb : bindR (backs st bs ps) d r = st')
    (h : RA P W ws pan l.toArray fuel (listed.setIfInBounds i true) st' K) : RA P W ws pan l.toArray (fuel + 1) listed st K := RA.c1 bs hsp hk ho hr hc hbs hw hp ha hd hi hb h
theorem RX.k {is : List Nat} {ty : Nat} {d : Option Nat} {pos : String} {af : Array Edge} {c : Call} {f : Nat} (sh : Bool) (pa : List (Nat × Nat × Option Nat)) {bs : Bs} {pins ps : Pins} {args : List SV} {r : SV} (hk : CallOk P f)
    (ho : nthO l i = some { dst := d, op := .call c, type := ty, pos := pos, after := af, guard := none }) (hc : c.callee = .value (.func f)) (_hb0 : pa.map (pinAt (c.args.toList.map st.ev)) = bs) (hbs : bsOk bs = true) (hw : ∀ q ∈ bs, ws.contains i = true ∧ W q.2 = true)
    (hp : pinsOf st.blk (toPin bs) bs = some pins) (ha : (c.args.toList.map st.ev).map (argSV (lentB st bs sh) (toPin bs)) = args) (hsp : TSpec P f pins args sh ps r) (hd : dOk st.n d) (hi : impOk r) (hb : bindR (backs st bs ps) d r = st')
    (h : RA P W ws pan l.toArray fuel (listed.setIfInBounds i true) st' K) (hr : RAll P W ws pan l.toArray fuel listed st K is) : RAll P W ws pan l.toArray fuel listed st K (i :: is) := RX.c bs hsp hk ho hc hbs hw hp ha hd hi hb h hr
end

theorem chunks_zero (row : List SV) (k : Nat) : chunks row k 0 = [] := rfl
theorem chunks_one (row : List SV) (k : Nat) : chunks row k 1 = [row.take k] := by simp [chunks, List.range_succ]
theorem chunks_two (row : List SV) (k : Nat) : chunks row k 2 = [row.take k, (row.drop k).take k] := by simp [chunks, List.range_succ]
theorem chunks_three (row : List SV) (k : Nat) : chunks row k 3 = [row.take k, (row.drop k).take k, (row.drop (2 * k)).take k] := by simp [chunks, List.range_succ]
attribute [go_sem] chunks_one chunks_two chunks_three Nat.one_mul Nat.mul_one Nat.zero_mul Nat.mul_zero List.replicate_one killRows_cons killRows_nil rnRows_cons rnRows_nil sbRows_cons sbRows_nil cloRows_cons cloRow_cons cloRows_nil cloRow_nil chunks_zero Bool.not_not Bool.or_not_self Bool.not_or_self sumN_nil encL_length encL_nil List.set_set markL_length mkS_length
attribute [go_sem] lendRows_nil lendRows_cons lendRows_clo encI_nil encI_getD i64_in u8_in u32_in u16_in u64_in getD_set_self td_getD td_length tr_length markL_getD encL_getD to_lengthL to_getDL killRows_clo rnRows_clo sbRows_clo cloRows_set cloRows_append cloRows_replicate encI_clo encI_frz encI_shut List.take_of_length_le mkS_getD app_getD app_set
attribute [simp] markL_length mkS_length encL_length

end Go.Vcg
