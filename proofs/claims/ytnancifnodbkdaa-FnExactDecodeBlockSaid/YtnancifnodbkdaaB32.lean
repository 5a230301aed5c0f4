import Derived.Test.YtnancifnodbkdaaB31
import Derived.Test.YtnancifnodbkdaaB24
namespace Go.Proofs.Ytnancifnodbkdaa
open Go Go.Vcg Go.IntWalk
set_option maxRecDepth 100000
set_option maxHeartbeats 20000000
set_option linter.unusedSimpArgs false
set_option linter.unusedVariables false
def txsI (R : List Int) (s : Bool) : Nat → List TxA × List Int × Bool
  | 0 => ([], R, s)
  | k + 1 => ((txsI R s k).1 ++ [(txI (txsI R s k).2.1 (txsI R s k).2.2).1], (txI (txsI R s k).2.1 (txsI R s k).2.2).2.1, (txI (txsI R s k).2.1 (txsI R s k).2.2).2.2)
theorem txsI_ok {R : List Int} (h : okBytes R) (s : Bool) (k : Nat) : okBytes (txsI R s k).2.1 ∧ (txsI R s k).2.1.length ≤ R.length ∧ (txsI R s k).1.length = k ∧ sumN totTx (txsI R s k).1 ≤ 512 * k := by
  induction k with
  | zero => exact ⟨h, Nat.le_refl _, rfl, by simp [txsI, sumN]⟩
  | succ k ih =>
    have h1 := txI_ok ih.1 (txsI R s k).2.2
    have e : txsI R s (k + 1) = ((txsI R s k).1 ++ [(txI (txsI R s k).2.1 (txsI R s k).2.2).1], (txI (txsI R s k).2.1 (txsI R s k).2.2).2.1, (txI (txsI R s k).2.1 (txsI R s k).2.2).2.2) := rfl
    obtain ⟨x, hx⟩ : ∃ x, x = txI (txsI R s k).2.1 (txsI R s k).2.2 := ⟨_, rfl⟩
    rw [← hx] at h1 e
    rw [e]
    dsimp only
    refine ⟨h1.1, Nat.le_trans h1.2.1 ih.2.1, by rw [List.length_append, ih.2.2.1]; rfl, ?_⟩
    rw [sumN_append]
    simp only [sumN]
    omega
/-- What the program reads: the block, what is left, whether it was short. -/
def blkI (raw : List Int) : BlockA × List Int × Bool :=
  let R1 := tkR raw 32
  let s1 := tkS raw false 32
  let R2 := tkR R1 32
  let s2 := tkS R1 s1 32
  let R3 := tkR R2 4
  let s3 := tkS R2 s2 4
  let t := txsI (tkR R3 1) (tkS R3 s3 1) (cnt R3)
  (⟨toH (tkB raw 32), toH (tkB R1 32), numI (tkB R2 4), t.1⟩, t.2.1, t.2.2)
def decOk (q : BlockA × List Int × Bool) : Prop := q.2.2 = false ∧ q.2.1.length = 0 ∧ blkOk q.1
theorem encT_snoc (ps : List TxA) (x : TxA) : encL oTx ps ++ [[.ow 33 (encL fPoint x.Ins), .ow 1 (encI .i64 x.Outs), .pl (.int .i64 x.Height)]] = encL oTx (ps ++ [x]) := by
  rw [← encL_append]
  rfl
/-! ## Reading what was written -/
theorem tk_app (x y : List Int) (s : Bool) (n : Nat) (h : x.length = n) : tkB (x ++ y) n = x ∧ tkR (x ++ y) n = y ∧ tkS (x ++ y) s n = s := by
  unfold tkB tkR tkS
  rw [if_pos (by rw [List.length_append]; omega), if_pos (by rw [List.length_append]; omega), if_pos (by rw [List.length_append]; omega)]
  subst h
  exact ⟨List.take_left, List.drop_left, rfl⟩
theorem tk_short {R : List Int} {s : Bool} {n : Nat} (h : tkS R s n = false) : s = false ∧ R = tkB R n ++ tkR R n := by
  unfold tkS at h
  split at h
  · rename_i g
    unfold tkB tkR
    rw [if_pos g, if_pos g, List.take_append_drop]
    exact ⟨h, rfl⟩
  · cases h
theorem toH_of (h : H32) : toH h.l = h := H32.ext' (toH_l h.len h.ok)
theorem lowB_leN : ∀ bs : List Int, okBytes bs → lowB (leN bs) bs.length = bs
  | [], _ => rfl
  | x :: xs, h => by
    have h1 := h x (List.mem_cons_self ..)
    have ih := lowB_leN xs fun y hy => h y (List.mem_cons_of_mem _ hy)
    rw [List.length_cons, leN, lowB]
    have e1 : ((x.toNat + 256 * leN xs : Nat) : Int) % 256 = x := by omega
    have e2 : ((x.toNat + 256 * leN xs : Nat) : Int) / 256 = leN xs := by omega
    rw [e1, e2, ih]
theorem leN_lowB (k : Nat) : ∀ v : Nat, v < 256 ^ k → leN (lowB v k) = v := by
  induction k with
  | zero => intro v hv; have : v = 0 := by simpa using hv
            subst this; rfl
  | succ k ih =>
    intro v hv
    rw [lowB, leN, show ((v : Int) / 256) = ((v / 256 : Nat) : Int) by omega, ih (v / 256) (by rw [Nat.pow_succ] at hv; omega)]
    omega
theorem numI_low {v : Int} {k : Nat} (h : 0 ≤ v ∧ v < 256 ^ k) (h2 : v < 2 ^ 62) : numI (lowB v k) = v := by
  obtain ⟨n, rfl⟩ : ∃ n : Nat, v = n := ⟨v.toNat, by omega⟩
  unfold numI
  rw [leN_lowB k n (by have := h.2; exact_mod_cast this), wrap_int (by omega) h2]
theorem numI_one {x : Int} (h : 0 ≤ x ∧ x < 256) : numI [x] = x := by
  unfold numI
  rw [show leN [x] = x.toNat by simp [leN], wrap_int (by omega) (by omega)]
  omega
theorem drop_cons {α : Type} (d : α) (l : List α) (k : Nat) (h : k < l.length) : l.drop k = l.getD k d :: l.drop (k + 1) := by
  rw [List.drop_eq_getElem_cons h, List.getD_eq_getElem?_getD, List.getElem?_eq_getElem h, Option.getD_some]
theorem encIns_cons (p : PointA) (ps : List PointA) : encIns (p :: ps) = p.Id.l ++ ([p.N] ++ encIns ps) := by
  unfold encIns
  rw [List.flatMap_cons, encIn, List.append_assoc]
theorem encOuts_cons (v : Int) (vs : List Int) : encOuts (v :: vs) = lowB v 8 ++ encOuts vs := by
  unfold encOuts
  rw [List.flatMap_cons]
theorem encTxs_cons (t : TxA) (ts : List TxA) : encTxs (t :: ts) = encTx t ++ encTxs ts := by
  unfold encTxs
  rw [List.flatMap_cons]
theorem insI_read (ps : List PointA) (rest : List Int) (s : Bool) (hv : ∀ i, i < ps.length → inOk (ps.getD i default)) : ∀ k, k ≤ ps.length → insI (encIns ps ++ rest) s k = (ps.take k, encIns (ps.drop k) ++ rest, s)
  | 0, _ => rfl
  | k + 1, hk => by
    have ih := insI_read ps rest s hv k (by omega)
    have hn := hv k (by omega)
    unfold inOk at hn
    rw [insI, ih]
    dsimp only
    rw [drop_cons default ps k (by omega), encIns_cons, List.append_assoc, List.append_assoc]
    obtain ⟨a1, a2, a3⟩ := tk_app (ps.getD k default).Id.l ([(ps.getD k default).N] ++ (encIns (ps.drop (k + 1)) ++ rest)) s 32 (H32.len _)
    obtain ⟨b1, b2, b3⟩ := tk_app [(ps.getD k default).N] (encIns (ps.drop (k + 1)) ++ rest) s 1 rfl
    rw [a1, a2, a3, b1, b2, b3, toH_of, numI_one (by omega), ← take_snoc default ps k (by omega)]
theorem outsI_read (vs : List Int) (rest : List Int) (s : Bool) (hv : ∀ i, i < vs.length → outOk (vs.getD i 0)) : ∀ k, k ≤ vs.length → outsI (encOuts vs ++ rest) s k = (vs.take k, encOuts (vs.drop k) ++ rest, s)
  | 0, _ => rfl
  | k + 1, hk => by
    have ih := outsI_read vs rest s hv k (by omega)
    have hn := hv k (by omega)
    unfold outOk at hn
    rw [outsI, ih]
    dsimp only
    rw [drop_cons 0 vs k (by omega), encOuts_cons, List.append_assoc]
    obtain ⟨a1, a2, a3⟩ := tk_app (lowB (vs.getD k 0) 8) (encOuts (vs.drop (k + 1)) ++ rest) s 8 (lowB_length _ _)
    rw [a1, a2, a3, numI_low ⟨by omega, by omega⟩ (by omega), ← take_snoc 0 vs k (by omega)]
theorem cnt_one (n : Nat) (rest : List Int) (h : n < 256) : cnt ([(n : Int)] ++ rest) = n := by
  unfold cnt
  rw [(tk_app [(n : Int)] rest false 1 rfl).1, numI_one (by omega)]
  rfl
theorem txI_read {a : TxA} (hv : txOk a) (rest : List Int) (s : Bool) : txI (encTx a ++ rest) s = (a, rest, s) := by
  obtain ⟨⟨h1, h2, h3, h4, h5⟩, h6, h7⟩ := hv
  have e : encTx a ++ rest = [(a.Ins.length : Int)] ++ (encIns a.Ins ++ ([(a.Outs.length : Int)] ++ (encOuts a.Outs ++ (lowB a.Height 4 ++ rest)))) := by simp [encTx]
  rw [e]
  unfold txI
  obtain ⟨a1, a2, a3⟩ := tk_app [(a.Ins.length : Int)] (encIns a.Ins ++ ([(a.Outs.length : Int)] ++ (encOuts a.Outs ++ (lowB a.Height 4 ++ rest)))) s 1 rfl
  rw [a2, a3, cnt_one _ _ (by omega), insI_read _ _ _ h6 _ (Nat.le_refl _), List.take_length, List.drop_length, show encIns [] = [] by unfold encIns; rfl, List.nil_append]
  dsimp only
  obtain ⟨b1, b2, b3⟩ := tk_app [(a.Outs.length : Int)] (encOuts a.Outs ++ (lowB a.Height 4 ++ rest)) s 1 rfl
  rw [b2, b3, cnt_one _ _ (by omega), outsI_read _ _ _ h7 _ (Nat.le_refl _), List.take_length, List.drop_length, show encOuts [] = [] by unfold encOuts; rfl, List.nil_append]
  dsimp only
  obtain ⟨c1, c2, c3⟩ := tk_app (lowB a.Height 4) rest s 4 (lowB_length _ _)
  rw [c1, c2, c3, numI_low ⟨h4, by omega⟩ (by omega)]
theorem txsI_read (ts : List TxA) (rest : List Int) (s : Bool) (hv : ∀ i, i < ts.length → txOk (ts.getD i default)) : ∀ k, k ≤ ts.length → txsI (encTxs ts ++ rest) s k = (ts.take k, encTxs (ts.drop k) ++ rest, s)
  | 0, _ => rfl
  | k + 1, hk => by
    have ih := txsI_read ts rest s hv k (by omega)
    rw [txsI, ih]
    dsimp only
    rw [drop_cons default ts k (by omega), encTxs_cons, List.append_assoc, txI_read (hv k (by omega)), ← take_snoc default ts k (by omega)]
theorem blkI_read {a : BlockA} (hv : blkOk a) : blkI (encBlock a) = (a, [], false) := by
  obtain ⟨⟨h1, h2⟩, h3⟩ := hv
  unfold hdOk at h2
  have e : encBlock a = a.Prev.l ++ (a.Root.l ++ (lowB a.Height 4 ++ ([(a.Txs.length : Int)] ++ (encTxs a.Txs ++ [])))) := by unfold encBlock accB encHead; simp
  rw [e]
  unfold blkI
  obtain ⟨a1, a2, a3⟩ := tk_app a.Prev.l (a.Root.l ++ (lowB a.Height 4 ++ ([(a.Txs.length : Int)] ++ (encTxs a.Txs ++ [])))) false 32 a.Prev.len
  obtain ⟨b1, b2, b3⟩ := tk_app a.Root.l (lowB a.Height 4 ++ ([(a.Txs.length : Int)] ++ (encTxs a.Txs ++ []))) false 32 a.Root.len
  obtain ⟨c1, c2, c3⟩ := tk_app (lowB a.Height 4) ([(a.Txs.length : Int)] ++ (encTxs a.Txs ++ [])) false 4 (lowB_length _ _)
  obtain ⟨d1, d2, d3⟩ := tk_app [(a.Txs.length : Int)] (encTxs a.Txs ++ []) false 1 rfl
  dsimp only
  rw [a1, a2, a3, b1, b2, b3, c1, c2, c3, d2, d3, cnt_one _ _ (by omega), txsI_read _ _ _ h3 _ (Nat.le_refl _), List.take_length, List.drop_length, show encTxs [] = [] by unfold encTxs; rfl, toH_of, toH_of, numI_low ⟨h2.1, by omega⟩ (by omega)]
  rfl
/-! ## What is read was written -/
theorem one_eq {bs : List Int} (h : okBytes bs) (hl : bs.length = 1) : [numI bs] = bs := by
  obtain ⟨x, rfl⟩ := List.length_eq_one_iff.mp hl
  have := h x (List.mem_singleton_self x)
  rw [numI_one (by omega)]
theorem low_small {bs : List Int} (h : okBytes bs) (hl : bs.length ≤ 7) : lowB (numI bs) bs.length = bs := by rw [numI_byte h hl, lowB_leN bs h]
theorem low_big {bs : List Int} (h : okBytes bs) (hl : bs.length = 8) (hv : outOk (numI bs)) : lowB (numI bs) 8 = bs := by
  have hlt := leN_lt bs h
  rw [hl] at hlt
  have e : numI bs = leN bs := by
    unfold outOk numI at hv
    unfold numI
    simp only [IntKind.wrap, IntKind.signed, IntKind.bits] at hv ⊢
    simp at hv ⊢
    omega
  have := lowB_leN bs h
  rw [hl] at this
  rw [e, this]
theorem encIns_snoc (ps : List PointA) (p : PointA) : encIns (ps ++ [p]) = encIns ps ++ (p.Id.l ++ [p.N]) := by
  unfold encIns
  rw [List.flatMap_append]
  simp [encIn]
theorem encOuts_snoc (vs : List Int) (v : Int) : encOuts (vs ++ [v]) = encOuts vs ++ lowB v 8 := by
  unfold encOuts
  rw [List.flatMap_append]
  simp
theorem encTxs_snoc (ts : List TxA) (t : TxA) : encTxs (ts ++ [t]) = encTxs ts ++ encTx t := by
  unfold encTxs
  rw [List.flatMap_append]
  simp
theorem insI_enc {R : List Int} (ho : okBytes R) (s : Bool) : ∀ k, (insI R s k).2.2 = false → s = false ∧ R = encIns (insI R s k).1 ++ (insI R s k).2.1
  | 0, h => ⟨h, by show R = encIns [] ++ R; unfold encIns; rfl⟩
  | k + 1, h => by
    have hok := (insI_ok ho s k).1
    obtain ⟨g1, g2⟩ := tk_short (show tkS (tkR (insI R s k).2.1 32) (tkS (insI R s k).2.1 (insI R s k).2.2 32) 1 = false from h)
    obtain ⟨g3, g4⟩ := tk_short g1
    obtain ⟨i1, i2⟩ := insI_enc ho s k g3
    refine ⟨i1, ?_⟩
    show R = encIns ((insI R s k).1 ++ [⟨toH (tkB (insI R s k).2.1 32), numI (tkB (tkR (insI R s k).2.1 32) 1)⟩]) ++ tkR (tkR (insI R s k).2.1 32) 1
    rw [encIns_snoc]
    dsimp only
    rw [toH_l (tkB_length _ _) (tkB_ok hok _), one_eq (tkB_ok (tkR_ok hok 32) 1) (tkB_length _ _), List.append_assoc, List.append_assoc, ← g2, ← g4]
    exact i2
theorem outsI_enc {R : List Int} (ho : okBytes R) (s : Bool) : ∀ k, (outsI R s k).2.2 = false → (∀ i, i < k → outOk ((outsI R s k).1.getD i 0)) → s = false ∧ R = encOuts (outsI R s k).1 ++ (outsI R s k).2.1
  | 0, h, _ => ⟨h, by show R = encOuts [] ++ R; unfold encOuts; rfl⟩
  | k + 1, h, hv => by
    have hok := (outsI_ok ho s k).1
    have hlen := outsI_length R s k
    obtain ⟨g3, g4⟩ := tk_short (show tkS (outsI R s k).2.1 (outsI R s k).2.2 8 = false from h)
    have e : (outsI R s (k + 1)).1 = (outsI R s k).1 ++ [numI (tkB (outsI R s k).2.1 8)] := rfl
    rw [e] at hv
    obtain ⟨i1, i2⟩ := outsI_enc ho s k g3 fun i hi => by
      have := hv i (by omega)
      rwa [List.getD_eq_getElem?_getD, List.getElem?_append_left (by omega), ← List.getD_eq_getElem?_getD] at this
    have hl := hv k (by omega)
    rw [List.getD_eq_getElem?_getD, List.getElem?_append_right (by omega), hlen, Nat.sub_self] at hl
    refine ⟨i1, ?_⟩
    show R = encOuts ((outsI R s k).1 ++ [numI (tkB (outsI R s k).2.1 8)]) ++ tkR (outsI R s k).2.1 8
    rw [encOuts_snoc, low_big (tkB_ok hok 8) (tkB_length _ _) hl, List.append_assoc, ← g4]
    exact i2
theorem cnt_byte {R : List Int} (h : okBytes R) : [(cnt R : Int)] = tkB R 1 := by
  rw [← (cnt_eq h).1]
  exact one_eq (tkB_ok h 1) (tkB_length _ _)
theorem txI_enc {R : List Int} (ho : okBytes R) (s : Bool) (h : (txI R s).2.2 = false) (hv : txOk (txI R s).1) : s = false ∧ R = encTx (txI R s).1 ++ (txI R s).2.1 := by
  obtain ⟨i, hi⟩ : ∃ i, i = insI (tkR R 1) (tkS R s 1) (cnt R) := ⟨_, rfl⟩
  obtain ⟨o, hoo⟩ : ∃ o, o = outsI (tkR i.2.1 1) (tkS i.2.1 i.2.2 1) (cnt i.2.1) := ⟨_, rfl⟩
  have ht : txI R s = (⟨i.1, o.1, numI (tkB o.2.1 4)⟩, tkR o.2.1 4, tkS o.2.1 o.2.2 4) := by
    unfold txI
    dsimp only
    rw [← hi, ← hoo]
  rw [ht] at h hv ⊢
  dsimp only at h hv ⊢
  have h1 := insI_ok (tkR_ok ho 1) (tkS R s 1) (cnt R)
  have h2 := insI_length (tkR R 1) (tkS R s 1) (cnt R)
  rw [← hi] at h1 h2
  have h3 := outsI_ok (tkR_ok h1.1 1) (tkS i.2.1 i.2.2 1) (cnt i.2.1)
  have h4 := outsI_length (tkR i.2.1 1) (tkS i.2.1 i.2.2 1) (cnt i.2.1)
  rw [← hoo] at h3 h4
  obtain ⟨g1, g2⟩ := tk_short h
  have g3 := outsI_enc (tkR_ok h1.1 1) (tkS i.2.1 i.2.2 1) (cnt i.2.1)
  rw [← hoo] at g3
  obtain ⟨g4, g5⟩ := g3 g1 fun j hj => hv.2.2 j (by rw [h4]; exact hj)
  obtain ⟨g6, g7⟩ := tk_short g4
  have g8 := insI_enc (tkR_ok ho 1) (tkS R s 1) (cnt R)
  rw [← hi] at g8
  obtain ⟨g9, g10⟩ := g8 g6
  obtain ⟨g11, g12⟩ := tk_short g9
  refine ⟨g11, ?_⟩
  have e4 := low_small (tkB_ok h3.1 4) (by rw [tkB_length]; omega)
  rw [tkB_length] at e4
  unfold encTx
  dsimp only
  rw [h2, h4, cnt_byte ho, cnt_byte h1.1, e4]
  calc R = tkB R 1 ++ tkR R 1 := g12
    _ = tkB R 1 ++ (encIns i.1 ++ i.2.1) := by rw [← g10]
    _ = tkB R 1 ++ (encIns i.1 ++ (tkB i.2.1 1 ++ tkR i.2.1 1)) := by rw [← g7]
    _ = tkB R 1 ++ (encIns i.1 ++ (tkB i.2.1 1 ++ (encOuts o.1 ++ o.2.1))) := by rw [← g5]
    _ = tkB R 1 ++ (encIns i.1 ++ (tkB i.2.1 1 ++ (encOuts o.1 ++ (tkB o.2.1 4 ++ tkR o.2.1 4)))) := by rw [← g2]
    _ = _ := by simp
theorem txsI_enc {R : List Int} (ho : okBytes R) (s : Bool) : ∀ k, (txsI R s k).2.2 = false → (∀ i, i < k → txOk ((txsI R s k).1.getD i default)) → s = false ∧ R = encTxs (txsI R s k).1 ++ (txsI R s k).2.1
  | 0, h, _ => ⟨h, by show R = encTxs [] ++ R; unfold encTxs; rfl⟩
  | k + 1, h, hv => by
    have hok := txsI_ok ho s k
    have hlen := hok.2.2.1
    have e : (txsI R s (k + 1)).1 = (txsI R s k).1 ++ [(txI (txsI R s k).2.1 (txsI R s k).2.2).1] := rfl
    rw [e] at hv
    have hl := hv k (by omega)
    rw [List.getD_eq_getElem?_getD, List.getElem?_append_right (by omega), hlen, Nat.sub_self] at hl
    obtain ⟨g3, g4⟩ := txI_enc hok.1 (txsI R s k).2.2 h hl
    obtain ⟨i1, i2⟩ := txsI_enc ho s k g3 fun i hi => by
      have := hv i (by omega)
      rwa [List.getD_eq_getElem?_getD, List.getElem?_append_left (by omega), ← List.getD_eq_getElem?_getD] at this
    refine ⟨i1, ?_⟩
    show R = encTxs ((txsI R s k).1 ++ [(txI (txsI R s k).2.1 (txsI R s k).2.2).1]) ++ (txI (txsI R s k).2.1 (txsI R s k).2.2).2.1
    rw [encTxs_snoc, List.append_assoc, ← g4]
    exact i2
theorem blkI_enc {raw : List Int} (ho : okBytes raw) (h : decOk (blkI raw)) : raw = encBlock (blkI raw).1 := by
  obtain ⟨R1, hR1⟩ : ∃ R, R = tkR raw 32 := ⟨_, rfl⟩
  obtain ⟨s1, hs1⟩ : ∃ s, s = tkS raw false 32 := ⟨_, rfl⟩
  obtain ⟨R2, hR2⟩ : ∃ R, R = tkR R1 32 := ⟨_, rfl⟩
  obtain ⟨s2, hs2⟩ : ∃ s, s = tkS R1 s1 32 := ⟨_, rfl⟩
  obtain ⟨R3, hR3⟩ : ∃ R, R = tkR R2 4 := ⟨_, rfl⟩
  obtain ⟨s3, hs3⟩ : ∃ s, s = tkS R2 s2 4 := ⟨_, rfl⟩
  have ho1 : okBytes R1 := hR1 ▸ tkR_ok ho 32
  have ho2 : okBytes R2 := hR2 ▸ tkR_ok ho1 32
  have ho3 : okBytes R3 := hR3 ▸ tkR_ok ho2 4
  obtain ⟨t, ht⟩ : ∃ t, t = txsI (tkR R3 1) (tkS R3 s3 1) (cnt R3) := ⟨_, rfl⟩
  have e : blkI raw = (⟨toH (tkB raw 32), toH (tkB R1 32), numI (tkB R2 4), t.1⟩, t.2.1, t.2.2) := by
    unfold blkI
    dsimp only
    rw [← hR1, ← hs1, ← hR2, ← hs2, ← hR3, ← hs3, ← ht]
  rw [e] at h ⊢
  obtain ⟨h1, h2, h3⟩ := h
  dsimp only at h1 h2 h3 ⊢
  have hlen := (txsI_ok (tkR_ok ho3 1) (tkS R3 s3 1) (cnt R3)).2.2.1
  have g1 := txsI_enc (tkR_ok ho3 1) (tkS R3 s3 1) (cnt R3)
  rw [← ht] at hlen g1
  obtain ⟨g2, g3⟩ := g1 h1 fun i hi => h3.2 i (by rw [hlen]; exact hi)
  obtain ⟨g4, g5⟩ := tk_short g2
  rw [hs3] at g4
  obtain ⟨g6, g7⟩ := tk_short g4
  rw [hs2] at g6
  obtain ⟨g8, g9⟩ := tk_short g6
  rw [hs1] at g8
  obtain ⟨_, g10⟩ := tk_short g8
  rw [← hR3] at g7
  rw [← hR2] at g9
  rw [← hR1] at g10
  have e4 := low_small (tkB_ok ho2 4) (by rw [tkB_length]; omega)
  rw [tkB_length] at e4
  have et : t.2.1 = [] := List.eq_nil_of_length_eq_zero h2
  unfold encBlock accB encHead
  dsimp only
  rw [toH_l (tkB_length _ _) (tkB_ok ho _), toH_l (tkB_length _ _) (tkB_ok ho1 _), e4, hlen, cnt_byte ho3]
  calc raw = tkB raw 32 ++ R1 := g10
    _ = tkB raw 32 ++ (tkB R1 32 ++ R2) := by rw [← g9]
    _ = tkB raw 32 ++ (tkB R1 32 ++ (tkB R2 4 ++ R3)) := by rw [← g7]
    _ = tkB raw 32 ++ (tkB R1 32 ++ (tkB R2 4 ++ (tkB R3 1 ++ tkR R3 1))) := by rw [← g5]
    _ = tkB raw 32 ++ (tkB R1 32 ++ (tkB R2 4 ++ (tkB R3 1 ++ (encTxs t.1 ++ t.2.1)))) := by rw [← g3]
    _ = _ := by rw [et]; simp
end Go.Proofs.Ytnancifnodbkdaa

