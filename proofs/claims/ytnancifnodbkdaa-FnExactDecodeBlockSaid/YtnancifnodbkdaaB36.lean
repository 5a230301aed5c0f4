import Derived.Test.YtnancifnodbkdaaB35
import Derived.Test.YtnancifnodbkdaaE1
import Derived.Test.YtnancifnodbkdaaUc
namespace Go.Proofs.Ytnancifnodbkdaa
open Go Go.Vcg Go.IntWalk
set_option maxRecDepth 100000
set_option maxHeartbeats 20000000
set_option linter.unusedSimpArgs false
set_option linter.unusedVariables false
theorem c6 : CallOk Try.prog 6 := ⟨_, Try.func6, rfl, by kernel_rfl⟩
theorem st_app {raw x y : List Int} {p n : Nat} (h : raw.drop p = x ++ y) (hx : x.length = n) (hn : 0 < n) : spB raw p false n = x ∧ spP raw p false n = p + n ∧ spS raw p false n = false ∧ raw.drop (p + n) = y := by
  have hl : raw.length - p = n + y.length := by
    have := congrArg List.length h
    rw [List.length_drop, List.length_append] at this
    omega
  have hc : (false = false ∧ p + n ≤ raw.length) := ⟨rfl, by omega⟩
  unfold spB spP spS
  rw [if_pos hc, if_pos hc, if_pos hc]
  refine ⟨?_, rfl, rfl, ?_⟩
  · rw [h, ← hx, List.take_left]
  · rw [← List.drop_drop, h, ← hx, List.drop_left]
theorem stopAt_none {f : Nat → Bool} : ∀ (m k : Nat), (∀ j, k ≤ j → j < k + m → f j = false) → stopAt f k m = k + m
  | 0, _, _ => rfl
  | m + 1, k, h => by
    rw [stopAt, if_neg (by rw [h k (Nat.le_refl _) (by omega)]; decide), stopAt_none m (k + 1) fun j h1 h2 => h j (by omega) (by omega)]
    omega
theorem lowB_pre (k : Nat) : ∀ v : Int, (lowB v (k + 1)).take k = lowB v k := by
  induction k with
  | zero => intro v; rfl
  | succ k ih => intro v; rw [lowB, List.take_succ_cons, ih, lowB]
theorem leN_low {v : Int} {k : Nat} (h : 0 ≤ v ∧ v < 256 ^ k) : (leN (lowB v k) : Int) = v := by
  obtain ⟨n, rfl⟩ : ∃ n : Nat, v = n := ⟨v.toNat, by omega⟩
  rw [leN_lowB k n (by have := h.2; exact_mod_cast this)]
theorem sIns_read {raw rest : List Int} {p : Nat} (ps : List PointA) (hd : raw.drop p = encIns ps ++ rest) (hv : ∀ i, i < ps.length → inOk (ps.getD i default)) : ∀ k, k ≤ ps.length → (sIns raw p false k).1 = ps.take k ∧ (sIns raw p false k).2.2 = false ∧ raw.drop (sIns raw p false k).2.1 = encIns (ps.drop k) ++ rest
  | 0, _ => ⟨rfl, rfl, hd⟩
  | k + 1, hk => by
    obtain ⟨i1, i2, i3⟩ := sIns_read ps hd hv k (by omega)
    have hn := hv k (by omega)
    unfold inOk at hn
    rw [drop_cons default ps k (by omega), encIns_cons, List.append_assoc, List.append_assoc] at i3
    obtain ⟨a1, a2, a3, a4⟩ := st_app i3 (H32.len _) (by omega)
    obtain ⟨b1, b2, b3, b4⟩ := st_app a4 (show [(ps.getD k default).N].length = 1 from rfl) (by omega)
    rw [sIns]
    dsimp only
    rw [i1, i2, a1, a2, a3, b1, b2, b3]
    refine ⟨?_, rfl, b4⟩
    rw [toH_of, ← take_snoc default ps k (by omega)]
    rfl
theorem sOuts_read {raw rest : List Int} {p : Nat} (vs : List Int) (hd : raw.drop p = encOuts vs ++ rest) (hv : ∀ i, i < vs.length → outOk (vs.getD i 0)) : ∀ k, k ≤ vs.length → (sOuts raw p false k).1 = vs.take k ∧ (sOuts raw p false k).2.2 = false ∧ raw.drop (sOuts raw p false k).2.1 = encOuts (vs.drop k) ++ rest
  | 0, _ => ⟨rfl, rfl, hd⟩
  | k + 1, hk => by
    obtain ⟨i1, i2, i3⟩ := sOuts_read vs hd hv k (by omega)
    have hn := hv k (by omega)
    unfold outOk at hn
    rw [drop_cons 0 vs k (by omega), encOuts_cons, List.append_assoc] at i3
    obtain ⟨a1, a2, a3, a4⟩ := st_app i3 (lowB_length _ 8) (by omega)
    have h7 : by0 (lowB (vs.getD k 0) 8) 7 = 0 := by
      unfold by0
      rw [lowB_getD _ 8 7 (by omega)]
      omega
    rw [sOuts]
    dsimp only
    rw [i1, i2, a1, a2, a3, h7, if_neg (by omega), lowB_pre 7, leN_low ⟨by omega, by omega⟩]
    exact ⟨take_snoc 0 vs k (by omega), rfl, a4⟩
theorem stx_read {a : TxA} (hv : txOk a) {raw rest : List Int} {p : Nat} (hd : raw.drop p = encTx a ++ rest) : (stx raw p false).1 = a ∧ (stx raw p false).2.2 = false ∧ raw.drop (stx raw p false).2.1 = rest := by
  obtain ⟨⟨h1, h2, h3, h4, h5⟩, h6, h7⟩ := hv
  have e : encTx a ++ rest = [(a.Ins.length : Int)] ++ (encIns a.Ins ++ ([(a.Outs.length : Int)] ++ (encOuts a.Outs ++ (lowB a.Height 4 ++ rest)))) := by simp [encTx]
  rw [e] at hd
  obtain ⟨a1, a2, a3, a4⟩ := st_app hd (show [(a.Ins.length : Int)].length = 1 from rfl) (by omega)
  have hi := sIns_read a.Ins a4 h6
  have hiF : sInsF raw (p + 1) false a.Ins.length = sIns raw (p + 1) false a.Ins.length := by
    unfold sInsF
    rw [stopAt_none _ 0 fun j _ hj => (hi j (by omega)).2.1, Nat.zero_add]
  obtain ⟨i1, i2, i3⟩ := hi _ (Nat.le_refl _)
  rw [List.take_length] at i1
  rw [List.drop_length, show encIns [] = [] by unfold encIns; rfl, List.nil_append] at i3
  unfold stx
  dsimp only
  rw [a1, a2, a3, show (by0 [(a.Ins.length : Int)] 0).toNat = a.Ins.length from rfl, hiF]
  obtain ⟨i, hie⟩ : ∃ i, i = sIns raw (p + 1) false a.Ins.length := ⟨_, rfl⟩
  rw [← hie] at i1 i2 i3 ⊢
  rw [i1, i2]
  obtain ⟨b1, b2, b3, b4⟩ := st_app i3 (show [(a.Outs.length : Int)].length = 1 from rfl) (by omega)
  have ho := sOuts_read a.Outs b4 h7
  have hoF : sOutsF raw (i.2.1 + 1) false a.Outs.length = sOuts raw (i.2.1 + 1) false a.Outs.length := by
    unfold sOutsF
    rw [stopAt_none _ 0 fun j _ hj => (ho j (by omega)).2.1, Nat.zero_add]
  obtain ⟨o1, o2, o3⟩ := ho _ (Nat.le_refl _)
  rw [List.take_length] at o1
  rw [List.drop_length, show encOuts [] = [] by unfold encOuts; rfl, List.nil_append] at o3
  rw [b1, b2, b3, show (by0 [(a.Outs.length : Int)] 0).toNat = a.Outs.length from rfl, hoF]
  obtain ⟨o, hoe⟩ : ∃ o, o = sOuts raw (i.2.1 + 1) false a.Outs.length := ⟨_, rfl⟩
  rw [← hoe] at o1 o2 o3 ⊢
  rw [o1, o2]
  obtain ⟨c1, c2, c3, c4⟩ := st_app o3 (lowB_length _ 4) (by omega)
  rw [c1, c2, c3, leN_low ⟨h4, by omega⟩]
  exact ⟨rfl, rfl, c4⟩
theorem sTxs_read {raw rest : List Int} {p : Nat} (ts : List TxA) (hd : raw.drop p = encTxs ts ++ rest) (hv : ∀ i, i < ts.length → txOk (ts.getD i default)) : ∀ k, k ≤ ts.length → (sTxs raw p false k).1 = ts.take k ∧ (sTxs raw p false k).2.2 = false ∧ raw.drop (sTxs raw p false k).2.1 = encTxs (ts.drop k) ++ rest
  | 0, _ => ⟨rfl, rfl, hd⟩
  | k + 1, hk => by
    obtain ⟨i1, i2, i3⟩ := sTxs_read ts hd hv k (by omega)
    rw [drop_cons default ts k (by omega), encTxs_cons, List.append_assoc] at i3
    obtain ⟨a1, a2, a3⟩ := stx_read (hv k (by omega)) i3
    rw [sTxs]
    dsimp only
    rw [i1, i2, a1]
    exact ⟨take_snoc default ts k (by omega), a2, a3⟩
theorem sblk_read {a : BlockA} (hv : blkOk a) : sblk (encBlock a) = (a, false) := by
  obtain ⟨⟨h1, h2⟩, h3⟩ := hv
  unfold hdOk at h2
  obtain ⟨raw, hr⟩ : ∃ raw, raw = encBlock a := ⟨_, rfl⟩
  have e : raw.drop 0 = a.Prev.l ++ (a.Root.l ++ (lowB a.Height 4 ++ ([(a.Txs.length : Int)] ++ (encTxs a.Txs ++ [])))) := by rw [hr]; unfold encBlock accB encHead; simp
  rw [← hr]
  obtain ⟨a1, a2, a3, a4⟩ := st_app e (H32.len _) (by omega)
  obtain ⟨b1, b2, b3, b4⟩ := st_app a4 (H32.len _) (by omega)
  obtain ⟨c1, c2, c3, c4⟩ := st_app b4 (lowB_length _ 4) (by omega)
  obtain ⟨d1, d2, d3, d4⟩ := st_app c4 (show [(a.Txs.length : Int)].length = 1 from rfl) (by omega)
  have ht := sTxs_read a.Txs d4 h3
  have htF : sTxsF raw (0 + 32 + 32 + 4 + 1) false a.Txs.length = sTxs raw (0 + 32 + 32 + 4 + 1) false a.Txs.length := by
    unfold sTxsF
    rw [stopAt_none _ 0 fun j _ hj => (ht j (by omega)).2.1, Nat.zero_add a.Txs.length]
  obtain ⟨t1, t2, t3⟩ := ht _ (Nat.le_refl _)
  rw [List.take_length] at t1
  unfold sblk
  dsimp only
  rw [a1, a2, a3, b1, b2, b3, c1, c2, c3, d1, d2, d3, show (by0 [(a.Txs.length : Int)] 0).toNat = a.Txs.length from rfl, htF, t1, t2, toH_of, toH_of, leN_low ⟨by omega, by omega⟩]
/-- Both read the same. -/
theorem dec_iff {raw : List Int} (ho : okBytes raw) : decOk (blkI raw) ↔ (sblk raw).2 = false ∧ blkOk (sblk raw).1 ∧ encBlock (sblk raw).1 = raw := by
  constructor
  · intro h
    have e := blkI_enc ho h
    have hb := h.2.2
    obtain ⟨a, ha⟩ : ∃ a, a = (blkI raw).1 := ⟨_, rfl⟩
    rw [← ha] at e hb
    rw [e, sblk_read hb]
    exact ⟨rfl, hb, rfl⟩
  · rintro ⟨h1, h2, h3⟩
    obtain ⟨a, ha⟩ : ∃ a, a = (sblk raw).1 := ⟨_, rfl⟩
    rw [← ha] at h2 h3
    rw [← h3, blkI_read h2]
    exact ⟨rfl, rfl, h2⟩
theorem dec_same {raw : List Int} (ho : okBytes raw) (h : decOk (blkI raw)) : (blkI raw).1 = (sblk raw).1 := by
  have e := blkI_enc ho h
  have hb := h.2.2
  obtain ⟨a, ha⟩ : ∃ a, a = (blkI raw).1 := ⟨_, rfl⟩
  rw [← ha] at e hb ⊢
  rw [e, sblk_read hb]
theorem sumN_bd {α : Type} [Inhabited α] (f : α → Nat) (c : Nat) : ∀ l : List α, (∀ i, i < l.length → f (l.getD i default) ≤ c) → sumN f l ≤ c * l.length
  | [], _ => by simp [sumN]
  | x :: l, h => by
    have h0 := h 0 (by simp)
    have ih := sumN_bd f c l fun i hi => by have := h (i + 1) (by simp; omega); simpa using this
    simp only [sumN, List.length_cons, Nat.mul_add, Nat.mul_one]
    simp at h0
    omega
theorem blkOk_tot {a : BlockA} (h : blkOk a) : totBlock a ≤ 12 + 144 := by
  have := sumN_bd totTx 12 a.Txs fun i hi => by
    obtain ⟨⟨h1, h2, h3, h4, h5⟩, h6, h7⟩ := h.2 i hi
    unfold totTx
    omega
  have := h.1.1
  unfold totBlock
  omega
theorem lawDecodeBlock_ok {raw : List Int} (hx : raw.length < 2 ^ 50 := by exact pm) (ho : okBytes raw := by exact pm) : TSpec Try.prog 6 [] [.pd (encI .u8 raw)] false [] (.pl (.bool true)) := by
  by_cases hl : raw.length < 2 ^ 40
  · obtain ⟨b, hb0⟩ := ex_b (decOk (blkI raw))
    have him := imDecode_ok hl ho hb0
    have hsp := spDecode_ok hl ho (hb0.trans (dec_iff ho))
    obtain ⟨a, ha⟩ : ∃ a, a = if b then (blkI raw).1 else default := ⟨_, rfl⟩
    have ha2 : (if b then (sblk raw).1 else default) = a := by
      rw [ha]
      cases b with
      | false => rfl
      | true => simp only [if_true]; rw [dec_same ho (hb0.mp rfl)]
    rw [ha2] at hsp
    rw [← ha] at him
    have hat : totBlock a ≤ 156 := by
      rw [ha]
      cases b with
      | false => exact Nat.zero_le _
      | true => exact blkOk_tot (hb0.mp rfl).2.2
    have hct : ctBlock a = 32 + 32 + 1 + sumN ctTx a.Txs := rfl
    have htt : totBlock a = a.Txs.length + sumN totTx a.Txs := rfl
    have hcl := ctTxs_le a.Txs
    simp only [oBlock] at hsp him
    clear hb0 ha ha2
    have hD := @decide_true
    refine sT 85 [.tmp 2] Try.func6 fun w0 S0 ρ0 φ0 => ?_
    repeat' (first | apply W.seq | apply W.skip | apply W.region | apply W.block | apply N.code | apply N.blk | apply Sl.nil | apply W.exit | apply W.ret | apply E.hit | apply E.code | apply E.fin | refine zM ?_ | apply O.i | refine sP ?_ | refine sQ fun _ => ?_ | refine zg fun _ => ?_ | refine sX fun _ => ?_ | (refine k1 false [] c16 ?_; refine k2 toByteS_ok ?_) | (refine k1 false [] c31 ?_; refine k2 hsp ?_) | (refine k1 false [] c32 ?_; refine k2 him ?_) | (refine k1 false [] c33 ?_; refine k2 (eqBlock_ok (a := a) (b := a)) ?_) | (focus (refine zs ?_ ?_; all_goals (intro hg; first | (exfalso; ((try simp [-List.getD_eq_getElem?_getD] at hg) <;> omega)) | ((first | subst hg | rw [hg] | skip); (focus (refine zj ?_ ?_; all_goals (intro hb; first | (exfalso; revert hb; decide) | ((try refine sA 49 ?_); (try refine sA 50 ?_); refine k1 false [] c33 ?_; refine k2 (eqBlock_ok (a := a) (b := a)) ?_) | refine Sl.weak (Weak.refl _ _) ?_))))))) | (refine k1 false [] c18 ?_; refine k2 eqByteS_ok ?_) | (refine k1 false [(1000000, 0, none)] c19 ?_; refine k2 markByteS_ok ?_) | (refine k1 false [(1000000, 0, some 65)] c34 ?_; refine k2 (markBlock_ok (a := a)) ?_) | (refine k1 false [] c35 ?_; refine k2 (heldBlock_ok (a := a)) ?_) | refine zI ?_ ?_ | (intro hb; (try simp [-List.getD_eq_getElem?_getD] at hb); (try (exfalso; omega))))
    all_goals exact rT
  · have hD := @decide_true
    refine sT 85 [.tmp 2] Try.func6 fun w0 S0 ρ0 φ0 => ?_
    repeat' (first | apply W.seq | apply W.skip | apply W.region | apply W.block | apply N.code | apply N.blk | apply Sl.nil | apply W.exit | apply W.ret | apply E.hit | apply E.code | apply E.fin | refine zM ?_ | apply O.i | refine sP ?_ | refine sQ fun _ => ?_ | refine zg fun _ => ?_ | refine sX fun _ => ?_ | (refine k1 false [] c16 ?_; refine k2 toByteS_ok ?_) | (refine k1 false [] c31 ?_; refine k2 hsp ?_) | (refine k1 false [] c32 ?_; refine k2 him ?_) | (refine k1 false [] c33 ?_; refine k2 (eqBlock_ok (a := a) (b := a)) ?_) | (focus (refine zs ?_ ?_; all_goals (intro hg; first | (exfalso; ((try simp [-List.getD_eq_getElem?_getD] at hg) <;> omega)) | ((first | subst hg | rw [hg] | skip); (focus (refine zj ?_ ?_; all_goals (intro hb; first | (exfalso; revert hb; decide) | ((try refine sA 49 ?_); (try refine sA 50 ?_); refine k1 false [] c33 ?_; refine k2 (eqBlock_ok (a := a) (b := a)) ?_) | refine Sl.weak (Weak.refl _ _) ?_))))))) | (refine k1 false [] c18 ?_; refine k2 eqByteS_ok ?_) | (refine k1 false [(1000000, 0, none)] c19 ?_; refine k2 markByteS_ok ?_) | (refine k1 false [(1000000, 0, some 65)] c34 ?_; refine k2 (markBlock_ok (a := a)) ?_) | (refine k1 false [] c35 ?_; refine k2 (heldBlock_ok (a := a)) ?_) | refine zI ?_ ?_ | (intro hb; (try simp [-List.getD_eq_getElem?_getD] at hb); (try (exfalso; omega))))
    all_goals exact rT
end Go.Proofs.Ytnancifnodbkdaa

