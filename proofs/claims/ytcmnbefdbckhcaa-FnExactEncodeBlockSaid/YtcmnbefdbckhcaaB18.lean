import Derived.Test.YtcmnbefdbckhcaaB17
namespace Go.Proofs.Ytcmnbefdbckhcaa
open Go Go.Vcg Go.IntWalk
set_option maxRecDepth 100000
set_option maxHeartbeats 4000000
set_option linter.unusedSimpArgs false
set_option linter.unusedVariables false
theorem c53 : CallOk Try.prog 53 := ⟨_, Try.func53, rfl, by kernel_rfl⟩
theorem okBytes_encTx {a : TxA} (h : txOk a) : okBytes (encTx a) := by
  have h0 := h.1
  unfold encTx
  refine okBytes_append (okBytes_append (okBytes_append (okBytes_append (okBytes_one (by omega)) ?_) (okBytes_one (by omega))) ?_) (okBytes_low _ _)
  · unfold encIns
    intro y hy
    obtain ⟨p, hp, hy⟩ := List.mem_flatMap.mp hy
    obtain ⟨i, hi, rfl⟩ := List.mem_iff_getElem.mp hp
    have h1 := h.2.1 i hi
    rw [List.getD_eq_getElem?_getD, List.getElem?_eq_getElem hi, Option.getD_some] at h1
    unfold inOk at h1
    exact okBytes_append a.Ins[i].Id.ok (okBytes_one (by omega)) y hy
  · unfold encOuts
    intro y hy
    obtain ⟨p, hp, hy⟩ := List.mem_flatMap.mp hy
    exact okBytes_low _ _ y hy
theorem conSV_rep32 : conSV (.int .u8 0) = .pl (.int .u8 0) := rfl
theorem spTxId_ok {a : TxA} {b : Bool} {d : H32} (hl : totTx a < 2 ^ 40 := by exact pm) (hP : b = true ↔ txOk a := by exact pm) (h0 : b = false → d = default := by exact pm) (h1 : b = true → d.l = sha (sha (encTx a)) := by exact pm) : TSpec Try.prog 52 [] [.ag (fTx a)] false [] (.tu [.ag (encA .u8 d.l), .pl (.bool b)]) := by
  have hsp := spEncodeTx_ok hl hP
  simp only [fTx] at hsp ⊢
  cases b with
  | false =>
    rw [if_neg (by simp)] at hsp
    rw [h0 rfl, show (default : H32).l = List.replicate 32 0 from rfl]
    have hD := @encA_length
    refine sT 16 [.cell 2 24, .tmp 3] Try.func52 fun w0 S0 ρ0 φ0 => ?_
    repeat' (first | apply W.seq | apply W.skip | apply W.region | apply W.block | apply N.code | apply N.blk | apply Sl.nil | apply W.exit | apply W.ret | apply E.hit | apply E.code | apply E.fin | refine zM ?_ | apply O.i | refine sP ?_ | refine sQ fun _ => ?_ | refine sX fun _ => ?_ | (refine k1 false [] c38 ?_; refine k2 hsp ?_) | (refine k1 false [] c74 ?_; refine k2 hd2 ?_) | refine zI ?_ ?_ | (intro hb; (try simp [-List.getD_eq_getElem?_getD] at hb); (try (exfalso; omega))))
    exact rT
  | true =>
    rw [if_pos rfl] at hsp
    have hv := hP.mp rfl
    have hd2 := l5Double_ok (by have := txOk_len hv; omega) (okBytes_encTx hv) (h1 rfl)
    have hy := txOk_len hv
    obtain ⟨ys, hys⟩ : ∃ ys, ys = encTx a := ⟨_, rfl⟩
    rw [← hys] at hsp hd2 hy
    have hD := @encA_length
    refine sT 16 [.cell 2 24, .tmp 3] Try.func52 fun w0 S0 ρ0 φ0 => ?_
    repeat' (first | apply W.seq | apply W.skip | apply W.region | apply W.block | apply N.code | apply N.blk | apply Sl.nil | apply W.exit | apply W.ret | apply E.hit | apply E.code | apply E.fin | refine zM ?_ | apply O.i | refine sP ?_ | refine sQ fun _ => ?_ | refine sX fun _ => ?_ | (refine k1 false [] c38 ?_; refine k2 hsp ?_) | (refine k1 false [] c74 ?_; refine k2 hd2 ?_) | refine zI ?_ ?_ | (intro hb; (try simp [-List.getD_eq_getElem?_getD] at hb); (try (exfalso; omega))))
    exact rT
theorem txId_ok {a : TxA} {d : H32} (hl : totTx a < 2 ^ 40 := by exact pm) (hv : txOk a := by exact pm) (h1 : d.l = sha (sha (encTx a)) := by exact pm) : TSpec Try.prog 112 [] [.ag (fTx a)] false [] (.ag (encA .u8 d.l)) := by
  have hby := txBytes_ok hl hv
  have hy := txOk_len hv
  have hdb := double_ok (xs := [encTx a]) (d := d) (by simp; omega) (by simp) (fun k hk => by
    obtain rfl : k = 0 := by simpa using hk
    exact okBytes_encTx hv) (by simpa using h1)
  obtain ⟨ys, hys⟩ : ∃ ys, ys = encTx a := ⟨_, rfl⟩
  rw [← hys] at hby hdb hy
  simp only [fTx, encL_cons, encL_nil, fB] at hby hdb ⊢
  have hD := @encA_length
  refine sT 7 [.cell 2 24] Try.func112 fun w0 S0 ρ0 φ0 => ?_
  repeat' (first | apply W.seq | apply W.skip | apply W.region | apply W.block | apply N.code | apply N.blk | apply Sl.nil | apply W.exit | apply W.ret | apply E.hit | apply E.code | apply E.fin | refine zM ?_ | apply O.i | refine sP ?_ | refine sQ fun _ => ?_ | refine sX fun _ => ?_ | (refine k1 false [] c90 ?_; refine k2 hby ?_) | (refine k1 false [] c77 ?_; refine k2 hdb ?_) | refine zI ?_ ?_ | (intro hb; (try simp [-List.getD_eq_getElem?_getD] at hb); (try (exfalso; omega))))
  exact rT
theorem imTxId_ok {a : TxA} {b : Bool} {d : H32} (hl : totTx a < 2 ^ 40 := by exact pm) (hP : b = true ↔ txOk a := by exact pm) (h0 : b = false → d = default := by exact pm) (h1 : b = true → d.l = sha (sha (encTx a)) := by exact pm) : TSpec Try.prog 53 [] [.ag (fTx a)] false [] (.tu [.ag (encA .u8 d.l), .pl (.bool b)]) := by
  cases b with
  | false =>
    rw [h0 rfl, show (default : H32).l = List.replicate 32 0 from rfl]
    simp only [fTx]
    have hD := @encA_length
    refine sT 10 [.cell 2 24, .tmp 3] Try.func53 fun w0 S0 ρ0 φ0 => ?_
    repeat' (first | apply W.seq | apply W.skip | apply W.region | apply W.block | apply N.code | apply N.blk | apply Sl.nil | apply W.exit | apply W.ret | apply E.hit | apply E.code | apply E.fin | refine zM ?_ | apply O.i | refine sP ?_ | refine sQ fun _ => ?_ | refine sX fun _ => ?_ | (refine k1 false [] c89 ?_; refine k2 (txValid_ok hl hP) ?_) | (refine k1 false [] c112 ?_; refine k2 hid ?_) | refine zI ?_ ?_ | (intro hb; (try simp [-List.getD_eq_getElem?_getD] at hb); (try (exfalso; omega))))
    exact rT
  | true =>
    have hid := txId_ok hl (hP.mp rfl) (h1 rfl)
    simp only [fTx] at hid ⊢
    have hD := @encA_length
    refine sT 10 [.cell 2 24, .tmp 3] Try.func53 fun w0 S0 ρ0 φ0 => ?_
    repeat' (first | apply W.seq | apply W.skip | apply W.region | apply W.block | apply N.code | apply N.blk | apply Sl.nil | apply W.exit | apply W.ret | apply E.hit | apply E.code | apply E.fin | refine zM ?_ | apply O.i | refine sP ?_ | refine sQ fun _ => ?_ | refine sX fun _ => ?_ | (refine k1 false [] c89 ?_; refine k2 (txValid_ok hl hP) ?_) | (refine k1 false [] c112 ?_; refine k2 hid ?_) | refine zI ?_ ?_ | (intro hb; (try simp [-List.getD_eq_getElem?_getD] at hb); (try (exfalso; omega))))
    exact rT
theorem lawTxId_ok {a : TxA} (h : lnTx a := by exact pm) : TSpec Try.prog 11 [] [.ag (fTx a)] false [] (.pl (.bool true)) := by
  obtain ⟨b, hP⟩ := ex_b (txOk a)
  have htot : totTx a = a.Ins.length + a.Outs.length := rfl
  by_cases hl : totTx a < 2 ^ 40
  · obtain ⟨d, h0, h1⟩ : ∃ d : H32, (b = false → d = default) ∧ (b = true → d.l = sha (sha (encTx a))) := by
      cases b with
      | false => exact ⟨default, fun _ => rfl, fun e => (nomatch e)⟩
      | true => exact ⟨⟨sha (sha (encTx a)), sha_length _, okBytes_sha _⟩, fun e => (nomatch e), fun _ => rfl⟩
    have hsp := spTxId_ok hl hP h0 h1
    have him := imTxId_ok hl hP h0 h1
    simp only [fTx] at hsp him ⊢
    have hD := @decide_true
    refine sT 41 [.tmp 2] Try.func11 fun w0 S0 ρ0 φ0 => ?_
    repeat' (first | apply W.seq | apply W.skip | apply W.region | apply W.block | apply N.code | apply N.blk | apply Sl.nil | apply W.exit | apply W.ret | apply E.hit | apply E.code | apply E.fin | refine zM ?_ | apply O.i | refine sP ?_ | refine sQ fun _ => ?_ | refine zg fun _ => ?_ | refine sX fun _ => ?_ | (refine k1 false [] c37 ?_; refine k2 (szTx_ok h (by omega)) ?_) | (refine k1 false [] c39 ?_; refine k2 toTx_ok ?_) | (refine k1 false [] c52 ?_; refine k2 hsp ?_) | (refine k1 false [] c53 ?_; refine k2 him ?_) | (refine k1 false [] c18 ?_; refine k2 eqH_ok ?_) | (refine rD (id := 10) anyW [] ?_; refine rP 0 true fun _ => ?_; refine rP 1 true fun _ => ?_; refine rO 2 fun _ _ _ _ _ => ?_; refine k1 false [] c39 ?_; refine k2 toTx_ok ?_; refine rO 3 fun _ _ _ _ _ => ?_; refine k1 false [] c41 ?_; refine k2 eqTx_ok ?_; refine rP 4 false fun _ => ?_; refine rE ?_) | refine zI ?_ ?_ | (intro hb; (try simp [-List.getD_eq_getElem?_getD] at hb); (try (exfalso; omega))))
    all_goals exact rT
  · simp only [fTx]
    have hD := @decide_true
    refine sT 41 [.tmp 2] Try.func11 fun w0 S0 ρ0 φ0 => ?_
    repeat' (first | apply W.seq | apply W.skip | apply W.region | apply W.block | apply N.code | apply N.blk | apply Sl.nil | apply W.exit | apply W.ret | apply E.hit | apply E.code | apply E.fin | refine zM ?_ | apply O.i | refine sP ?_ | refine sQ fun _ => ?_ | refine zg fun _ => ?_ | refine sX fun _ => ?_ | (refine k1 false [] c37 ?_; refine k2 (szTx_ok h (by omega)) ?_) | (refine k1 false [] c39 ?_; refine k2 toTx_ok ?_) | (refine k1 false [] c52 ?_; refine k2 hsp ?_) | (refine k1 false [] c53 ?_; refine k2 him ?_) | (refine k1 false [] c18 ?_; refine k2 eqH_ok ?_) | (refine rD (id := 10) anyW [] ?_; refine rP 0 true fun _ => ?_; refine rP 1 true fun _ => ?_; refine rO 2 fun _ _ _ _ _ => ?_; refine k1 false [] c39 ?_; refine k2 toTx_ok ?_; refine rO 3 fun _ _ _ _ _ => ?_; refine k1 false [] c41 ?_; refine k2 eqTx_ok ?_; refine rP 4 false fun _ => ?_; refine rE ?_) | refine zI ?_ ?_ | (intro hb; (try simp [-List.getD_eq_getElem?_getD] at hb); (try (exfalso; omega))))
    all_goals exact rT
end Go.Proofs.Ytcmnbefdbckhcaa

