import Derived.Test.YtcmnbefdbckhcaaB24
import Derived.Test.YtcmnbefdbckhcaaE2
namespace Go.Proofs.Ytcmnbefdbckhcaa
open Go Go.Vcg Go.IntWalk
set_option maxRecDepth 100000
set_option maxHeartbeats 4000000
set_option linter.unusedSimpArgs false
set_option linter.unusedVariables false
theorem spBlockId_ok {a : BlockA} {b : Bool} {d : H32} (hP : b = true ↔ hdOk a := by exact pm) (h0 : b = false → d = default := by exact pm) (h1 : b = true → d.l = sha (sha (encHead a)) := by exact pm) : TSpec Try.prog 58 [] [.ag (fBlock a)] false [] (.tu [.ag (encA .u8 d.l), .pl (.bool b)]) := by
  cases b with
  | false =>
    have hn : ¬ hdOk a := fun h => nomatch hP.mpr h
    unfold hdOk at hn
    rw [h0 rfl, show (default : H32).l = List.replicate 32 0 from rfl]
    simp only [fBlock]
    have hD := @encHead_length
    refine sT 16 [.cell 2 24, .tmp 3] Try.func58 fun w0 S0 ρ0 φ0 => ?_
    repeat' (first | apply W.seq | apply W.skip | apply W.region | apply W.block | apply N.code | apply N.blk | apply Sl.nil | apply W.exit | apply W.ret | apply E.hit | apply E.code | apply E.fin | refine zM ?_ | apply O.i | refine sP ?_ | refine sQ fun _ => ?_ | refine zg fun _ => ?_ | refine sX fun _ => ?_ | (refine k1 false [] c114 ?_; refine k2 hhd ?_) | (refine k1 false [] c74 ?_; refine k2 hdd ?_) | refine zI ?_ ?_ | (intro hb; (try simp [-List.getD_eq_getElem?_getD] at hb); (try (exfalso; omega))))
    exact rT
  | true =>
    have hn := hP.mp rfl
    unfold hdOk at hn
    have hhd := l5Head_ok (a := a) ⟨by omega, by omega⟩
    have hdd := l5Double_ok (by rw [encHead_length]; omega) (okBytes_head a) (h1 rfl)
    simp only [fBlock] at hhd ⊢
    have hD := @encHead_length
    refine sT 16 [.cell 2 24, .tmp 3] Try.func58 fun w0 S0 ρ0 φ0 => ?_
    repeat' (first | apply W.seq | apply W.skip | apply W.region | apply W.block | apply N.code | apply N.blk | apply Sl.nil | apply W.exit | apply W.ret | apply E.hit | apply E.code | apply E.fin | refine zM ?_ | apply O.i | refine sP ?_ | refine sQ fun _ => ?_ | refine zg fun _ => ?_ | refine sX fun _ => ?_ | (refine k1 false [] c114 ?_; refine k2 hhd ?_) | (refine k1 false [] c74 ?_; refine k2 hdd ?_) | refine zI ?_ ?_ | (intro hb; (try simp [-List.getD_eq_getElem?_getD] at hb); (try (exfalso; omega))))
    exact rT
theorem blkId_ok {a : BlockA} {d : H32} (h : hdOk a := by exact pm) (h1 : d.l = sha (sha (encHead a)) := by exact pm) : TSpec Try.prog 117 [] [.ag (fBlock a)] false [] (.ag (encA .u8 d.l)) := by
  unfold hdOk at h
  have hhd := head_ok (a := a) ⟨by omega, by omega⟩
  have hy := encHead_length a
  have hdb := double_ok (xs := [encHead a]) (d := d) (by simp [hy]) (by simp) (fun k hk => by
    obtain rfl : k = 0 := by simpa using hk
    exact okBytes_head a) (by simpa using h1)
  obtain ⟨ys, hys⟩ : ∃ ys, ys = encHead a := ⟨_, rfl⟩
  rw [← hys] at hhd hdb hy
  simp only [fBlock, encL_cons, encL_nil, fB] at hhd hdb ⊢
  have hD := (hy)
  have hD := (hy)
  refine sT 7 [.cell 2 24] Try.func117 fun w0 S0 ρ0 φ0 => ?_
  repeat' (first | apply W.seq | apply W.skip | apply W.region | apply W.block | apply N.code | apply N.blk | apply Sl.nil | apply W.exit | apply W.ret | apply E.hit | apply E.code | apply E.fin | refine zM ?_ | apply O.i | refine sP ?_ | refine sQ fun _ => ?_ | refine sX fun _ => ?_ | (refine k1 false [] c142 ?_; refine k2 hhd ?_) | (refine k1 false [] c77 ?_; refine k2 hdb ?_) | refine zI ?_ ?_ | (intro hb; (try simp [-List.getD_eq_getElem?_getD] at hb); (try (exfalso; omega))))
  exact rT
theorem imBlockId_ok {a : BlockA} {b : Bool} {d : H32} (hP : b = true ↔ hdOk a := by exact pm) (h0 : b = false → d = default := by exact pm) (h1 : b = true → d.l = sha (sha (encHead a)) := by exact pm) : TSpec Try.prog 59 [] [.ag (fBlock a)] false [] (.tu [.ag (encA .u8 d.l), .pl (.bool b)]) := by
  cases b with
  | false =>
    have hn : ¬ hdOk a := fun h => nomatch hP.mpr h
    unfold hdOk at hn
    rw [h0 rfl, show (default : H32).l = List.replicate 32 0 from rfl]
    simp only [fBlock]
    have hD := dN0
    refine sT 15 [.cell 2 24, .tmp 3] Try.func59 fun w0 S0 ρ0 φ0 => ?_
    repeat' (first | apply W.seq | apply W.skip | apply W.region | apply W.block | apply N.code | apply N.blk | apply Sl.nil | apply W.exit | apply W.ret | apply E.hit | apply E.code | apply E.fin | refine zM ?_ | apply O.i | refine sP ?_ | refine sQ fun _ => ?_ | refine zg fun _ => ?_ | refine sX fun _ => ?_ | (refine k1 false [] c117 ?_; refine k2 hid ?_) | refine zI ?_ ?_ | (intro hb; (try simp [-List.getD_eq_getElem?_getD] at hb); (try (exfalso; omega))))
    exact rT
  | true =>
    have hn := hP.mp rfl
    have hid := blkId_ok hn (h1 rfl)
    unfold hdOk at hn
    simp only [fBlock] at hid ⊢
    have hD := dN0
    refine sT 15 [.cell 2 24, .tmp 3] Try.func59 fun w0 S0 ρ0 φ0 => ?_
    repeat' (first | apply W.seq | apply W.skip | apply W.region | apply W.block | apply N.code | apply N.blk | apply Sl.nil | apply W.exit | apply W.ret | apply E.hit | apply E.code | apply E.fin | refine zM ?_ | apply O.i | refine sP ?_ | refine sQ fun _ => ?_ | refine zg fun _ => ?_ | refine sX fun _ => ?_ | (refine k1 false [] c117 ?_; refine k2 hid ?_) | refine zI ?_ ?_ | (intro hb; (try simp [-List.getD_eq_getElem?_getD] at hb); (try (exfalso; omega))))
    exact rT
theorem lawBlockId_ok {a : BlockA} (h : lnBlock a := by exact pm) : TSpec Try.prog 13 [] [.ag (fBlock a)] false [] (.pl (.bool true)) := by
  obtain ⟨b, hP⟩ := ex_b (hdOk a)
  have htot : totBlock a = a.Txs.length + sumN totTx a.Txs := rfl
  have hts : totTxS a.Txs = a.Txs.length + sumN totTx a.Txs := rfl
  by_cases hl : totBlock a < 2 ^ 40
  · obtain ⟨d, h0, h1⟩ : ∃ d : H32, (b = false → d = default) ∧ (b = true → d.l = sha (sha (encHead a))) := by
      cases b with
      | false => exact ⟨default, fun _ => rfl, fun e => (nomatch e)⟩
      | true => exact ⟨⟨sha (sha (encHead a)), sha_length _, okBytes_sha _⟩, fun e => (nomatch e), fun _ => rfl⟩
    have hsp := spBlockId_ok hP h0 h1
    have him := imBlockId_ok hP h0 h1
    simp only [fBlock] at hsp him ⊢
    have hD := @decide_true
    refine sT 41 [.tmp 2] Try.func13 fun w0 S0 ρ0 φ0 => ?_
    repeat' (first | apply W.seq | apply W.skip | apply W.region | apply W.block | apply N.code | apply N.blk | apply Sl.nil | apply W.exit | apply W.ret | apply E.hit | apply E.code | apply E.fin | refine zM ?_ | apply O.i | refine sP ?_ | refine sQ fun _ => ?_ | refine zg fun _ => ?_ | refine sX fun _ => ?_ | (refine k1 false [] c54 ?_; refine k2 (szBlock_ok h (by omega)) ?_) | (refine k1 false [] c56 ?_; refine k2 toBlock_ok ?_) | (refine k1 false [] c58 ?_; refine k2 hsp ?_) | (refine k1 false [] c59 ?_; refine k2 him ?_) | (refine k1 false [] c18 ?_; refine k2 eqH_ok ?_) | (refine rD (id := 10) anyW [] ?_; refine rP 0 true fun _ => ?_; refine rP 1 true fun _ => ?_; refine rO 2 fun _ _ _ _ _ => ?_; refine k1 false [] c56 ?_; refine k2 toBlock_ok ?_; refine rO 3 fun _ _ _ _ _ => ?_; refine k1 false [] c49 ?_; refine k2 eqBlock_ok ?_; refine rP 4 false fun _ => ?_; refine rE ?_) | refine zI ?_ ?_ | (intro hb; (try simp [-List.getD_eq_getElem?_getD] at hb); (try (exfalso; omega))))
    all_goals exact rT
  · simp only [fBlock]
    have hD := @decide_true
    refine sT 41 [.tmp 2] Try.func13 fun w0 S0 ρ0 φ0 => ?_
    repeat' (first | apply W.seq | apply W.skip | apply W.region | apply W.block | apply N.code | apply N.blk | apply Sl.nil | apply W.exit | apply W.ret | apply E.hit | apply E.code | apply E.fin | refine zM ?_ | apply O.i | refine sP ?_ | refine sQ fun _ => ?_ | refine zg fun _ => ?_ | refine sX fun _ => ?_ | (refine k1 false [] c54 ?_; refine k2 (szBlock_ok h (by omega)) ?_) | (refine k1 false [] c56 ?_; refine k2 toBlock_ok ?_) | (refine k1 false [] c58 ?_; refine k2 hsp ?_) | (refine k1 false [] c59 ?_; refine k2 him ?_) | (refine k1 false [] c18 ?_; refine k2 eqH_ok ?_) | (refine rD (id := 10) anyW [] ?_; refine rP 0 true fun _ => ?_; refine rP 1 true fun _ => ?_; refine rO 2 fun _ _ _ _ _ => ?_; refine k1 false [] c56 ?_; refine k2 toBlock_ok ?_; refine rO 3 fun _ _ _ _ _ => ?_; refine k1 false [] c49 ?_; refine k2 eqBlock_ok ?_; refine rP 4 false fun _ => ?_; refine rE ?_) | refine zI ?_ ?_ | (intro hb; (try simp [-List.getD_eq_getElem?_getD] at hb); (try (exfalso; omega))))
    all_goals exact rT
section
variable {H : Type} {enc : TypeId × Value → H} {w : World}
theorem enTxS : EncP enc Try.prog w 81 (fun xs => [.pd (encL fTx xs)]) lnTxS :=
  (EncP.slice Try.underlying81 (of_decide_eq_true (by kernel_rfl)) (of_decide_eq_true (by kernel_rfl)) enTx).imp fun xs h => by have := h.1; unfold reachBytes at this; exact ⟨by omega, h.2⟩
theorem enBlock : EncP enc Try.prog w 83 fBlock lnBlock :=
  EncFs.struct Try.underlying83 (by kernel_rfl) (EncFs.cons enHash (EncFs.cons enHash (EncFs.cons (EncP.int Try.underlying3) (EncFs.cons enTxS EncFs.nil)))) (fun x => ⟨x.1, x.2.1, x.2.2.1, x.2.2.2.1⟩) (fun x => by simp [fBlock, hR]) (fun _ h => h.2.2.2.1)
end
end Go.Proofs.Ytcmnbefdbckhcaa

