import Derived.Test.YtfmbifnbmlhhjaaG1
import Derived.Test.YtfmbifnbmlhhjaaUc
namespace Go.Proofs.Ytfmbifnbmlhhjaa
open Go Go.Vcg Go.IntWalk
set_option maxRecDepth 100000
set_option maxHeartbeats 20000000
set_option linter.unusedSimpArgs false
set_option linter.unusedVariables false
/-- Does a page stand there? -/
def rdOk (a : DiskA) (id : Int) (raw : List Int) : Prop := (0 ≤ id ∧ id < (a.Safe.length / 4 : Nat)) ∧ raw.length = 256 ∧ pgOk id raw
def pgNow (a : DiskA) (id : Int) : List Int := pgCat a (lastN a.Pending a.Pending.length) id 4
theorem secV_64 {a : DiskA} (hd : diskOk a) (hl : ∀ k i, agetI (lastN a.Pending a.Pending.length) k = some i → 0 ≤ i ∧ i < a.Pending.length) (k : Int) (hk : 0 ≤ k ∧ k < a.Safe.length) : (nowV a k).length = 64 := by
  unfold nowV secV
  rw [if_pos hk]
  split
  · rename_i i hi
    obtain ⟨h1, h2⟩ := hl k i hi
    exact (hd.2.2.2.2 i.toNat (by omega)).2.2
  · exact hd.2.2.2.1 k.toNat (by omega)
theorem pgNow_256 {a : DiskA} (hd : diskOk a) (hl : ∀ k i, agetI (lastN a.Pending a.Pending.length) k = some i → 0 ≤ i ∧ i < a.Pending.length) (id : Int) (h1 : 0 ≤ id ∧ id < (a.Safe.length / 4 : Nat)) : (pgNow a id).length = 256 := by
  have key : ∀ k : Nat, k ≤ 4 → (pgCat a (lastN a.Pending a.Pending.length) id k).length = 64 * k := by
    intro k
    induction k with
    | zero => intro _; rfl
    | succ k ih =>
      intro hk
      have := secV_64 hd hl (4 * id + k) ⟨by omega, by omega⟩
      unfold nowV at this
      rw [pgCat, List.length_append, ih (by omega), this]
      omega
  exact key 4 (Nat.le_refl _)
theorem imReadPage_ok {a : DiskA} {id : Int} {db c : Bool} (h : totDisk a < 2 ^ 40) (hP : db = true ↔ diskOk a) (hl : ∀ k i, agetI (lastN a.Pending a.Pending.length) k = some i → 0 ≤ i ∧ i < a.Pending.length) (ho : okBytes (pgNow a id)) (hc : c = true ↔ diskOk a ∧ rdOk a id (pgNow a id)) :
    TSpec Try.prog 27 [] [.ag (fDisk a), .pl (.int .i64 id)] false [] (.tu [.pl (.int .i64 (if c then pgK (pgNow a id) else 0)), .ow 1 (encI .u8 (if c then pgB (pgNow a id) else [])), .pl (.bool c)]) := by
  have htot : totDisk a = (a.Safe.length + sumN List.length a.Safe) + (a.Pending.length + sumN totPend a.Pending) := rfl
  have hrl := pgCat_len a (lastN a.Pending a.Pending.length) id 4
  cases db with
  | false =>
    obtain rfl : c = false := by cases c with
      | false => rfl
      | true => exact absurd (hP.mpr (hc.mp rfl).1) (by decide)
    simp only [fDisk, Bool.false_eq_true, if_false]
    have hD := dN0
    refine sT 27 [.tmp 4, .tmp 5, .tmp 6] Try.func27 fun w0 S0 ρ0 φ0 => ?_
    repeat' (first | apply W.seq | apply W.skip | apply W.region | apply W.block | apply N.code | apply N.blk | apply Sl.nil | apply W.exit | apply W.ret | apply E.hit | apply E.code | apply E.fin | refine zM ?_ | apply O.i | refine sP ?_ | refine sQ fun _ => ?_ | refine sX fun _ => ?_ | refine sIE ?_ | refine sIQ ?_ | (refine k1 false [] c66 ?_; refine k2 (imDiskOk_ok h hP) ?_) | (refine k1 true [] c87 ?_; refine k2 (deviceOf_ok (a := a)) ?_) | (refine k1 true [(1000000, 0, none), (1000001, 0, some 2000000)] c101 ?_; refine k2 hpg ?_) | (refine lU (nmR 14) 0 4 2000000 ?_; refine k1 true [(1000000, 0, none), (1000001, 0, some 2000000)] c101 ?_; refine k2 hpg ?_) | (refine rD (id := 6) anyW [] ?_; refine rP 0 false fun _ => ?_; refine rP 1 false fun _ => ?_; refine rP 2 true fun _ => ?_; refine rP 3 false fun _ => ?_; refine rP 4 true fun _ => ?_; refine rO 5 fun _ _ _ _ _ => ?_; refine k1 false [] c81 ?_; refine k2 bytesClone_ok ?_; refine rP 6 false fun _ => ?_; refine rP 7 false fun _ => ?_; refine rP 8 false fun _ => ?_; refine rE ?_) | refine zI ?_ ?_ | (intro hb; (try simp [-List.getD_eq_getElem?_getD] at hb); (try (exfalso; omega))))
    exact rT
  | true =>
    have hd := hP.mp rfl
    have hz : ∀ s : ByteArray, c = false → TSpec Try.prog 101 [(1000000, devB 0 a), (1000001, .m (mII (lastN a.Pending a.Pending.length)))] [.pt 1000000 0 0, .pl (.int .i64 id)] true [(1000000, devB 0 a), (1000001, .m (mII (lastN a.Pending a.Pending.length)))] (.tu [.ag [.pl (.int .i64 0), .pl (.int .i64 0), .pl (.int .i64 0), .nl], .ifc 117 (.pl (.string s))]) →
        TSpec Try.prog 27 [] [.ag (fDisk a), .pl (.int .i64 id)] false [] (.tu [.pl (.int .i64 (if c then pgK (pgNow a id) else 0)), .ow 1 (encI .u8 (if c then pgB (pgNow a id) else [])), .pl (.bool c)]) := fun s hcf hpg => by
      subst hcf
      simp only [fDisk, devB, devR, Bool.false_eq_true, if_false] at hpg ⊢
      clear hc ho hrl
      have hD := dN0
      refine sT 27 [.tmp 4, .tmp 5, .tmp 6] Try.func27 fun w0 S0 ρ0 φ0 => ?_
      repeat' (first | apply W.seq | apply W.skip | apply W.region | apply W.block | apply N.code | apply N.blk | apply Sl.nil | apply W.exit | apply W.ret | apply E.hit | apply E.code | apply E.fin | refine zM ?_ | apply O.i | refine sP ?_ | refine sQ fun _ => ?_ | refine sX fun _ => ?_ | refine sIE ?_ | refine sIQ ?_ | (refine k1 false [] c66 ?_; refine k2 (imDiskOk_ok h hP) ?_) | (refine k1 true [] c87 ?_; refine k2 (deviceOf_ok (a := a)) ?_) | (refine k1 true [(1000000, 0, none), (1000001, 0, some 2000000)] c101 ?_; refine k2 hpg ?_) | (refine lU (nmR 14) 0 4 2000000 ?_; refine k1 true [(1000000, 0, none), (1000001, 0, some 2000000)] c101 ?_; refine k2 hpg ?_) | (refine rD (id := 6) anyW [] ?_; refine rP 0 false fun _ => ?_; refine rP 1 false fun _ => ?_; refine rP 2 true fun _ => ?_; refine rP 3 false fun _ => ?_; refine rP 4 true fun _ => ?_; refine rO 5 fun _ _ _ _ _ => ?_; refine k1 false [] c81 ?_; refine k2 bytesClone_ok ?_; refine rP 6 false fun _ => ?_; refine rP 7 false fun _ => ?_; refine rP 8 false fun _ => ?_; refine rE ?_) | refine zI ?_ ?_ | (intro hb; (try simp [-List.getD_eq_getElem?_getD] at hb); (try (exfalso; omega))))
      all_goals exact rT
    by_cases h1 : 0 ≤ id ∧ id < (a.Safe.length / 4 : Nat)
    · have h2 := pgNow_256 hd hl id h1
      have hpn : pgCat a (lastN a.Pending a.Pending.length) id 4 = pgNow a id := rfl
      by_cases h3 : pgOk id (pgNow a id)
      · obtain rfl : c = true := hc.mpr ⟨hd, h1, h2, h3⟩
        have hpg := page3_ok h hl h1 (parse3_ok ho h2 h3)
        have hbq : (pgB (pgNow a id)).length < 2 ^ 40 := by unfold pgB; rw [List.length_take, List.length_drop]; omega
        simp only [fDisk, devB, devR, if_true, hpn] at hpg ⊢
        clear hc ho hrl hz h3 hpn h2
        generalize pgK (pgNow a id) = kq at *
        generalize pgB (pgNow a id) = bq at *
        have hD := dN0
        refine sT 27 [.tmp 4, .tmp 5, .tmp 6] Try.func27 fun w0 S0 ρ0 φ0 => ?_
        repeat' (first | apply W.seq | apply W.skip | apply W.region | apply W.block | apply N.code | apply N.blk | apply Sl.nil | apply W.exit | apply W.ret | apply E.hit | apply E.code | apply E.fin | refine zM ?_ | apply O.i | refine sP ?_ | refine sQ fun _ => ?_ | refine sX fun _ => ?_ | refine sIE ?_ | refine sIQ ?_ | (refine k1 false [] c66 ?_; refine k2 (imDiskOk_ok h hP) ?_) | (refine k1 true [] c87 ?_; refine k2 (deviceOf_ok (a := a)) ?_) | (refine k1 true [(1000000, 0, none), (1000001, 0, some 2000000)] c101 ?_; refine k2 hpg ?_) | (refine lU (nmR 14) 0 4 2000000 ?_; refine k1 true [(1000000, 0, none), (1000001, 0, some 2000000)] c101 ?_; refine k2 hpg ?_) | (refine rD (id := 6) anyW [] ?_; refine rP 0 false fun _ => ?_; refine rP 1 false fun _ => ?_; refine rP 2 true fun _ => ?_; refine rP 3 false fun _ => ?_; refine rP 4 true fun _ => ?_; refine rO 5 fun _ _ _ _ _ => ?_; refine k1 false [] c81 ?_; refine k2 bytesClone_ok ?_; refine rP 6 false fun _ => ?_; refine rP 7 false fun _ => ?_; refine rP 8 false fun _ => ?_; refine rE ?_) | refine zI ?_ ?_ | (intro hb; (try simp [-List.getD_eq_getElem?_getD] at hb); (try (exfalso; omega))))
        all_goals exact rT
      · exact hz _ (by cases c with
          | false => rfl
          | true => exact absurd (hc.mp rfl).2.2.2 h3) (page2_ok h hl h1 (parse2_ok ho h2 h3))
    · exact hz _ (by cases c with
        | false => rfl
        | true => exact absurd (hc.mp rfl).2.1 h1) (page1_ok h h1)
end Go.Proofs.Ytfmbifnbmlhhjaa

