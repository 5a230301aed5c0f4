import Derived.Test.YtnancifnodbkdaaB8
namespace Go.Proofs.Ytnancifnodbkdaa
open Go Go.Vcg Go.IntWalk
set_option maxRecDepth 100000
set_option maxHeartbeats 20000000
set_option linter.unusedSimpArgs false
set_option linter.unusedVariables false
theorem imSha_ok {b : List Int} (h : b.length < 2 ^ 38 := by exact pm) (ho : okBytes b := by exact pm) : TSpec Try.prog 187 [] [.pd (encI .u8 b)] false [] (.ag (encA .u8 (sha b))) := by
  have hn : okBytes [] := fun x hx => by simp at hx
  have hbl := sha_length b
  have hsum := sum_ok (m := b) h ho
  have hnew := newHasher_ok
  have hwr := write_ok (m := []) (b := b) (by simp; omega) hn ho
  obtain ⟨s, hs⟩ : ∃ s, s = sha b := ⟨_, rfl⟩
  obtain ⟨q0, hq0⟩ : ∃ q, q = hrowM [] := ⟨_, rfl⟩
  obtain ⟨q1, hq1⟩ : ∃ q, q = hrowM b := ⟨_, rfl⟩
  obtain ⟨q2, hq2⟩ : ∃ q, q = hrowM (pad b) := ⟨_, rfl⟩
  rw [List.nil_append, ← hq0, ← hq1] at hwr
  rw [← hq0] at hnew
  rw [← hs, ← hq1, ← hq2] at hsum
  rw [← hs] at hbl ⊢
  have e0 : ∀ d, q0.map (SV.kill1 d) = q0 := fun d => by rw [hq0]; exact hrowM_kill [] d
  have e1 : ∀ d, q1.map (SV.kill1 d) = q1 := fun d => by rw [hq1]; exact hrowM_kill b d
  have e2 : ∀ d, q2.map (SV.kill1 d) = q2 := fun d => by rw [hq2]; exact hrowM_kill _ d
  have f0 : ∀ r, q0.map (SV.rn1 r) = q0 := fun d => by rw [hq0]; exact hrowM_rn [] d
  have f1 : ∀ r, q1.map (SV.rn1 r) = q1 := fun d => by rw [hq1]; exact hrowM_rn b d
  have f2 : ∀ r, q2.map (SV.rn1 r) = q2 := fun d => by rw [hq2]; exact hrowM_rn _ d
  have l0 : q0.length = 74 := by rw [hq0]; exact hrowM_len []
  have l1 : q1.length = 74 := by rw [hq1]; exact hrowM_len b
  have l2 : q2.length = 74 := by rw [hq2]; exact hrowM_len _
  clear hq0 hq1 hq2 hs
  have hD := And.intro @encA_length (And.intro @putAt_all (And.intro @lRep (And.intro @encA_isPl (And.intro @encA_shut (And.intro (hbl) (And.intro (e0) (And.intro (e1) (And.intro (e2) (And.intro (f0) (And.intro (f1) (And.intro (f2) (And.intro (l0) (And.intro (l1) ((l2)))))))))))))))
  have hD := And.intro @encA_length (And.intro @putAt_all (And.intro @lRep (And.intro @encA_isPl (And.intro @encA_shut (And.intro (hbl) (And.intro (e0) (And.intro (e1) (And.intro (e2) (And.intro (f0) (And.intro (f1) (And.intro (f2) (And.intro (l0) (And.intro (l1) ((l2)))))))))))))))
  refine sT 10 [.cell 2 50] Try.func187 fun w0 S0 ρ0 φ0 => ?_
  repeat' (first | apply W.seq | apply W.skip | apply W.region | apply W.block | apply N.code | apply N.blk | apply Sl.nil | apply W.exit | apply W.ret | apply E.hit | apply E.code | apply E.fin | refine zM ?_ | apply O.i | refine sP ?_ | refine sQ fun _ => ?_ | refine sX fun _ => ?_ | (refine k1 false [] c184 ?_; refine k2 hnew ?_) | (refine k1 false [(1000000, 0, none)] c185 ?_; refine k2 hwr ?_) | (refine k1 false [(1000000, 0, none)] c186 ?_; refine k2 hsum ?_) | refine zI ?_ ?_ | (intro hb; (try simp [-List.getD_eq_getElem?_getD] at hb); (try (exfalso; omega))))
  exact rT
end Go.Proofs.Ytnancifnodbkdaa

