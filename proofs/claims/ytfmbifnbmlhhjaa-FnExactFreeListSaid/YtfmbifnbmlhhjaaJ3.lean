import Derived.Test.YtfmbifnbmlhhjaaJ2
namespace Go.Proofs.Ytfmbifnbmlhhjaa
open Go Go.Vcg Go.IntWalk
set_option maxRecDepth 100000
set_option maxHeartbeats 20000000
set_option linter.unusedSimpArgs false
set_option linter.unusedVariables false
theorem imFreeList_ok {a : DiskA} {s : SuperA} {db : Bool} (h : totDisk a < 2 ^ 40) (hP : db = true ↔ diskOk a) (ho : okDisk a) :
    TSpec Try.prog 44 [] [.ag (fDisk a), .ag (fSuper s)] false [] (.tu [.ow 1 (encI .i64 (if db then (flR a s.Free).1 else [])), .ow 1 (encI .i64 (if db then (flR a s.Free).2.1 else [])), .pl (.bool (if db then (flR a s.Free).2.2 else false))]) := by
  have htot : totDisk a = (a.Safe.length + sumN List.length a.Safe) + (a.Pending.length + sumN totPend a.Pending) := rfl
  cases db with
  | false =>
    simp only [fDisk, fSuper, Bool.false_eq_true, if_false]
    have hD := dN0
    refine sT 17 [.tmp 4, .tmp 5, .tmp 6] Try.func44 fun w0 S0 ρ0 φ0 => ?_
    repeat' (first | apply W.seq | apply W.skip | refine W.region (id := 0) ?_ | refine W.region (id := 1) ?_ | refine W.region (id := 2) ?_ | apply W.block | apply N.code | apply N.blk | apply Sl.nil | apply W.exit | apply W.ret | apply E.hit | apply E.code | apply E.fin | refine zM ?_ | apply O.i | refine sP ?_ | refine sQ fun _ => ?_ | refine sX fun _ => ?_ | (refine k1 false [] c66 ?_; refine k2 (imDiskOk_ok h hP) ?_) | refine zI ?_ ?_ | (intro hb; (try simp [-List.getD_eq_getElem?_getD] at hb); (try (exfalso; omega))))
    exact rT
  | true =>
    have hd := hP.mp rfl
    simp only [fDisk, fSuper, if_true]
    have hD := dN0
    refine sT 17 [.tmp 4, .tmp 5, .tmp 6] Try.func44 fun w0 S0 ρ0 φ0 => ?_
    repeat' (first | apply W.seq | apply W.skip | apply W.region | apply W.block | apply N.code | apply N.blk | apply Sl.nil | apply W.exit | apply W.ret | apply E.hit | apply E.code | apply E.fin | refine zM ?_ | apply O.i | refine sP ?_ | refine sQ fun _ => ?_ | refine sX fun _ => ?_ | (refine k1 false [] c66 ?_; refine k2 (imDiskOk_ok h hP) ?_) | (refine rD (id := 3) anyW [1, 3] ?_; refine rP 0 true fun _ => ?_; (focus (refine rA [1, 2] (xO (fun _ _ _ _ _ => ?_) (xO (fun _ _ _ _ _ => ?_) RX.nil)); (focus (refine k1 true [] c87 ?_; refine k2 (deviceOf_ok (a := a)) ?_; refine rP 2 true fun _ => ?_; refine rO 3 fun _ _ _ _ _ => ?_; refine k1 true [(1000000, 0, none)] c119 ?_; refine k2 (freeList_ok (s := s) h hd ho) ?_; refine rP 4 false fun _ => ?_; refine rP 5 false fun _ => ?_; refine rP 6 false fun _ => ?_; refine rP 7 false fun _ => ?_; refine rP 8 false fun _ => ?_; refine rP 9 false fun _ => ?_; refine rE ?_)); rotate_left; (focus (refine sQ fun _ => ?_; refine rO 1 fun _ _ _ _ _ => ?_; refine k1 true [] c87 ?_; refine k2 (deviceOf_ok (a := a)) ?_; refine rO 3 fun _ _ _ _ _ => ?_; refine k1 true [(1000000, 0, none)] c119 ?_; refine k2 (freeList_ok (s := s) h hd ho) ?_; refine rP 4 false fun _ => ?_; refine rP 5 false fun _ => ?_; refine rP 6 false fun _ => ?_; refine rP 7 false fun _ => ?_; refine rP 8 false fun _ => ?_; refine rP 9 false fun _ => ?_; refine rE ?_)); rotate_left))) | refine zI ?_ ?_ | (intro hb; (try simp [-List.getD_eq_getElem?_getD] at hb); (try (exfalso; omega))))
    all_goals exact rT
end Go.Proofs.Ytfmbifnbmlhhjaa

