import Derived.Test.YtfmbifnbmlhhjaaN1
import Derived.Test.YtfmbifnbmlhhjaaUc
import Derived.Tactics
import Derived.WalkKit
import Derived.Laws.Externs
import Derived.LaidEql
import Derived.Stop.Asserts
import Derived.RowKitTokens
namespace Go.Proofs.Ytfmbifnbmlhhjaa
open Go Go.Vcg Go.IntWalk
set_option maxRecDepth 100000
set_option maxHeartbeats 20000000
set_option linter.unusedSimpArgs false
set_option linter.unusedVariables false
theorem c80 : CallOk Try.prog 80 := ⟨_, Try.func80, rfl, by kernel_rfl⟩
theorem c147 : CallOk Try.prog 147 := ⟨_, Try.func147, rfl, by kernel_rfl⟩
theorem c81 : CallOk Try.prog 81 := ⟨_, Try.func81, rfl, by kernel_rfl⟩
section
open Go.RowKit Go.Extern.Stop Go.Stop Go.Extern
theorem isTypeOf (v : Value) (w : World) : (Extern.ReflectliteType.typeOf #[.iface 117 v]).run Try.prog w = .ok (.iface 232 (.agg #[.pointer (some ⟨1, 117, none⟩)])) w := by kernel_rfl
theorem isCmp (w : World) : ((Extern.ReflectliteType.method fun t => do Rtype.noPackHeld "Comparable" t; pure (.bool (← typeInfo t).comparable)) #[.agg #[.pointer (some ⟨1, 117, none⟩)]]).run Try.prog w = .ok (.bool true) w := by kernel_rfl
theorem isMeth (v : Value) (w : World) : (Go.method (Try.prog.types.size + Made.depth) 232 v "Comparable").run Try.prog w = .ok (264, v) w := by kernel_rfl
theorem isInfo : (Try.prog.info? 117).map (·.comparable) = some true := by kernel_rfl
theorem noIsE (v : Value) (xT : TypeId) (w : World) : (Instr.typeAssert (.iface 117 v) xT 234 true).run Try.prog w = .ok (.tuple #[.nilIface, .bool false]) w := run_typeAssert_lacksB Try.underlying234 (by kernel_rfl) (by kernel_rfl) v xT w
theorem noUnwrapE (v : Value) (xT : TypeId) (w : World) : (Instr.typeAssert (.iface 117 v) xT 237 true).run Try.prog w = .ok (.tuple #[.nilIface, .bool false]) w := run_typeAssert_lacksB Try.underlying237 (by kernel_rfl) (by kernel_rfl) v xT w
theorem noUnwrapsE (v : Value) (xT : TypeId) (w : World) : (Instr.typeAssert (.iface 117 v) xT 239 true).run Try.prog w = .ok (.tuple #[.nilIface, .bool false]) w := run_typeAssert_lacksB Try.underlying239 (by kernel_rfl) (by kernel_rfl) v xT w
theorem invC (w : World) : (callMethod (.iface 232 (.agg #[.pointer (some ⟨1, 117, none⟩)])) "Comparable" #[]).run Try.prog w = .ok (.value (.bool true)) w := by
  have h32 := @run_callFunc_extern Try.prog 264 _ (Extern.ReflectliteType.method fun t => do Rtype.noPackHeld "Comparable" t; pure (.bool (← typeInfo t).comparable)) Try.func264 (by kernel_rfl) (by kernel_rfl) (by kernel_rfl) (by kernel_rfl)
  have e : (callMethod (.iface 232 (.agg #[.pointer (some ⟨1, 117, none⟩)])) "Comparable" #[]).run Try.prog w = ((Go.method (Try.prog.types.size + Made.depth) 232 (.agg #[.pointer (some ⟨1, 117, none⟩)]) "Comparable").run Try.prog w).andThen fun p w' => (callFunc p.1 (#[p.2] ++ #[])).run Try.prog w' := by kernel_rfl
  rw [e, isMeth]
  show (callFunc 264 #[.agg #[.pointer (some ⟨1, 117, none⟩)]]).run Try.prog w = _
  rw [h32, isCmp]
  rfl
theorem eqS (s t : ByteArray) (w : World) : (binOp .eql 113 (.iface 117 (.string s)) (.iface 117 (.string t))).run Try.prog w = .ok (.bool (s.toList == t.toList)) w := by
  obtain ⟨i, hi, hc⟩ := Option.map_eq_some_iff.1 isInfo
  have h : ∀ d : Nat, (Op.equalIn (d + 2) 113 (.iface 117 (.string s)) (.iface 117 (.string t))).run Try.prog w = .ok (s.toList == t.toList) w := fun d => by
    rw [Op.equalIn]
    simp [run_underlying Try.underlying113, typeInfo, hi, hc]
    exact run_equalIn_string w d 117 s t Try.underlying117
  simp only [binOp]
  simp [Op.equal, Op.maxDepth, h 9998]
attribute [-go_sem] callMethod
theorem is_calls (s t : ByteArray) (w : World) : Calls Try.prog 80 #[.iface 117 (.string s), .iface 117 (.string t)] w (fun e w' => e = .returned (.bool (s.toList == t.toList)) ∧ w' = w) := by
  have h8 := @run_callFunc_extern Try.prog 148 _ Extern.ReflectliteType.typeOf Try.func148 (by kernel_rfl) (by kernel_rfl) (by kernel_rfl) (by kernel_rfl)
  have tT := isTypeOf
  have cT := invC
  have heq := eqS s t w
  have nE := noIsE
  have uE := noUnwrapE
  have vE := noUnwrapsE
  go_enter Try.func80, Try.f80
  go_wp2
  refine wp_loop_rounds 1 ?_
  rw [rounds_succ]
  cases hb : (s.toList == t.toList)
  · rw [hb] at heq
    go_wp2
    first | (go_ret; exact ⟨rfl, rfl⟩) | exact bodyPost_ret (results_tmp rfl _ _ _) rfl ⟨by rw [hb]; rfl, rfl⟩
  · rw [hb] at heq
    go_wp2
    first | (go_ret; exact ⟨rfl, rfl⟩) | exact bodyPost_ret (results_tmp rfl _ _ _) rfl ⟨by rw [hb]; rfl, rfl⟩
theorem is_nil (t : ByteArray) (w : World) : Calls Try.prog 80 #[.nilIface, .iface 117 (.string t)] w (fun e w' => e = .returned (.bool false) ∧ w' = w) := by
  have hn := run_eql_iface_nil_left (P := Try.prog) w 117 (.string t) Try.underlying113
  go_enter Try.func80, Try.f80
  go_wp2
  first | (go_ret; exact ⟨rfl, rfl⟩) | exact bodyPost_ret (results_tmp rfl _ _ _) rfl ⟨rfl, rfl⟩
end
def flt (s : ByteArray) : SV := .ifc 117 (.pl (.string s))
theorem flt_val {ρ : Nat → Option Vcg.Loc} {S : Nat → Prop} {w : World} {v : Value} {s : ByteArray} (h : Rep ρ S w v (.ifc 117 (.pl (.string s)))) : v = .iface 117 (.string s) := by
  cases h with
  | per h => cases h with
    | ifc _ h => cases h; rfl
  | ifc _ h => rw [h.pl_eq]
theorem isF_ok {s t : ByteArray} : TSpec Try.prog 80 [] [.ifc 117 (.pl (.string s)), .ifc 117 (.pl (.string t))] false [] (.pl (.bool (s.toList == t.toList))) := by
  refine TSpec.quiet fun w S ρ vals hl hv => ?_
  match vals, hl, hv with
  | [v1, v2], _, hv =>
    obtain rfl := flt_val (hv 0 v1 _ rfl rfl)
    obtain rfl := flt_val (hv 1 v2 _ rfl rfl)
    exact is_calls s t w
theorem isN_ok {t : ByteArray} : TSpec Try.prog 80 [] [.pl .nilIface, .ifc 117 (.pl (.string t))] false [] (.pl (.bool false)) := by
  refine TSpec.quiet fun w S ρ vals hl hv => ?_
  match vals, hl, hv with
  | [v1, v2], _, hv =>
    obtain rfl := (hv 0 v1 _ rfl rfl).pl_eq
    obtain rfl := flt_val (hv 1 v2 _ rfl rfl)
    exact is_nil t w
theorem bytesEqual_ok {xs ys : List Int} (h1 : okBytes xs := by exact pm) (h2 : okBytes ys := by exact pm) : TSpec Try.prog 147 [] [.pd (encI .u8 xs), .pd (encI .u8 ys)] false [] (.pl (.bool (decide (xs = ys)))) := by
  have hD := dN0
  refine sT 10 [.tmp 4] Try.func147 fun w0 S0 ρ0 φ0 => ?_
  repeat' (first | apply W.seq | apply W.skip | apply W.region | apply W.block | apply N.code | apply N.blk | apply Sl.nil | apply W.exit | apply W.ret | apply E.hit | apply E.code | apply E.fin | refine zM ?_ | apply O.i | refine sP ?_ | refine sQ fun _ => ?_ | refine sCB ?_ | refine zI ?_ ?_ | (intro hb; (try simp [-List.getD_eq_getElem?_getD] at hb); (try (exfalso; omega))))
  rw [strI_inj h1 h2]
  exact rT
theorem bytesClone_ok {xs : List Int} (h : xs.length < 2 ^ 40 := by exact pm) : TSpec Try.prog 81 [] [.pd (encI .u8 xs)] false [] (.ow 1 (encI .u8 xs)) := by
  have hD := dN0
  refine sT 8 [.tmp 2] Try.func81 fun w0 S0 ρ0 φ0 => ?_
  repeat' (first | apply W.seq | apply W.skip | apply W.region | apply W.block | apply N.code | apply N.blk | apply Sl.nil | apply W.exit | apply W.ret | apply E.hit | apply E.code | apply E.fin | refine zM ?_ | apply O.i | refine sP ?_ | refine sQ fun _ => ?_ | refine sX fun _ => ?_ | refine sEQ fun b hnil => ?_ | refine sNQ fun b hnil => ?_ | refine zI ?_ ?_ | (intro hb; (try simp [-List.getD_eq_getElem?_getD] at hb); (try (exfalso; omega))))
  · obtain rfl := List.eq_nil_of_length_eq_zero (hnil hb)
    exact rT
  · exact rT
end Go.Proofs.Ytfmbifnbmlhhjaa

