/- Slices that are cut with a bound on their room; bytealg.MakeNoZero. -/
import Derived.Test.YtekdhfppbahidaaU26
import Derived.Lib.MakeNoZero
import Derived.Laws.Externs
namespace Go.Vcg

variable {w0 : World} {M : Perm} {S0 : Nat → Prop} {ρ : Nat → Option Loc} {φ : Nat → Nat → Prop} {S : Nat → Prop} {st : St} {a : Act} {w : World} {P : Program} {T : Nat → Option TI} {C : Cx} {K : St → Prop} {o : Oper} {ops : Array Oper} {l : List Oper} {ty : Nat} {pos : String} {af : Array Edge}

/-- x[:h:m] -/
def pSlice3 (T : Nat → Option TI) (t : Nat) (x h m : SV) : Option (Prop × SV) := match T t, x, h, m with
  | some ti, .sl b i n, .pl (.int _ h), .pl (.int _ m) => match ti.k with
    | .slice e => match T e with
      | some _ => some (0 ≤ h ∧ h ≤ m ∧ m ≤ n, .sl b i h.toNat)
      | none => none
    | _ => none
  | _, _, _, _ => none

theorem pSlice3_ok (hT : TOk P T) (_h : Sim w0 M S0 ρ φ S st a w) {t : Nat} {v vh vm : Value} {s sh sm sv : SV} {side : Prop} (hr : Rep ρ S w v s) (hrh : Rep ρ S w vh sh) (hrm : Rep ρ S w vm sm) (he : pSlice3 T t s sh sm = some (side, sv)) (hs : side) :
    ∃ u, (∀ w', (Instr.sliceAt t v none (some vh) (some vm)).run P w' = .ok u w') ∧ Rep ρ S w u sv := by
  unfold pSlice3 at he
  split at he <;> try (cases he; done)
  rename_i ti b i n k1 h k2 m ht
  split at he <;> try (cases he; done)
  rename_i e hk
  split at he <;> try (cases he; done)
  rename_i ei hei
  obtain ⟨rfl, rfl⟩ := Prod.mk.inj (Option.some.inj he)
  obtain ⟨g1, g2, g3⟩ := hs
  obtain ⟨d, u1, u2⟩ := (hT t ti ht).run_und
  rw [hk] at u2
  obtain rfl := tk_slice u2
  have hsz : ∀ w', (sizeOf e).run P w' = .ok ei.size w' := fun w' => (hT e ei hei).run_size w'
  have key : ∀ (base : Option Addr) (cap : Nat), n ≤ cap → ∀ w', (Instr.sliceAt t (.slice base n cap) none (some (.int k1 h)) (some (.int k2 m))).run P w' = .ok (.slice base h.toNat m.toNat) w' := fun base cap hc w' => by
    have h1 : m ≤ (cap : Int) := by omega
    have h3 : 0 ≤ m := by omega
    simp [Instr.sliceAt, Instr.slice, u1, Instr.sliceBounds, Instr.sliceBound, asIntOf, hsz, h1, h3, g1]
    cases base <;> simp [Addr.add] <;> (intro g; omega)
  rw [hrh.pl_eq, hrm.pl_eq]
  cases hr with
  | per hr => cases hr
  | sl0 xa _ _ =>
    refine ⟨_, key xa 0 (by omega), ?_⟩
    have e1 : h.toNat = 0 := by omega
    have e2 : m.toNat = 0 := by omega
    rw [e1, e2]
    exact .sl0 xa b i
  | sl _ _ _ cap l hl hc hi hz =>
    exact ⟨_, key _ cap hc, .sl b i h.toNat m.toNat l hl (by omega) (by omega) (Nat.le_trans (by
      have : (i + m.toNat) * l.esz ≤ (i + cap) * l.esz := Nat.mul_le_mul_right _ (by omega)
      omega) hz)⟩
theorem O.s3 (hT : TOk C.P T) {g : Option (Nat × Bool)} {t d : Nat} {x h m : Operand} {side : Prop} {sv : SV} (he : pSlice3 T t (st.ev x) (st.ev h) (st.ev m) = some (side, sv)) (hd : d < st.n) (hs : side) (hK : side → K (st.set d sv)) :
    Sop C { dst := some d, op := .slice t x none (some h) (some m), type := ty, pos := pos, after := af, guard := g } st K := by
  unfold Sop
  intro Q a w _ ⟨ρ, φ, S, hsim⟩
  obtain ⟨u, h1, h2⟩ := pSlice3_ok (P := C.P) hT hsim (hsim.ev x) (hsim.ev h) (hsim.ev m) he hs
  refine wp_value (v := u) (w' := w) ?_ ⟨_, hK hs, ρ, φ, S, hsim.setSlot hd h2⟩
  unfold execOp
  simp [h1 w]

/-! ## MakeNoZero: whatever it holds -/

theorem digits_one : ∀ (n t : Nat) (acc : Array Value), (∀ v ∈ acc.toList, v.oneCell' = true) → ∀ v ∈ (Extern.BytealgMakeNoZero.digits n t acc).toList, v.oneCell' = true
  | 0, _, _, h => h
  | n + 1, t, acc, h => by
    rw [Extern.BytealgMakeNoZero.digits]
    refine digits_one n (t / 256) _ fun v hv => ?_
    rw [Array.toList_push, List.mem_append] at hv
    rcases hv with hv | hv
    · exact h v hv
    · simp only [List.mem_singleton] at hv
      subst hv
      rfl
theorem run_mnz (w : World) (ps : Array TypeId) (t e : TypeId) (ht : P.underlying t = some (.slice e)) (n : Nat) (hn : n ≤ 281474976710656) :
    ∃ cs : Array Value, (Extern.BytealgMakeNoZero.makeNoZero ps #[t] #[.int .i64 n]).run P w = .ok (.slice (some ⟨w.heap.size, 0, none⟩) n cs.size) (w.drew.drew.alloc (.cells cs e)) ∧ n ≤ cs.size ∧ ∀ v ∈ cs.toList, v.oneCell' = true := by
  have hdef : Extern.BytealgMakeNoZero.makeNoZero ps #[t] #[.int .i64 n] =
      (do
        let .slice elem ← underlying t | stuck "bytealg.MakeNoZero: slice type expected"
        if (n : Int) < 0 || (n : Int) > 2 ^ 48 then runtimePanic (.error "makeslice: len out of range")
        let cap ← choose (.appendCap (n : Int).toNat 0 elem)
        askRoom cap
        let bytes ← choose (.extern "internal/bytealg.MakeNoZero.bytes" 0)
        let a ← newRow elem (Extern.BytealgMakeNoZero.digits cap bytes #[])
        pure (.slice (some a) (n : Int).toNat cap)) := rfl
  refine ⟨Extern.BytealgMakeNoZero.digits (grownCap w n 0 e) ((Question.extern "internal/bytealg.MakeNoZero.bytes" 0).cut (w.tape (w.drawn + 1) (.extern "internal/bytealg.MakeNoZero.bytes" 0))) #[], ?_, ?_, digits_one _ _ _ (fun v hv => by simp at hv)⟩
  · rw [hdef]
    have h1 : ¬ (n : Int) < 0 := by omega
    have h2 : ¬ (281474976710656 : Int) < (n : Int) := by omega
    simp [run_underlying ht, h1, h2, Question.forced, newRow, Lib.size_digits, grownCap]
  · rw [Lib.size_digits]
    simpa using grownCap_ge w n 0 e

/-- That a function is MakeNoZero, of a slice of bytes. -/
structure MnzOk (P : Program) (f t : Nat) : Prop where
  fn : ∃ fn : Func, P.funcs[f]? = some fn ∧ (fn.name == "runtime.NumGoroutine") = false ∧ fn.body.isNone = true ∧ Extern.findNext fn = none ∧ ∃ ps, Extern.find fn = some (Extern.BytealgMakeNoZero.makeNoZero ps #[t])
  ty : ∃ e, P.underlying t = some (.slice e)

theorem O.mnz {g : Option (Nat × Bool)} {f t d : Nat} {c : Call} {n : Nat} {x : Operand} (hf : MnzOk C.P f t) (hc : c.callee = .value (.func f)) (hargs : c.args.toList = [x]) (he : st.ev x = .pl (.int .i64 n)) (hd : d < st.n) (hn : n ≤ 281474976710656)
    (hK : K (((st.kill d).setBlk d (.c 1 (List.replicate n [.dead]))).set d (.sl d 0 n))) :
    Sop C { dst := some d, op := .call c, type := ty, pos := pos, after := af, guard := g } st K := by
  unfold Sop
  intro Q a w _ ⟨ρ, φ, S, hsim⟩
  obtain ⟨⟨fn, f1, f2, f3, f4, ps, f5⟩, e, ht⟩ := hf
  have hx : a.eval x = .int .i64 n := by
    have := hsim.ev x
    rw [he] at this
    exact this.pl_eq
  obtain ⟨cs, h1, h2, h3⟩ := run_mnz (P := C.P) w ps t e ht n hn
  have hlen : (cs.toList.take n).length = n := by rw [List.length_take, Array.length_toList]; omega
  have hflat : Flat ρ S w.drew.drew 1 (cs.toList.take n) (List.replicate n [.dead]) (fun _ => False) := by
    refine Flat.plain (by rw [hlen]; simp) (fun i r hr => ?_) (fun v hv => h3 v (List.mem_of_mem_take hv)) fun i r j c hr hj => ?_
    · rw [List.getElem?_replicate] at hr
      split at hr
      · obtain rfl := Option.some.inj hr; rfl
      · cases hr
    · rw [List.getElem?_replicate] at hr
      split at hr
      · rename_i hi
        obtain rfl := Option.some.inj hr
        cases j with
        | zero =>
          simp only [List.getElem?_cons_zero, Option.some.injEq] at hj
          subst hj
          exact ⟨(cs.toList.take n)[i * 1 + 0]'(by rw [hlen]; omega), List.getElem?_eq_getElem (by rw [hlen]; omega), .dead _⟩
        | succ j => simp at hj
      · cases hr
  have hb := (hsim.drew.drew).bufNew (d := d) (cap := cs.size) (rest := cs.toList.drop n) e hd (fun _ => False) (fun _ g => g.elim) hflat (by simpa using h2) (by rw [hlen, List.length_drop, Array.length_toList]; omega) cs (List.take_append_drop n cs.toList).symm
  have hk : killRows d (List.replicate n [SV.dead]) = List.replicate n [.dead] := by
    unfold killRows
    rw [List.map_replicate]
    rfl
  rw [hk, List.length_replicate] at hb
  refine wp_value (v := .slice (some ⟨w.heap.size, 0, none⟩) n cs.size) (w' := w.drew.drew.alloc (.cells cs e)) ?_ ⟨_, hK, hb⟩
  have ha : c.args.map a.eval = #[.int .i64 n] := Array.ext' (by rw [Array.toList_map, hargs]; simp [hx])
  unfold execOp
  simp [resolve, hc, Act.eval, Deferred.ofValue, invoke, ha, run_callFunc_extern f1 f2 f3 f4 f5, h1]

end Go.Vcg
