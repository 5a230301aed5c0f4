import Derived.Test.YtfmbifnbmlhhjaaA1
import Derived.Test.YtfmbifnbmlhhjaaUc
namespace Go.Proofs.Ytfmbifnbmlhhjaa
open Go Go.Vcg Go.IntWalk
set_option maxRecDepth 100000
set_option maxHeartbeats 20000000
set_option linter.unusedSimpArgs false
set_option linter.unusedVariables false
variable {w : World} {a : Addr} {v : Value}
theorem e190 (args : Array Value) (w : World) : (callFunc 194 args).run Try.prog w = .ok (.value (.tuple #[])) w := by
  rw [run_callFunc_extern Try.func194 (by kernel_rfl) (by kernel_rfl) (by kernel_rfl) (e := fun _ => do mark .disable; pure Extern.Race.none_) (by kernel_rfl)]
  rfl
theorem e192 (args : Array Value) (w : World) : (callFunc 196 args).run Try.prog w = .ok (.value (.tuple #[])) w := by
  rw [run_callFunc_extern Try.func196 (by kernel_rfl) (by kernel_rfl) (by kernel_rfl) (e := fun _ => do mark .enable; pure Extern.Race.none_) (by kernel_rfl)]
  rfl
theorem e193 (a : Addr) (w : World) : (callFunc 197 #[.pointer (some a)]).run Try.prog w = .ok (.value (.tuple #[])) w := by
  rw [run_callFunc_extern Try.func197 (by kernel_rfl) (by kernel_rfl) (by kernel_rfl) (e := Extern.Race.marked .acquire) (by kernel_rfl)]
  simp [Extern.Race.marked, Extern.Race.at_, Extern.Race.none_]
theorem e195 (a : Addr) (w : World) : (callFunc 199 #[.pointer (some a)]).run Try.prog w = .ok (.value (.tuple #[])) w := by
  rw [run_callFunc_extern Try.func199 (by kernel_rfl) (by kernel_rfl) (by kernel_rfl) (e := Extern.Race.marked .releaseMerge) (by kernel_rfl)]
  simp [Extern.Race.marked, Extern.Race.at_, Extern.Race.none_]
theorem shape_of (h : w.cell? a = some v) : (w.shape? a.block).isSome = true ∧ a.spot = none := by
  unfold World.cell? at h
  unfold World.shape?
  split at h
  · split at h
    · cases h
    · rename_i g; exact ⟨rfl, by simpa using g⟩
  · cases h
theorem st_run {P : Program} (w : World) (a : Addr) (k : IntKind) (x : Value) (z : Int) (m : Mode) (h0 : w.cell? a = some x) (hf : w.frozen? a = false) : (store a (.int k z) m).run P w = .ok () (w.setCell a (.int k z)) := by
  rw [run_store _ _ _ _ _ rfl, h0]
  simp [hf]
theorem e191 (w : World) (a : Addr) (x y z : Int) (h0 : w.cell? a = some (.int .i32 x)) (hf : w.frozen? a = false) : (callFunc 195 #[.pointer (some a), .int .i32 y, .int .i32 z]).run Try.prog w = .ok (.value (.bool (x == y))) (if x = y then w.setCell a (.int .i32 z) else w) := by
  rw [run_callFunc_extern Try.func195 (by kernel_rfl) (by kernel_rfl) (by kernel_rfl) (e := Extern.Atomic.casT (.int .i32)) (by kernel_rfl)]
  obtain ⟨h1, h2⟩ := shape_of h0
  have hdef : Extern.Atomic.casT (.int .i32) #[.pointer (some a), .int .i32 y, .int .i32 z] = (do
    let a ← asAddr (.pointer (some a))
    if ← Extern.Atomic.touchesFrozen a then unsupported (.unsafePointer "a write to bytes that a string shares")
    let eq ← match Extern.Atomic.T.int .i32, ← Extern.Atomic.read (.int .i32) a, Value.int .i32 y with
      | _, .int _ x, .int _ y => pure (x == y)
      | .ptr, .pointer x, .pointer y => samePointer x y
      | .int _, .pointer (some _), .int _ 0 | .int _, .int _ 0, .pointer (some _) => pure false
      | .int _, .pointer (some _), _ | .int _, _, .pointer (some _) => unsupported .addressObserved
      | _, _, _ => stuck "atomic.CompareAndSwap: old is no T"
    if eq then store a (.int .i32 z) .atomic
    pure (.bool eq)) := rfl
  rw [hdef]
  by_cases e : x = y
  · subst e
    simp [asAddr, Extern.Atomic.touchesFrozen, Extern.Atomic.read, viewAt, h0, hf, h1, st_run w a _ _ _ _ h0 hf]
  · simp [asAddr, Extern.Atomic.touchesFrozen, Extern.Atomic.read, viewAt, h0, hf, h1, st_run w a _ _ _ _ h0 hf, e]
theorem e196 (w : World) (a : Addr) (x y : Int) (h0 : w.cell? a = some (.int .i32 x)) (hf : w.frozen? a = false) : (callFunc 200 #[.pointer (some a), .int .i32 y]).run Try.prog w = .ok (.value (.int .i32 (IntKind.i32.wrap (x + y)))) (w.setCell a (.int .i32 (IntKind.i32.wrap (x + y)))) := by
  rw [run_callFunc_extern Try.func200 (by kernel_rfl) (by kernel_rfl) (by kernel_rfl) (e := Extern.Atomic.update (Op.intArith .add) .i32 true) (by kernel_rfl)]
  obtain ⟨h1, h2⟩ := shape_of h0
  have hdef : Extern.Atomic.update (Op.intArith .add) .i32 true #[.pointer (some a), .int .i32 y] = (do
    let a ← asAddr (.pointer (some a))
    let old ← Extern.Atomic.read (.int .i32) a
    let new ← Op.intArith .add .i32 (← asInt old) (← asInt (.int .i32 y))
    store a new .atomic
    pure (if true then new else old)) := rfl
  rw [hdef]
  simp [asAddr, asInt, asIntOf, Extern.Atomic.read, Op.intArith, h0, hf, h1, st_run w a _ _ _ _ h0 hf]
theorem off_lt (h : w.cell? a = some v) : ∃ s, w.shape? a.block = some s ∧ a.off < s.2 := by
  unfold World.cell? at h
  unfold World.shape?
  split at h
  · split at h
    · cases h
    · exact ⟨_, rfl, (Array.getElem?_eq_some_iff.mp h).1⟩
  · cases h
theorem cv (w : World) (a : Addr) (v : Value) (h0 : w.cell? a = some v) : (convert 268 272 (.pointer (some a))).run Try.prog w = .ok (.pointer (some a)) w := by
  obtain ⟨s, hs, h1⟩ := off_lt h0
  simp [convert, Conv.unsafePointer, Conv.seenAt, viewAt, run_underlying Try.underlying268, run_underlying Try.underlying272, hs, cellsIn]
  omega
theorem ad0 (a : Addr) (h : a.spot = none) : a.add 0 = a := by cases a; simp [Addr.add]
theorem ilock (h0 : w.cell? a = some (.int .i32 0)) (hf : w.frozen? a = false) : Calls Try.prog 176 #[.pointer (some a)] w (fun e w' => e = .returned (.tuple #[]) ∧ w' = w.setCell a (.int .i32 1)) := by
  have q0 := e190 #[]
  have q1 := e192 #[]
  have q2 := e193
  have q3 := e191 w a 0 0 1 h0 hf
  have q4 := cv (w.setCell a (.int .i32 1)) a (.int .i32 1) (World.cell?_setCell_same' w a _ (by rw [h0]; rfl))
  have q5 := ad0 a (shape_of h0).2
  go_enter Try.func176, Try.f176
  go_wp
  (try simp only [Exit.inBlock, Exit.then])
  exact bodyPost_ret (results_none rfl _ _ _) rfl ⟨rfl, by simp⟩
theorem iunlock (h0 : w.cell? a = some (.int .i32 1)) (hf : w.frozen? a = false) : Calls Try.prog 177 #[.pointer (some a)] w (fun e w' => e = .returned (.tuple #[]) ∧ w' = w.setCell a (.int .i32 0)) := by
  have q0 := e190 #[]
  have q1 := e192 #[]
  have q2 := e195
  have q3 := e196 w a 1 (-1) h0 hf
  have q4 := cv w a _ h0
  have q5 := ad0 a (shape_of h0).2
  go_enter Try.func177, Try.f177
  go_wp
  go_end0
  exact ⟨rfl, by simp⟩
theorem lock_calls (h0 : w.cell? a = some (.int .i32 0)) (hf : w.frozen? a = false) : Calls Try.prog 150 #[.pointer (some a)] w (fun e w' => e = .returned (.tuple #[]) ∧ w' = w.setCell a (.int .i32 1)) := by
  have q5 := ad0 a (shape_of h0).2
  go_enter Try.func150, Try.f150
  go_wp
  refine (ilock h0 hf).mono ?_
  rintro _ _ ⟨rfl, rfl⟩
  dsimp only
  go_wp
  go_end0
  exact ⟨rfl, rfl⟩
theorem unlock_calls (h0 : w.cell? a = some (.int .i32 1)) (hf : w.frozen? a = false) (u : FrameMode) : CallsD Try.prog 151 #[.pointer (some a)] u w (fun e u' w' => u' = u ∧ e = .returned (.tuple #[]) ∧ w' = w.setCell a (.int .i32 0)) := by
  have q5 := ad0 a (shape_of h0).2
  go_enter_d Try.func151, Try.f151
  go_wp
  refine (iunlock h0 hf).mono ?_
  rintro _ _ ⟨rfl, rfl⟩
  dsimp only
  go_wp
  go_end0
  exact ⟨rfl, rfl⟩
theorem lockOk : LockOk Try.prog 150 := fun _ _ h0 hf => lock_calls h0 hf
theorem unlockOk : UnlockOk Try.prog 151 := fun _ _ h0 hf u => unlock_calls h0 hf u
theorem lockCall : CallOk Try.prog 150 := ⟨_, Try.func150, rfl, by kernel_rfl⟩
theorem unlockCall : CallOk Try.prog 151 := ⟨_, Try.func151, rfl, by kernel_rfl⟩
end Go.Proofs.Ytfmbifnbmlhhjaa

