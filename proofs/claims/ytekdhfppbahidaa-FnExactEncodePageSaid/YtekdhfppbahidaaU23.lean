/- From a contract to the row's own words: the law returns true and leaves all as it was. -/
import Derived.Test.YtekdhfppbahidaaU22
import Derived.Below
import Derived.Carry
namespace Go.Vcg
open Go.RowKit

/-- All blocks that are there. -/
def allBlk (w : World) (i : Nat) : Prop := i < w.heap.size

theorem TSpec.law {P : Program} {f : Nat} {args : List SV} (h : TSpec P f [] args false [] (.pl (.bool true))) (w : World) (vals : List Value) (hl : vals.length = args.length) (hr : ∀ (i : Nat) (v : Value) (s : SV), vals[i]? = some v → args[i]? = some s → RepP (allBlk w) w v s) :
    Calls P f vals.toArray w fun e w' => e = .returned (.bool true) ∧ Below w.heap.size w w' := by
  have hn : ∀ b, pk [] b ≠ none → False := fun b hb => hb rfl
  refine (h w (allBlk w) (fun _ => none) (fun _ _ => False) vals (fun _ hi => hi) ⟨fun b k hb => (by cases hb), fun b _ _ hb => (hn b hb).elim, fun b _ hb => (hn b hb).elim, fun b _ hb => (hn b hb).elim, fun b _ hb => (hn b hb).elim⟩ (fun b hb => (hn b hb).elim) hl fun i v s h1 h2 => .per (hr i v s h1 h2)).mono ?_
  rintro e w' ⟨o, ps, ρ', φ', S', ⟨rfl, rfl⟩, hM⟩
  obtain ⟨v, rfl, F, h1, _⟩ := hM.out
  refine ⟨?_, hM.wide.1.1, hM.wide.1.2.1, hM.wide.1.2.2, hM.grow, fun k hk => hM.keep k hk fun ⟨b, hb, _⟩ => hn b hb⟩
  cases h1 with
  | per h => cases h; rfl

end Go.Vcg
