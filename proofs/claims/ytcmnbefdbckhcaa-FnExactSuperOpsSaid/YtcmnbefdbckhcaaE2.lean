import Derived.Test.YtcmnbefdbckhcaaB13
import Derived.Test.YtcmnbefdbckhcaaUc
import Derived.OpenShut
namespace Go.Proofs.Ytcmnbefdbckhcaa
open Go Go.Vcg Go.IntWalk
set_option maxRecDepth 100000
set_option maxHeartbeats 4000000
set_option linter.unusedSimpArgs false
set_option linter.unusedVariables false

section
open Go.Vcg
variable {H : Type} {enc : TypeId × Value → H} {P : Program} {w : World} {t e : TypeId}
theorem enTo {A B : Type} {f : A → List SV} {g : B → List SV} {ok : A → Prop} {ok' : B → Prop} (h : EncP enc P w t f ok) (hm : ∀ a, ok a → ∃ b, g b = f a ∧ ok' b) : EncP enc P w t g ok' := fun cs hr => by
  obtain ⟨a, h1, h2⟩ := h cs hr
  obtain ⟨b, h3, h4⟩ := hm a h2
  exact ⟨b, h3 ▸ h1, h4⟩
def intOf : Value → Int
  | .int _ n => n
  | _ => 0
theorem enArrI {n : Nat} {k : IntKind} (ht : P.underlying t = some (.array n e)) (he : P.underlying e = some (.int k)) (hc : P.cellsOf t = n) (hce : P.cellsOf e = 1) :
    EncP enc P w t (fun xs : List Int => encA k xs) (fun xs => xs.length = n ∧ ∀ i, i < n → (Lit.int k (xs.getD i 0)).wf = true) := fun cs hr => by
  obtain ⟨fuel, d, ps, h1, hw⟩ := hr
  obtain ⟨xs, m, rfl, hx, hl, hxs, hf⟩ := DataW.trod_array ht h1
  obtain ⟨rfl, _⟩ := Prod.mk.inj hx
  rw [hc] at hl
  have hv : ∀ (i : Nat) (v : Value), cs[i]? = some v → ∃ x : Int, v = .int k x ∧ (Lit.int k x).wf = true := fun i v hi => by
    have hil : i < n := by rw [← hl]; exact (List.getElem?_eq_some_iff.mp hi).1
    have h2 := hf i hil
    rw [hce, Nat.mul_one, List.getElem?_eq_getElem (show i < xs.length by omega)] at h2
    have h3 : (cs.drop i).take 1 = [v] := by
      have hx := List.getElem?_eq_some_iff.mp hi
      obtain ⟨hx, hy⟩ := hx
      rw [List.drop_eq_getElem_cons hx, hy]
      rfl
    rw [h3] at h2
    have hr : Rd enc P w e [v] := by
      refine ⟨m, xs[i].1, xs[i].2, h2, fun x hx => hw x ?_⟩
      rw [DataW.weights, ht]
      exact weightsAll_mem (i := i) (by rw [List.getElem?_map, List.getElem?_eq_getElem (show i < xs.length by omega)]; rfl) x hx
    obtain ⟨x, h4, h5⟩ := hr.int he
    exact ⟨x, by simpa using h4, h5⟩
  refine ⟨cs.map intOf, ⟨by rw [encA_length, List.length_map], fun j v s h2 h3 => ?_⟩, by rw [List.length_map]; exact hl, fun i hi => ?_⟩
  · obtain ⟨x, rfl, _⟩ := hv j v h2
    have : s = .pl (.int k x) := by
      unfold encA at h3
      rw [List.getElem?_map, List.getElem?_map, h2] at h3
      simpa [intOf] using h3.symm
    subst this
    exact ⟨.pl _, rfl⟩
  · have hi' : i < cs.length := by omega
    obtain ⟨x, h4, h5⟩ := hv i cs[i] (List.getElem?_eq_getElem hi')
    rw [List.getD_eq_getElem?_getD, List.getElem?_map, List.getElem?_eq_getElem hi', h4]
    exact h5
end
section
variable {H : Type} {enc : TypeId × Value → H} {w : World}
theorem okB_of {xs : List Int} {n : Nat} (hl : xs.length = n) (h : ∀ i, i < n → (Lit.int .u8 (xs.getD i 0)).wf = true) : okBytes xs := fun x hx => by
  obtain ⟨i, hi, rfl⟩ := List.mem_iff_getElem.mp hx
  have := h i (by omega)
  simp only [List.getD_eq_getElem?_getD, List.getElem?_eq_getElem hi, Option.getD_some] at this
  have h1 : IntKind.u8.min ≤ xs[i] ∧ xs[i] ≤ IntKind.u8.max := by simpa [Lit.wf, Bool.and_eq_true] using this
  have e1 : IntKind.u8.min = 0 := rfl
  have e2 : IntKind.u8.max = 255 := rfl
  omega
theorem enHash : EncP enc Try.prog w 23 hR (fun _ => True) :=
  enTo (enArrI Try.underlying23 Try.underlying5 (by kernel_rfl) (by kernel_rfl)) fun xs h => ⟨⟨xs, h.1, okB_of h.1 h.2⟩, rfl, trivial⟩
theorem enPoint : EncP enc Try.prog w 166 fPoint (fun _ => True) :=
  EncFs.struct Try.underlying166 (by kernel_rfl) (EncFs.cons enHash (EncFs.cons (EncP.int Try.underlying3) EncFs.nil)) (fun x => ⟨x.1, x.2.1⟩) (fun _ => rfl) (fun _ _ => trivial)
theorem enPointS : EncP enc Try.prog w 53 (fun xs => [.pd (encL fPoint xs)]) (fun xs => xs.length < 2 ^ 50) :=
  (EncP.slice Try.underlying53 (of_decide_eq_true (by kernel_rfl)) (of_decide_eq_true (by kernel_rfl)) enPoint).imp fun xs h => by have := h.1; unfold reachBytes at this; omega
theorem enIntS : EncP enc Try.prog w 54 (fun xs => [.pd (encI .i64 xs)]) (fun xs => xs.length < 2 ^ 50) :=
  (EncP.slice Try.underlying54 (of_decide_eq_true (by kernel_rfl)) (of_decide_eq_true (by kernel_rfl)) (EncP.int Try.underlying3)).imp fun xs h => by have := h.1; unfold reachBytes at this; omega
theorem enTx : EncP enc Try.prog w 56 fTx lnTx :=
  EncFs.struct Try.underlying56 (by kernel_rfl) (EncFs.cons enPointS (EncFs.cons enIntS (EncFs.cons (EncP.int Try.underlying3) EncFs.nil))) (fun x => ⟨x.1, x.2.1, x.2.2.1⟩) (fun _ => rfl) (fun _ h => ⟨h.1, h.2.1⟩)
end
end Go.Proofs.Ytcmnbefdbckhcaa

