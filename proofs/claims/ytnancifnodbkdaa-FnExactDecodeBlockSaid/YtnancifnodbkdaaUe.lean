/- The walk: rules that came later. -/
import Derived.Test.YtnancifnodbkdaaUc
import Derived.Laws.BytesString
import Derived.Laws.Strings
/- Bytes made text; contracts of functions that leave the world alone. -/
namespace Go.Vcg
/-- Text with these bytes. -/
def strI (xs : List Int) : ByteArray := ⟨(xs.map fun n => UInt8.ofNat n.toNat).toArray⟩
theorem fold_strI (xs : List Int) : ∀ r : ByteArray, xs.foldl (fun r n => r.push (UInt8.ofNat n.toNat)) r = ⟨r.data ++ (xs.map fun n => UInt8.ofNat n.toNat).toArray⟩ := by
  induction xs with
  | nil => intro r; simp
  | cons x xs ih =>
    intro r
    rw [List.foldl_cons, ih]
    simp [ByteArray.push]
theorem ba_toList (r : ByteArray) : r.toList = r.data.toList := ByteArray.toList_eq r
theorem strI_toList (xs : List Int) : (strI xs).toList = xs.map fun n => UInt8.ofNat n.toNat := by rw [ba_toList]; rfl
theorem strI_inj {xs ys : List Int} (h1 : ∀ x ∈ xs, 0 ≤ x ∧ x < 256) (h2 : ∀ x ∈ ys, 0 ≤ x ∧ x < 256) : ((strI xs).toList == (strI ys).toList) = decide (xs = ys) := by
  rw [strI_toList, strI_toList]
  have key : ∀ (xs ys : List Int), (∀ x ∈ xs, 0 ≤ x ∧ x < 256) → (∀ x ∈ ys, 0 ≤ x ∧ x < 256) → (xs.map fun n => UInt8.ofNat n.toNat) = (ys.map fun n => UInt8.ofNat n.toNat) → xs = ys := by
    intro xs
    induction xs with
    | nil => intro ys _ _ e; cases ys with
      | nil => rfl
      | cons y ys => cases e
    | cons x xs ih => intro ys g1 g2 e; cases ys with
      | nil => cases e
      | cons y ys =>
        rw [List.map_cons, List.map_cons] at e
        obtain ⟨e1, e2⟩ := List.cons.inj e
        have a1 := g1 x (List.mem_cons_self ..)
        have a2 := g2 y (List.mem_cons_self ..)
        have e3 := congrArg UInt8.toNat e1
        rw [UInt8.toNat_ofNat', UInt8.toNat_ofNat'] at e3
        rw [show x = y by omega, ih ys (fun z hz => g1 z (List.mem_cons_of_mem _ hz)) (fun z hz => g2 z (List.mem_cons_of_mem _ hz)) e2]
  by_cases e : xs = ys
  · rw [e]; simp
  · rw [decide_eq_false e]
    exact beq_eq_false_iff_ne.mpr fun g => e (key xs ys h1 h2 g)
section
variable {w0 : World} {M : Perm} {S0 : Nat → Prop} {ρ : Nat → Option Loc} {φ : Nat → Nat → Prop} {S : Nat → Prop} {st : St} {a : Act} {w : World} {C : Cx} {K : St → Prop} {ty d : Nat} {pos : String} {af : Array Edge} {g : Option (Nat × Bool)} {c x y : Operand}
/-- Are these types a slice of bytes and text? -/
def byStr (T : Nat → Option TI) (src dst : Nat) : Bool := match T src, T dst with
  | some a, some b => match a.k, b.k with
    | .slice e, .str => match T e with
      | some ei => match ei.k with
        | .int .u8 => ei.size == 1
        | _ => false
      | none => false
    | _, _ => false
  | _, _ => false
theorem byStr_ok {T : Nat → Option TI} {P : Program} (hT : TOk P T) {src dst : Nat} (h : byStr T src dst = true) : ∃ e, P.underlying src = some (.slice e) ∧ P.underlying e = some (.int .u8) ∧ P.underlying dst = some .string := by
  unfold byStr at h
  split at h <;> try (cases h; done)
  rename_i ta tb ha hb
  split at h <;> try (cases h; done)
  rename_i e hk1 hk2
  split at h <;> try (cases h; done)
  rename_i ei he
  split at h <;> try (cases h; done)
  rename_i hk3
  obtain ⟨d1, u1, v1⟩ := (hT _ _ ha).und
  obtain ⟨d2, u2, v2⟩ := (hT _ _ hb).und
  obtain ⟨d3, u3, v3⟩ := (hT _ _ he).und
  rw [hk1] at v1; obtain rfl := tk_slice v1
  rw [hk2] at v2; obtain rfl := tk_str v2
  rw [hk3] at v3; obtain rfl := tk_int v3
  exact ⟨e, u1, u3, u2⟩
theorem sCB {T : Nat → Option TI} {src dst : Nat} {side : Prop} {xs : List Int} (hK : K (st.set d (.pl (.string (strI xs))))) (hT : TOk C.P T := by exact tyOk) (hu : byStr T src dst = true := by exact ev)
    (hx : srcRows T st 1 src (st.ev x) = some (side, encI .u8 xs) := by exact ev) (hs : side := by exact nn) (hd : d < st.n := by exact nn) :
    Sop C { dst := some d, op := .convert src dst x, type := ty, pos := pos, after := af, guard := g } st K := by
  unfold Sop
  intro Q a w _ ⟨ρ, φ, S, h⟩
  obtain ⟨e, u1, u2, u3⟩ := byStr_ok hT hu
  obtain ⟨vs, hsr⟩ := src_ok (P := C.P) (F := fun _ => False) hT h (h.ev x) hx hs
  have hlen : vs.length = xs.length := by rw [hsr.flat.len, encI_length, Nat.mul_one]
  have hvs : vs = xs.map (Value.int .u8) := by
    obtain ⟨G, _, _, g3⟩ := hsr.flat.cell
    apply List.ext_getElem?
    intro i
    rw [List.getElem?_map]
    cases hi : xs[i]? with
    | none =>
      rw [List.getElem?_eq_none_iff] at hi
      exact List.getElem?_eq_none_iff.mpr (by omega)
    | some z =>
      obtain ⟨v, e1, e2⟩ := g3 i [.pl (.int .u8 z)] 0 (.pl (.int .u8 z)) (by rw [encI, List.getElem?_map, hi]; rfl) rfl
      rw [Nat.mul_one, Nat.add_zero] at e1
      rw [e1]
      rcases e2 with e2 | e2
      · rw [e2.pl_eq]; rfl
      · cases e2 with
        | per e2 => cases e2; rfl
  have hfc := hsr.first xs.length w (by rw [encI_length]; exact Nat.le_refl _) rfl
  have hln := hsr.lenOf w
  have hrun : (convert src dst (a.eval x)).run C.P w = .ok (.string (strI xs)) w := by
    have hr := h.ev x
    generalize a.eval x = v at hr hfc hln
    have hsl : ∃ ad n cp, v = .slice ad n cp := by
      unfold srcRows at hx
      split at hx <;> try (cases hx; done)
      rename_i ti ht
      obtain ⟨dd, q1, q2⟩ := (hT _ _ ht).und
      rw [u1] at q1
      obtain rfl := Option.some.inj q1
      split at hx <;> try (cases hx; done)
      · rename_i hv; rw [hv] at hr; cases hr with
        | per hr => cases hr <;> exact ⟨_, _, _, rfl⟩
      · rename_i hv; rw [hv] at hr; cases hr with
        | per hr => cases hr; exact ⟨_, _, _, rfl⟩
      · rename_i hv; rw [hv] at hr; cases hr with
        | per hr => cases hr
        | sl => exact ⟨_, _, _, rfl⟩
        | sl0 => exact ⟨_, _, _, rfl⟩
      · rename_i hv; rw [hv] at hr; cases hr with
        | per hr => cases hr
        | sa => exact ⟨_, _, _, rfl⟩
      · rename_i hk _; rw [hk] at q2; cases q2
    obtain ⟨ad, n, cp, rfl⟩ := hsl
    have hn : n = xs.length := by
      simp [Builtin.lenOf, encI_length] at hln
      exact hln
    rw [run_convert_bytes_string w src dst e ad n cp u1 u2 u3]
    cases ad with
    | none =>
      have h0 : xs = [] := by
        have := hfc
        simp [Builtin.firstCells] at this
        rw [hvs] at this
        exact this.elim id fun q => List.map_eq_nil_iff.mp q
      subst h0
      simp [Conv.bytesToString]
      rfl
    | some ad =>
      subst hn
      simp only [Builtin.firstCells, Nat.mul_one] at hfc
      rw [hvs, List.take_of_length_le (by simp)] at hfc
      rw [run_bytesToString w ad _ cp xs (by simpa using hfc), fold_strI]
      have he0 : ByteArray.empty.data = #[] := rfl
      rw [he0]
      simp [strI]
  refine wp_value (v := .string (strI xs)) (w' := w) ?_ ⟨_, hK, ρ, φ, S, h.setSlot hd (.per (.pl _))⟩
  show Sem.run C.P (do let r ← convert src dst (a.eval x); pure (Next.value r)) w = _
  rw [Sem.run_bind, hrun]
  rfl
/-- The function leaves the world alone and returns a plain value. -/
theorem TSpec.quiet {P : Program} {f : Nat} {args : List SV} {r : Value} (h : ∀ (w : World) (S : Nat → Prop) (ρ : Nat → Option Loc) (vals : List Value), vals.length = args.length → (∀ (i : Nat) (v : Value) (s : SV), vals[i]? = some v → args[i]? = some s → Rep ρ S w v s) → Calls P f vals.toArray w fun e w' => e = .returned r ∧ w' = w) : TSpec P f [] args false [] (.pl r) := by
  intro w S ρ φ vals hS hB hp hl hv
  refine (h w S ρ vals hl hv).mono ?_
  rintro e w' ⟨rfl, rfl⟩
  have hn : ∀ b, pk [] b ≠ none → False := fun b hb => hb rfl
  refine ⟨.ret (.pl r), [], ρ, φ, fun _ => False, ⟨rfl, rfl⟩, Nat.le_refl _, fun _ _ _ => rfl, ⟨fun b k hb => (by cases hb), fun b _ _ hb => (hn b hb).elim, fun b _ hb => (hn b hb).elim, fun b _ hb => (hn b hb).elim, fun b _ hb => (hn b hb).elim⟩, fun b hb => (hn b hb).elim, fun x ⟨b, hb, _⟩ => (hn b hb).elim, fun i hi => hi.elim, fun i hi => hi.elim, ⟨IOk.refl _, fun _ => Nat.le_refl _⟩, r, rfl, ⟨fun _ => False, .per (.pl _), fun _ hx => hx.elim⟩⟩
end
end Go.Vcg

/- The orders of a drawn region meet in one state. -/
namespace Go.Vcg
section
variable {st : St} {C : Cx} {K K' : St → Prop} {Q : SQ} {ks : List Kont} {c : Code} {l : List Oper} {id : Nat}
theorem RA.mono {P : Program} {W : Nat → Bool} {ws : List Nat} {pan : List PanicEntry → St → Prop} {ops : Array Oper} {fuel : Nat} {listed : Array Bool} (h : RA P W ws pan ops fuel listed st K) (hK : ∀ s, K s → K' s) : RA P W ws pan ops fuel listed st K' := by
  unfold RA at h ⊢
  exact fun w0 M S0 ρ φ S a w Q hs h1 h2 hQ hp hc => h w0 M S0 ρ φ S a w Q hs h1 h2 (fun a' w' ⟨st', k, r⟩ => hQ a' w' ⟨st', hK st' k, r⟩) hp hc
theorem rDJ (V : Nat → Bool) (ws : List Nat) (meet : St) (hj : RA C.P V ws C.pan l.toArray l.length (Array.replicate l.length false) st fun s => Weak C s meet) (hk : Swk C Q ks c meet) (hm : C.P.follows .mixedOrders = true := by exact mixed) (hW : ∀ b, C.M.wr b := by exact fun _ => trivial) (hro : ∀ b i, ¬ C.M.ro b i := by exact fun _ _ h => h) :
    Swk C Q (.code c :: ks) (.region id l.toArray true) st := Go.Vcg.W.draw V ws hm hW hro (hj.mono fun _ hs => N.code (Go.Vcg.W.weak hs hk))
theorem rDJ1 {i : Nat} (V : Nat → Bool) (ws : List Nat) (meet : St) (hj : RA C.P V ws C.pan l.toArray l.length (Array.replicate l.length false) st fun s => Weak C s meet) (hk : Swk C Q ks c meet) (hm : C.P.follows .mixedOrders = true := by exact mixed) (hW : ∀ b, C.M.wr b := by exact fun _ => trivial) (hro : ∀ b i, ¬ C.M.ro b i := by exact fun _ _ h => h) :
    Swk C Q (.blk i :: .code c :: ks) (.region id l.toArray true) st := Go.Vcg.W.draw V ws hm hW hro (hj.mono fun _ hs => N.blk (N.code (Go.Vcg.W.weak hs hk)))
end
end Go.Vcg
