/- Numbers, texts, bools; all operations that only compute or read, together. -/
import Derived.Test.YtekdhfppbahidaaU7
namespace Go.Vcg

variable {w0 : World} {M : Perm} {S0 : Nat → Prop} {ρ : Nat → Option Loc} {φ : Nat → Nat → Prop} {S : Nat → Prop} {st : St} {a : Act} {w : World} {P : Program} {T : Nat → Option TI}

def plBin (op : BinOp) (x y : Value) : Option (Prop × Value) := match x, y with
  | .int k a, .int k' b => match op with
    | .shl => some (0 ≤ b, .int k (k.wrap (a * 2 ^ min b.toNat k.bits)))
    | .shr => some (0 ≤ b, .int k (a.fdiv (2 ^ min b.toNat k.bits)))
    | .add => some (k = k', .int k (k.wrap (a + b)))
    | .sub => some (k = k', .int k (k.wrap (a - b)))
    | .mul => some (k = k', .int k (k.wrap (a * b)))
    | .quo => some (k = k' ∧ b ≠ 0, .int k (k.wrap (a.tdiv b)))
    | .rem => some (k = k' ∧ b ≠ 0, .int k (a.tmod b))
    | .and => some (k = k', .int k (bits .and k a b))
    | .or => some (k = k', .int k (bits .or k a b))
    | .xor => some (k = k', .int k (bits .xor k a b))
    | .andNot => some (k = k', .int k (bits .andNot k a b))
    | .eql => some (k = k', .bool (a == b))
    | .neq => some (k = k', .bool (a != b))
    | .lss => some (k = k', .bool (decide (a < b)))
    | .leq => some (k = k', .bool (decide (a ≤ b)))
    | .gtr => some (k = k', .bool (decide (a > b)))
    | .geq => some (k = k', .bool (decide (a ≥ b)))
  | .string a, .string b => match op with
    | .add => some (((a.size + b.size : Nat) : Int) ≤ IntKind.i64.max, .string (a ++ b))
    | .eql => some (True, .bool (a.toList == b.toList))
    | .neq => some (True, .bool !(a.toList == b.toList))
    | .lss => some (True, .bool (Op.bytesLess a.toList b.toList))
    | .leq => some (True, .bool (Op.bytesLess a.toList b.toList || a.toList == b.toList))
    | .gtr => some (True, .bool !(Op.bytesLess a.toList b.toList || a.toList == b.toList))
    | .geq => some (True, .bool !(Op.bytesLess a.toList b.toList))
    | _ => none
  | _, _ => none

theorem plBin_ok {op : BinOp} {t : Nat} {x y : Operand} {u v r : Value} {side : Prop} (he : plBin op u v = some (side, r)) (hs : side) :
    ((do eqGuard op t x y u v; binOp op t u v) : Sem Value).run P w = .ok r w := by
  unfold plBin at he
  split at he
  · rename_i k a k' b
    simp only [Sem.run_bind, eqGuard_at_int, Sem.run_pure, Result.andThen_ok]
    split at he <;> (obtain ⟨rfl, rfl⟩ := Prod.mk.inj (Option.some.inj he))
    case h_1 | h_2 => simp [binOp, Op.shift, show ¬ b < 0 from by omega]
    case h_6 | h_7 => obtain ⟨rfl, hb⟩ := hs; simp [binOp, Op.intDiv, hb]
    all_goals (obtain rfl := hs; first | (simp [binOp, Op.intArith]; done) | (simp [binOp, Op.intCmp]; done) | (simp [binOp]; rfl))
  · rename_i a b
    simp only [Sem.run_bind, eqGuard_at_string, Sem.run_pure, Result.andThen_ok]
    split at he <;> first | (obtain ⟨rfl, rfl⟩ := Prod.mk.inj (Option.some.inj he)) | (cases he; done)
    case h_1 =>
      simp only [binOp, Op.stringOp]
      rw [if_neg (by omega)]
      rfl
    all_goals simp [binOp, Op.stringOp]
  · cases he

def plUn (op : UnOp) (x : Value) : Option Value := match op, x with
  | .neg, .int k n => some (.int k (k.wrap (0 - n)))
  | .not, .bool b => some (.bool !b)
  | .xor, .int k n => some (.int k (bits .xor k (if k.signed then -1 else k.max) n))
  | _, _ => none
theorem plUn_ok {op : UnOp} {u r : Value} (he : plUn op u = some r) : (Op.unary op u).run P w = .ok r w := by
  unfold plUn at he
  split at he
  · obtain rfl := Option.some.inj he; simp [Op.unary, Op.intArith]
  · obtain rfl := Option.some.inj he; simp [Op.unary]
  · obtain rfl := Option.some.inj he; simp [Op.unary]; rfl
  · cases he

/-- min, max of two -/
def plMin (mx : Bool) (x y : Value) : Option Value := match x, y with
  | .int k a, .int _ b => some (.int k (if mx then (if a < b then b else a) else (if b < a then b else a)))
  | _, _ => none
theorem plMin_ok {x y r : Value} {ts : Array TypeId} {ty : Nat} (he : plMin false x y = some r) : (Builtin.min_ ts ty #[x, y]).run P w = .ok r w := by
  unfold plMin at he
  split at he
  · obtain rfl := Option.some.inj he; simp [Builtin.min_, Builtin.min2]
  · cases he
theorem plMax_ok {x y r : Value} {ts : Array TypeId} {ty : Nat} (he : plMin true x y = some r) : (Builtin.max_ ts ty #[x, y]).run P w = .ok r w := by
  unfold plMin at he
  split at he
  · obtain rfl := Option.some.inj he; simp [Builtin.max_, Builtin.max2]
  · cases he

/-- an interface value -/
def pIface (T : Nat → Option TI) (t : Nat) (x : SV) : Option (Prop × SV) := match T t with
  | some ti => match ti.k with
    | .iface => none
    | .other => none
    | _ => some (True, .ifc t x)
  | none => none
theorem pIface_ok (hT : TOk P T) {t : Nat} {v : Value} {s sv : SV} {side : Prop} (hr : Rep ρ S w v s) (he : pIface T t s = some (side, sv)) : ∃ u, (∀ w', (Instr.makeInterface t v).run P w' = .ok u w') ∧ Rep ρ S w u sv := by
  unfold pIface at he
  split at he <;> try (cases he; done)
  rename_i ti ht
  obtain ⟨d, h1, h2⟩ := (hT t ti ht).run_und
  split at he <;> try (cases he; done)
  rename_i hk1 hk2
  obtain ⟨_, rfl⟩ := Prod.mk.inj (Option.some.inj he)
  refine ⟨.iface t v, fun w' => ?_, .ifc t hr⟩
  have : ∀ ms, d ≠ .interface ms := fun ms e => by subst e; exact hk1 h2.symm
  simp only [Instr.makeInterface, Sem.run_bind, h1, Result.andThen_ok]
  try simp

/-- a type assertion with ok, to a type that is no interface -/
def pAssert (T : Nat → Option TI) (x : SV) (t : Nat) : Option (Prop × SV) := match T t with
  | some ti => match ti.k, ti.zero with
    | .iface, _ => none
    | .other, _ => none
    | .struct _, _ => none
    | .arr _ _, _ => none
    | _, [z] => match x with
      | .ifc t' s => some (True, if t' = t then .tu [s, .pl (.bool true)] else .tu [conSV z, .pl (.bool false)])
      | .pl .nilIface => some (True, .tu [conSV z, .pl (.bool false)])
      | _ => none
    | _, _ => none
  | none => none

/-- a function value -/
def pFunc (f : Fn) (xs ys : List SV) : SV := match xs, ys with
  | [], [] => .pl (.func f #[] #[])
  | xs, ys => .fn f xs ys
theorem pFunc_ok {f : Fn} {e : Operand → SV} (hev : ∀ x, Rep ρ S w (a.eval x) (e x)) (xs ys : Array Operand) : Rep ρ S w (.func f (xs.map a.eval) (ys.map a.eval)) (pFunc f (xs.toList.map e) (ys.toList.map e)) := by
  have hx : xs.map a.eval = (xs.toList.map a.eval).toArray := Array.ext' (by simp)
  have hy : ys.map a.eval = (ys.toList.map a.eval).toArray := Array.ext' (by simp)
  have hm : ∀ (l : List Operand) (i : Nat) (v : Value) (c : SV), (l.map a.eval)[i]? = some v → (l.map e)[i]? = some c → Rep ρ S w v c := fun l i v c h1 h2 => by
    rw [List.getElem?_map, Option.map_eq_some_iff] at h1 h2
    obtain ⟨x, h1, rfl⟩ := h1
    obtain ⟨y, h2, rfl⟩ := h2
    rw [h1] at h2
    obtain rfl := Option.some.inj h2
    exact hev x
  rw [hx, hy]
  unfold pFunc
  split
  · rename_i e1 e2
    have e1 : xs.toList = [] := by simpa using e1
    have e2 : ys.toList = [] := by simpa using e2
    rw [e1, e2]
    exact .per (.pl _)
  · exact .fn f _ _ _ _ (by simp) (by simp) (hm _) (hm _)

def pConvert (T : Nat → Option TI) (src dst : Nat) (x : SV) : Option (Prop × SV) := match T src, T dst, x with
  | some _, some di, .pl (.int _ n) => match di.k with
    | .int k => some (True, .pl (.int k (k.wrap n)))
    | _ => none
  | some _, some di, .pl (.string s) => match di.k with
    | .str => some (True, .pl (.string s))
    | _ => none
  | _, _, _ => none
theorem pConvert_ok (hT : TOk P T) {src dst : Nat} {v : Value} {s sv : SV} {side : Prop} (hr : Rep ρ S w v s) (he : pConvert T src dst s = some (side, sv)) :
    ∃ u, (∀ w', (convert src dst v).run P w' = .ok u w') ∧ Rep ρ S w u sv := by
  unfold pConvert at he
  split at he
  · rename_i si di k n hsi hdi
    split at he <;> try (cases he; done)
    rename_i k' hk
    obtain ⟨_, rfl⟩ := Prod.mk.inj (Option.some.inj he)
    obtain rfl := hr.pl_eq
    obtain ⟨d1, h1, _⟩ := (hT src si hsi).run_und
    obtain ⟨d2, h3, h4⟩ := (hT dst di hdi).run_und
    rw [hk] at h4
    obtain rfl := tk_int h4
    exact ⟨_, by simp [convert, h1, h3, Conv.intToInt], .per (.pl _)⟩
  · rename_i si di str hsi hdi
    split at he <;> try (cases he; done)
    rename_i hk
    obtain ⟨_, rfl⟩ := Prod.mk.inj (Option.some.inj he)
    obtain rfl := hr.pl_eq
    obtain ⟨d1, h1, _⟩ := (hT src si hsi).run_und
    obtain ⟨d2, h3, h4⟩ := (hT dst di hdi).run_und
    rw [hk] at h4
    obtain rfl := tk_str h4
    exact ⟨_, by simp [convert, h1, h3], .per (.pl _)⟩
  · cases he

/-- Where a value is known under a condition that holds. -/
def cnIf (b : Bool) (s : SV) : SV := match b with
  | true => s
  | false => .cn false s
def SV.assume (g : Bool) : SV → SV
  | .cn c s => cnIf (!g || c) s
  | s => s
theorem Rep.assume {v : Value} {s : SV} {g : Bool} (h : Rep ρ S w v s) (hg : g = true) : Rep ρ S w v (s.assume g) := by
  subst hg
  cases s with
  | cn c s =>
    cases h with
    | per h => cases h
    | cn _ _ _ h h0 =>
      cases c with
      | true => exact h rfl
      | false => exact .cn v false s (fun h => by cases h) h0
  | _ => exact h

/-- a choice between two bools -/
def pPick (c x y : SV) : Option (Prop × SV) := match c with
  | .pl (.bool c) => match x, y with
    | .pl (.bool p), .pl (.bool q) => some (True, .pl (.bool (bif c then p else q)))
    | .pl (.bool p), .cn g (.pl (.bool q)) => some (c = false → g = true, .pl (.bool (bif c then p else q)))
    | .cn g (.pl (.bool p)), .pl (.bool q) => some (c = true → g = true, .pl (.bool (bif c then p else q)))
    | _, _ => none
  | _ => none
theorem Rep.cn_pl {v u : Value} {g : Bool} (h : Rep ρ S w v (.cn g (.pl u))) (hg : g = true) : v = u := by
  cases h with
  | per h => cases h
  | cn _ _ _ h => exact (h hg).pl_eq
theorem pPick_ok {vc vx vy : Value} {c x y sv : SV} {side : Prop} (hc : Rep ρ S w vc c) (hx : Rep ρ S w vx x) (hy : Rep ρ S w vy y) (he : pPick c x y = some (side, sv)) (hs : side) :
    ∃ b, vc = .bool b ∧ Rep ρ S w (if b then vx else vy) sv := by
  unfold pPick at he
  split at he <;> try (cases he; done)
  rename_i b
  obtain rfl := hc.pl_eq
  refine ⟨b, rfl, ?_⟩
  split at he
  · obtain ⟨rfl, rfl⟩ := Prod.mk.inj (Option.some.inj he)
    obtain rfl := hx.pl_eq
    obtain rfl := hy.pl_eq
    cases b <;> exact .per (.pl _)
  · obtain ⟨rfl, rfl⟩ := Prod.mk.inj (Option.some.inj he)
    obtain rfl := hx.pl_eq
    cases b with
    | true => exact .per (.pl _)
    | false => rw [hy.cn_pl (hs rfl)]; exact .per (.pl _)
  · obtain ⟨rfl, rfl⟩ := Prod.mk.inj (Option.some.inj he)
    obtain rfl := hy.pl_eq
    cases b with
    | true => rw [hx.cn_pl (hs rfl)]; exact .per (.pl _)
    | false => exact .per (.pl _)
  · cases he

def pNil (x : SV) : Option (Prop × SV) := match x with
  | .pt b i o => some (True, .pt b i o)
  | .bp r o => some (True, .bp r o)
  | _ => none

/-- What '==' gives, where it is no matter of numbers or text. -/
def pEql (T : Nat → Option TI) (t : Nat) (x y : SV) : Option Bool := match T t with
  | some ti => match ti.k, x, y with
    | .bool, .pl (.bool a), .pl (.bool b) => some (a == b)
    | .ptr _, .pt _ _ _, .pl (.pointer none) => some false
    | .ptr _, .bp _ _, .pl (.pointer none) => some false
    | .ptr _, .pl (.pointer none), .pl (.pointer none) => some true
    | .iface, .ifc _ _, .pl .nilIface => some false
    | _, _, _ => none
  | none => none
def pBinE (T : Nat → Option TI) (op : BinOp) (t : Nat) (x y : SV) : Option (Prop × SV) := match op, pEql T t x y with
  | .eql, some b => some (True, .pl (.bool b))
  | .neq, some b => some (True, .pl (.bool !b))
  | _, _ => none
def pBin (T : Nat → Option TI) (op : BinOp) (t : Nat) (x y : SV) : Option (Prop × SV) := match x, y with
  | .pl u, .pl v => match plBin op u v with
    | some (side, r) => some (side, .pl r)
    | none => pBinE T op t x y
  | _, _ => pBinE T op t x y

theorem tk_bool' {d : TypeDesc} (h : tkOf d = .bool) : d = .bool := by cases d <;> first | rfl | cases h
theorem tk_ptr' {d : TypeDesc} {e : Nat} (h : tkOf d = .ptr e) : d = .pointer e := by cases d <;> first | (cases h; rfl) | cases h
theorem tk_iface' {d : TypeDesc} (h : tkOf d = .iface) : ∃ ms, d = .interface ms := by cases d <;> first | exact ⟨_, rfl⟩ | cases h

theorem eql_of {t : Nat} {u v : Value} {b : Bool} {w' : World} (ox oy : Operand) (hg : ∀ op : BinOp, (eqGuard op t ox oy u v).run P w' = .ok () w') (hb1 : binOp .eql t u v = do pure (.bool (← Op.equal t u v))) (hb2 : binOp .neq t u v = do pure (.bool (!(← Op.equal t u v)))) (he : (Op.equalIn (9999 + 1) t u v).run P w' = .ok b w') :
    ((do eqGuard .eql t ox oy u v; binOp .eql t u v) : Sem Value).run P w' = .ok (.bool b) w' ∧ ((do eqGuard .neq t ox oy u v; binOp .neq t u v) : Sem Value).run P w' = .ok (.bool !b) w' := by
  have he' : (Op.equal t u v).run P w' = .ok b w' := he
  constructor
  · rw [hb1]; simp [hg, he']
  · rw [hb2]; simp [hg, he']
theorem eqp_none (d t e : Nat) (ad : Addr) (w' : World) (h : P.underlying t = some (.pointer e)) : (Op.equalIn (d + 1) t (.pointer (some ad)) (.pointer none)).run P w' = .ok false w' := by
  simp [Op.equalIn, run_underlying h]
theorem eqp_nn (d t e : Nat) (w' : World) (h : P.underlying t = some (.pointer e)) : (Op.equalIn (d + 1) t (.pointer none) (.pointer none)).run P w' = .ok true w' := by
  simp [Op.equalIn, run_underlying h]
theorem eqi_none (d t u : Nat) (ms : Array (String × TypeId)) (z : Value) (w' : World) (h : P.underlying t = some (.interface ms)) : (Op.equalIn (d + 1) t (.iface u z) .nilIface).run P w' = .ok false w' := by
  simp [Op.equalIn, run_underlying h]
theorem pEql_ok (hT : TOk P T) {t : Nat} {u v : Value} {x y : SV} {b : Bool} (hx : Rep ρ S w u x) (hy : Rep ρ S w v y) (he : pEql T t x y = some b) (w' : World) (ox oy : Operand) :
    ((do eqGuard .eql t ox oy u v; binOp .eql t u v) : Sem Value).run P w' = .ok (.bool b) w' ∧ ((do eqGuard .neq t ox oy u v; binOp .neq t u v) : Sem Value).run P w' = .ok (.bool !b) w' := by
  unfold pEql at he
  split at he <;> try (cases he; done)
  rename_i ti ht
  obtain ⟨d, h1, h2⟩ := (hT t ti ht).und
  split at he <;> try (cases he; done)
  · rename_i hk
    obtain rfl := Option.some.inj he
    rw [hk] at h2
    obtain rfl := tk_bool' h2
    rw [hx.pl_eq, hy.pl_eq]
    exact eql_of ox oy (fun op => by rw [eqGuard_at_bool]; rfl) rfl rfl (run_equalIn_bool _ _ t _ _ h1)
  · rename_i e hk
    obtain rfl := Option.some.inj he
    rw [hk] at h2
    obtain rfl := tk_ptr' h2
    rw [hy.pl_eq]
    have : ∃ ad, u = .pointer (some ad) := by cases hx <;> first | exact ⟨_, rfl⟩ | (rename_i h; cases h)
    obtain ⟨ad, rfl⟩ := this
    exact eql_of ox oy (fun op => by rw [eqGuard_at_pointer]; rfl) rfl rfl (eqp_none _ t _ ad w' h1)
  · rename_i e hk
    obtain rfl := Option.some.inj he
    rw [hk] at h2
    obtain rfl := tk_ptr' h2
    rw [hy.pl_eq]
    have : ∃ ad, u = .pointer (some ad) := by cases hx with | per h => cases h; exact ⟨_, rfl⟩
    obtain ⟨ad, rfl⟩ := this
    exact eql_of ox oy (fun op => by rw [eqGuard_at_pointer]; rfl) rfl rfl (eqp_none _ t _ ad w' h1)
  · rename_i e hk
    obtain rfl := Option.some.inj he
    rw [hk] at h2
    obtain rfl := tk_ptr' h2
    rw [hx.pl_eq, hy.pl_eq]
    exact eql_of ox oy (fun op => by rw [eqGuard_at_pointer]; rfl) rfl rfl (eqp_nn _ t _ w' h1)
  · rename_i hk
    obtain rfl := Option.some.inj he
    rw [hk] at h2
    obtain ⟨ms, rfl⟩ := tk_iface' h2
    rw [hy.pl_eq]
    have : ∃ t' z, u = .iface t' z := by
      cases hx with
      | per h => cases h; exact ⟨_, _, rfl⟩
      | ifc => exact ⟨_, _, rfl⟩
    obtain ⟨t', z, rfl⟩ := this
    exact eql_of ox oy (fun op => by rw [eqGuard_at_iface]; rfl) rfl rfl (eqi_none _ t _ _ z w' h1)
theorem pBinE_ok (hT : TOk P T) {op : BinOp} {t : Nat} {u v : Value} {x y sv : SV} {side : Prop} (hx : Rep ρ S w u x) (hy : Rep ρ S w v y) (ox oy : Operand) (he : pBinE T op t x y = some (side, sv)) :
    ∃ r, (∀ w', ((do eqGuard op t ox oy u v; binOp op t u v) : Sem Value).run P w' = .ok r w') ∧ Rep ρ S w r sv := by
  unfold pBinE at he
  split at he <;> try (cases he; done)
  all_goals
    rename_i hb
    obtain ⟨_, rfl⟩ := Prod.mk.inj (Option.some.inj he)
    refine ⟨_, fun w' => ?_, .per (.pl _)⟩
    first | exact (pEql_ok hT hx hy hb w' ox oy).1 | exact (pEql_ok hT hx hy hb w' ox oy).2
theorem pBin_ok (hT : TOk P T) {op : BinOp} {t : Nat} {u v : Value} {x y sv : SV} {side : Prop} (hx : Rep ρ S w u x) (hy : Rep ρ S w v y) (he : pBin T op t x y = some (side, sv)) (hs : side) (ox oy : Operand) :
    ∃ r, (∀ w', ((do eqGuard op t ox oy u v; binOp op t u v) : Sem Value).run P w' = .ok r w') ∧ Rep ρ S w r sv := by
  unfold pBin at he
  split at he
  · split at he
    · rename_i side' r h1
      obtain ⟨rfl, rfl⟩ := Prod.mk.inj (Option.some.inj he)
      rw [hx.pl_eq, hy.pl_eq]
      exact ⟨r, fun w' => plBin_ok h1 hs, .per (.pl _)⟩
    · exact pBinE_ok hT hx hy ox oy he
  · exact pBinE_ok hT hx hy ox oy he

/-- The operations that only compute or read: what they want, and what they give. -/
def pev (T : Nat → Option TI) (st : St) (e : Operand → SV) : Op → Option (Prop × SV)
  | .move x => some (True, e x)
  | .assign x => some (True, e x)
  | .pick c x y => pPick (e c) (e x) (e y)
  | .load t x => pLoad T st t (e x)
  | .fieldAddr t x f => pFieldAddr T t (e x) f
  | .field t x f => pField T t (e x) f
  | .indexAddr t x i => pIndexAddr T st t (e x) (e i)
  | .slice t x lo hi none => pSlice T st t (e x) (lo.map e) (hi.map e)
  | .build t parts => pBuild T t (parts.toList.map fun p => (p.1, e p.2))
  | .extract x i => pExtract (e x) i
  | .index t x i => pIndex T t (e x) (e i)
  | .makeInterface t x => pIface T t (e x)
  | .makeFunc f xs ys => some (True, pFunc f (xs.toList.map e) (ys.toList.map e))
  | .nilCheck x => pNil (e x)
  | .binOp op t x y _ => pBin T op t (e x) (e y)
  | .unOp op _ x => match e x with
    | .pl u => match plUn op u with
      | some v => some (True, .pl v)
      | none => none
    | _ => none
  | .convert src dst x => pConvert T src dst (e x)
  | .call c => match c.callee, c.args.toList, c.argTypes.toList with
    | .builtin .len, [x], [t] => pLen T t (e x)
    | .builtin .min, [x, y], _ => match e x, e y with
      | .pl u, .pl v => match plMin false u v with
        | some r => some (True, .pl r)
        | none => none
      | _, _ => none
    | .builtin .max, [x, y], _ => match e x, e y with
      | .pl u, .pl v => match plMin true u v with
        | some r => some (True, .pl r)
        | none => none
      | _, _ => none
    | _, _, _ => none
  | _ => none

/-- Does the operation read memory? -/
def isLoad : Op → Bool
  | .load _ _ => true
  | _ => false

/-- The pure operations other than loads yield the same in every world. -/
theorem pev_any (hT : TOk P T) (h : Sim w0 M S0 ρ φ S st a w) {e : Operand → SV} (hev : ∀ x, Rep ρ S w (a.eval x) (e x)) {o : Oper} {sv : SV} {side : Prop} (he : pev T st e o.op = some (side, sv)) (hs : side) (hl : isLoad o.op = false) :
    ∃ u, (∀ w', (execOp a.eval o).run P w' = .ok (.value u) w') ∧ Rep ρ S w u sv := by
  unfold execOp
  generalize o.op = op at he hl
  unfold pev at he
  split at he
  · obtain ⟨_, rfl⟩ := Prod.mk.inj (Option.some.inj he)
    exact ⟨_, fun _ => rfl, hev _⟩
  · obtain ⟨_, rfl⟩ := Prod.mk.inj (Option.some.inj he)
    exact ⟨_, fun _ => rfl, hev _⟩
  · rename_i c x y
    obtain ⟨b, h1, h2⟩ := pPick_ok (hev c) (hev x) (hev y) he hs
    exact ⟨_, fun _ => by simp [h1, asBool], h2⟩
  · cases hl
  · obtain ⟨u, h1, h2⟩ := pFieldAddr_ok hT (hev _) he hs
    exact ⟨u, fun w' => by simp [h1], h2⟩
  · obtain ⟨u, h1, h2⟩ := pField_ok hT (hev _) he hs
    exact ⟨u, fun w' => by simp [h1], h2⟩
  · obtain ⟨u, h1, h2⟩ := pIndexAddr_ok hT h (hev _) (hev _) he hs
    exact ⟨u, fun w' => by simp [h1], h2⟩
  · rename_i t x lo hi
    have hb : ∀ (l : Option Operand), (∀ v, l.map a.eval = some v → ∃ s, l.map e = some s ∧ Rep ρ S w v s) ∧ (l.map a.eval = none → l.map e = none) := fun l => by
      cases l with
      | none => exact ⟨fun v h => by simp at h, fun _ => rfl⟩
      | some x => exact ⟨fun v h => ⟨e x, rfl, by simp at h; subst h; exact hev x⟩, fun h => by simp at h⟩
    obtain ⟨u, h1, h2⟩ := pSlice_ok hT h (hev x) (hb lo).1 (hb lo).2 (hb hi).1 (hb hi).2 he hs
    exact ⟨u, fun w' => by simp [h1], h2⟩
  · obtain ⟨u, h1, h2⟩ := pBuild_ok (P := P) (w := w) hT hev he
    exact ⟨u, fun w' => by simp [h1], h2⟩
  · obtain ⟨u, h1, h2⟩ := pExtract_ok (P := P) (hev _) he hs
    exact ⟨u, fun w' => by simp [h1], h2⟩
  · obtain ⟨u, h1, h2⟩ := pIndex_ok (P := P) hT (hev _) (hev _) he hs
    exact ⟨u, fun w' => by simp [h1], h2⟩
  · obtain ⟨u, h1, h2⟩ := pIface_ok (P := P) hT (hev _) he
    exact ⟨u, fun w' => by simp [h1], h2⟩
  · obtain ⟨_, rfl⟩ := Prod.mk.inj (Option.some.inj he)
    exact ⟨_, fun w' => by simp [Instr.makeFunc], pFunc_ok hev _ _⟩
  · rename_i x
    have hr := hev x
    unfold pNil at he
    split at he <;> try (cases he; done)
    all_goals
      rename_i hx
      rw [hx] at hr
      obtain ⟨_, rfl⟩ := Prod.mk.inj (Option.some.inj he)
      have hp : ∃ ad, a.eval x = .pointer (some ad) := by
        generalize a.eval x = v at hr
        cases hr <;> first | exact ⟨_, rfl⟩ | (rename_i h; cases h; exact ⟨_, rfl⟩) | (rename_i h; cases h)
      obtain ⟨ad, hp⟩ := hp
      exact ⟨a.eval x, fun w' => by simp [hp], hr⟩
  · rename_i op t x y yt
    obtain ⟨r, h1, h2⟩ := pBin_ok (P := P) hT (hev x) (hev y) he hs x y
    refine ⟨r, fun w' => ?_, h2⟩
    have := h1 w'
    simp only [Sem.run_bind] at this ⊢
    rw [this]
    rfl
  · rename_i op t x
    have hx := hev x
    split at he <;> try (cases he; done)
    rename_i u e1
    rw [e1] at hx
    split at he <;> try (cases he; done)
    rename_i p h1
    obtain ⟨_, rfl⟩ := Prod.mk.inj (Option.some.inj he)
    refine ⟨p, fun w' => ?_, .per (.pl _)⟩
    simp [hx.pl_eq, plUn_ok (P := P) (w := w') h1]
  · obtain ⟨u, h1, h2⟩ := pConvert_ok hT (hev _) he
    exact ⟨u, fun w' => by simp [h1], h2⟩
  · rename_i c
    split at he <;> try (cases he; done)
    case h_2 | h_3 =>
      rename_i x y hc ha
      have hx := hev x
      have hy := hev y
      have e1 : c.args = #[x, y] := Array.ext' (by simpa using ha)
      split at he <;> try (cases he; done)
      rename_i u v e3 e4
      rw [e3] at hx
      rw [e4] at hy
      split at he <;> try (cases he; done)
      rename_i r h1
      obtain ⟨_, rfl⟩ := Prod.mk.inj (Option.some.inj he)
      refine ⟨r, fun w' => ?_, .per (.pl _)⟩
      first
        | simp [resolve, hc, invoke, builtin, e1, hx.pl_eq, hy.pl_eq, plMin_ok (P := P) (w := w') (ts := c.argTypes) (ty := o.type) h1]
        | simp [resolve, hc, invoke, builtin, e1, hx.pl_eq, hy.pl_eq, plMax_ok (P := P) (w := w') (ts := c.argTypes) (ty := o.type) h1]
    rename_i x t hc ha ht
    obtain ⟨u, h1, h2⟩ := pLen_ok (ty := o.type) hT (hev x) he
    refine ⟨u, fun w' => ?_, h2⟩
    have e1 : c.args = #[x] := Array.ext' (by simpa using ha)
    have e2 : c.argTypes = #[t] := Array.ext' (by simpa using ht)
    simp [resolve, hc, invoke, builtin, e1, e2, h1]
  · cases he

theorem pev_ok (hT : TOk P T) (h : Sim w0 M S0 ρ φ S st a w) {e : Operand → SV} (hev : ∀ x, Rep ρ S w (a.eval x) (e x)) {o : Oper} {sv : SV} {side : Prop} (he : pev T st e o.op = some (side, sv)) (hs : side) :
    ∃ u, (execOp a.eval o).run P w = .ok (.value u) w ∧ Rep ρ S w u sv := by
  cases hl : isLoad o.op with
  | false =>
    obtain ⟨u, h1, h2⟩ := pev_any (P := P) hT h hev he hs hl
    exact ⟨u, h1 w, h2⟩
  | true =>
    unfold execOp
    generalize o.op = op at he hl
    cases op <;> try (cases hl; done)
    obtain ⟨u, h1, h2⟩ := pLoad_ok (P := P) hT h (hev _) he hs
    exact ⟨u, by simp [h1], h2⟩

end Go.Vcg
