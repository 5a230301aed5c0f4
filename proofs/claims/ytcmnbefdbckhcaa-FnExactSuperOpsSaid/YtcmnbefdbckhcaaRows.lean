/-
  No cell of these rows narrows 'for every input' (looked for: loops, veiled, ifaces, maps, wideKeys, modest, calm, conditions, laid).
  DERIVED. THE GIVEN ROWS OF THIS SEAT. 12 by the template 'for every input the law returns true; each argument reads behind the call as it read before'; 0 by the template 'total and deterministic' (their statements: YtcmnbefdbckhcaaTotals.lean).
  GIVEN WITH THE SEED: the statements are not yours to turn. If you find one false, say at which input.
  Laid BY PROGRAM, IN A SANDBOX (cutbox-rows.mjs): the forced cells as the released guide's own fill.sh prints them over the translation 9dd48a9abe124c07… (all of the seat's roots in one cut). By AI agents, Wed Nov 11 2026. No macro, syntax, notation, axiom, sorry.
-/
import Derived.Test.YtcmnbefdbckhcaaChecked
import GoSem.Claim
import GoSem.ClaimJoined
import GoSem.ClaimMapViews
import Derived.JoinedTies
import Derived.KernelRfl
namespace Go.Proofs.Ytcmnbefdbckhcaa
/- THE CELL 'sum', in the pinned program and in every row, IS THE sha256 OF THE DUMP (.gsa) THAT YtcmnbefdbckhcaaProg.lean LOADS. Nothing in Lean hashes anything: it is a label: what it is worth is what the hold of that sum in a sandbox is worth. -/
noncomputable def Try.pinned : Pinned := { name := "ytcmnbefdbckhcaa", sum := "9dd48a9abe124c07efa3221e6470a1dc22b0b92b8565b6bb0ba78ecbed28b08a", checked := Try.checked }
namespace Rows
def none {H : Type} : Left H := { results := [], args := [] }

/-- 'laws.FnExactSha256': WHATEVER THE INPUT: true; the input reads as it did. -/
def fnExactSha256Spec : ChangeSpec := { name := "fnExactSha256", fn := fun _ => fun
  | [d] => { results := [.lit (.bool true)], args := [d] }
  | _ => none }
def fnExactSha256Row : OpenClaim := { program := "ytcmnbefdbckhcaa", sum := "9dd48a9abe124c07efa3221e6470a1dc22b0b92b8565b6bb0ba78ecbed28b08a", func := "loop.example/s01906/laws.FnExactSha256", spec := "fnExactSha256", apart := false }
def FnExactSha256Said : Prop := fnExactSha256Row.holds Try.pinned (OpenSpec.ofChange fnExactSha256Spec)

/-- ITS FALSE NEIGHBOUR: 'it returns false'. Refute it at one input. -/
def fnExactSha256Wrong : ChangeSpec := { name := "fnExactSha256", fn := fun _ => fun
  | [d] => { results := [.lit (.bool false)], args := [d] }
  | _ => none }
def FnExactSha256WrongFalsely : Prop := fnExactSha256Row.holds Try.pinned (OpenSpec.ofChange fnExactSha256Wrong)

/-- 'laws.FnExactPageOps': WHATEVER THE INPUT: true; the input reads as it did. -/
def fnExactPageOpsSpec : ChangeSpec := { name := "fnExactPageOps", fn := fun _ => fun
  | [d1, d2, d3] => { results := [.lit (.bool true)], args := [d1, d2, d3] }
  | _ => none }
def fnExactPageOpsRow : OpenClaim := { program := "ytcmnbefdbckhcaa", sum := "9dd48a9abe124c07efa3221e6470a1dc22b0b92b8565b6bb0ba78ecbed28b08a", func := "loop.example/s01906/laws.FnExactPageOps", spec := "fnExactPageOps", inPlace := ["internal/bytealg.MakeNoZero"], apart := false }
def FnExactPageOpsSaid : Prop := fnExactPageOpsRow.holds Try.pinned (OpenSpec.ofChange fnExactPageOpsSpec)

/-- ITS FALSE NEIGHBOUR: 'it returns false'. Refute it at one input. -/
def fnExactPageOpsWrong : ChangeSpec := { name := "fnExactPageOps", fn := fun _ => fun
  | [d1, d2, d3] => { results := [.lit (.bool false)], args := [d1, d2, d3] }
  | _ => none }
def FnExactPageOpsWrongFalsely : Prop := fnExactPageOpsRow.holds Try.pinned (OpenSpec.ofChange fnExactPageOpsWrong)

/-- 'laws.FnExactDecodePage': WHATEVER THE INPUT: true; the input reads as it did. -/
def fnExactDecodePageSpec : ChangeSpec := { name := "fnExactDecodePage", fn := fun _ => fun
  | [d1, d2] => { results := [.lit (.bool true)], args := [d1, d2] }
  | _ => none }
def fnExactDecodePageRow : OpenClaim := { program := "ytcmnbefdbckhcaa", sum := "9dd48a9abe124c07efa3221e6470a1dc22b0b92b8565b6bb0ba78ecbed28b08a", func := "loop.example/s01906/laws.FnExactDecodePage", spec := "fnExactDecodePage", inPlace := ["internal/bytealg.MakeNoZero", "internal/reflectlite.TypeOf"], unfollowed := true, recurses := true, apart := false }
def FnExactDecodePageSaid : Prop := fnExactDecodePageRow.holds Try.pinned (OpenSpec.ofChange fnExactDecodePageSpec)

/-- ITS FALSE NEIGHBOUR: 'it returns false'. Refute it at one input. -/
def fnExactDecodePageWrong : ChangeSpec := { name := "fnExactDecodePage", fn := fun _ => fun
  | [d1, d2] => { results := [.lit (.bool false)], args := [d1, d2] }
  | _ => none }
def FnExactDecodePageWrongFalsely : Prop := fnExactDecodePageRow.holds Try.pinned (OpenSpec.ofChange fnExactDecodePageWrong)

/-- 'laws.FnExactMerkleRoot': WHATEVER THE INPUT: true; the input reads as it did. -/
def fnExactMerkleRootSpec : ChangeSpec := { name := "fnExactMerkleRoot", fn := fun _ => fun
  | [d] => { results := [.lit (.bool true)], args := [d] }
  | _ => none }
def fnExactMerkleRootRow : OpenClaim := { program := "ytcmnbefdbckhcaa", sum := "9dd48a9abe124c07efa3221e6470a1dc22b0b92b8565b6bb0ba78ecbed28b08a", func := "loop.example/s01906/laws.FnExactMerkleRoot", spec := "fnExactMerkleRoot", recurses := true, apart := false }
def FnExactMerkleRootSaid : Prop := fnExactMerkleRootRow.holds Try.pinned (OpenSpec.ofChange fnExactMerkleRootSpec)

/-- ITS FALSE NEIGHBOUR: 'it returns false'. Refute it at one input. -/
def fnExactMerkleRootWrong : ChangeSpec := { name := "fnExactMerkleRoot", fn := fun _ => fun
  | [d] => { results := [.lit (.bool false)], args := [d] }
  | _ => none }
def FnExactMerkleRootWrongFalsely : Prop := fnExactMerkleRootRow.holds Try.pinned (OpenSpec.ofChange fnExactMerkleRootWrong)

/-- 'laws.FnExactSuperOps': WHATEVER THE INPUT: true; the input reads as it did. -/
def fnExactSuperOpsSpec : ChangeSpec := { name := "fnExactSuperOps", fn := fun _ => fun
  | [d] => { results := [.lit (.bool true)], args := [d] }
  | _ => none }
def fnExactSuperOpsRow : OpenClaim := { program := "ytcmnbefdbckhcaa", sum := "9dd48a9abe124c07efa3221e6470a1dc22b0b92b8565b6bb0ba78ecbed28b08a", func := "loop.example/s01906/laws.FnExactSuperOps", spec := "fnExactSuperOps", inPlace := ["internal/bytealg.MakeNoZero"], unfollowed := true, recurses := true, apart := false }
def FnExactSuperOpsSaid : Prop := fnExactSuperOpsRow.holds Try.pinned (OpenSpec.ofChange fnExactSuperOpsSpec)

/-- ITS FALSE NEIGHBOUR: 'it returns false'. Refute it at one input. -/
def fnExactSuperOpsWrong : ChangeSpec := { name := "fnExactSuperOps", fn := fun _ => fun
  | [d] => { results := [.lit (.bool false)], args := [d] }
  | _ => none }
def FnExactSuperOpsWrongFalsely : Prop := fnExactSuperOpsRow.holds Try.pinned (OpenSpec.ofChange fnExactSuperOpsWrong)

/-- 'laws.FnExactEncodeTx': WHATEVER THE INPUT: true; the input reads as it did. -/
def fnExactEncodeTxSpec : ChangeSpec := { name := "fnExactEncodeTx", fn := fun _ => fun
  | [d] => { results := [.lit (.bool true)], args := [d] }
  | _ => none }
def fnExactEncodeTxRow : OpenClaim := { program := "ytcmnbefdbckhcaa", sum := "9dd48a9abe124c07efa3221e6470a1dc22b0b92b8565b6bb0ba78ecbed28b08a", func := "loop.example/s01906/laws.FnExactEncodeTx", spec := "fnExactEncodeTx", unfollowed := true, recurses := true, apart := false }
def FnExactEncodeTxSaid : Prop := fnExactEncodeTxRow.holds Try.pinned (OpenSpec.ofChange fnExactEncodeTxSpec)

/-- ITS FALSE NEIGHBOUR: 'it returns false'. Refute it at one input. -/
def fnExactEncodeTxWrong : ChangeSpec := { name := "fnExactEncodeTx", fn := fun _ => fun
  | [d] => { results := [.lit (.bool false)], args := [d] }
  | _ => none }
def FnExactEncodeTxWrongFalsely : Prop := fnExactEncodeTxRow.holds Try.pinned (OpenSpec.ofChange fnExactEncodeTxWrong)

/-- 'laws.FnPage': WHATEVER THE INPUT: true; the input reads as it did. -/
def fnPageSpec : ChangeSpec := { name := "fnPage", fn := fun _ => fun
  | [d] => { results := [.lit (.bool true)], args := [d] }
  | _ => none }
def fnPageRow : OpenClaim := { program := "ytcmnbefdbckhcaa", sum := "9dd48a9abe124c07efa3221e6470a1dc22b0b92b8565b6bb0ba78ecbed28b08a", func := "loop.example/s01906/laws.FnPage", spec := "fnPage", inPlace := ["internal/bytealg.MakeNoZero", "internal/reflectlite.TypeOf"], unfollowed := true, recurses := true, apart := false }
def FnPageSaid : Prop := fnPageRow.holds Try.pinned (OpenSpec.ofChange fnPageSpec)

/-- ITS FALSE NEIGHBOUR: 'it returns false'. Refute it at one input. -/
def fnPageWrong : ChangeSpec := { name := "fnPage", fn := fun _ => fun
  | [d] => { results := [.lit (.bool false)], args := [d] }
  | _ => none }
def FnPageWrongFalsely : Prop := fnPageRow.holds Try.pinned (OpenSpec.ofChange fnPageWrong)

/-- 'laws.FnExactDecodeBlock': WHATEVER THE INPUT: true; the input reads as it did. -/
def fnExactDecodeBlockSpec : ChangeSpec := { name := "fnExactDecodeBlock", fn := fun _ => fun
  | [d] => { results := [.lit (.bool true)], args := [d] }
  | _ => none }
def fnExactDecodeBlockRow : OpenClaim := { program := "ytcmnbefdbckhcaa", sum := "9dd48a9abe124c07efa3221e6470a1dc22b0b92b8565b6bb0ba78ecbed28b08a", func := "loop.example/s01906/laws.FnExactDecodeBlock", spec := "fnExactDecodeBlock", unfollowed := true, recurses := true, apart := false }
def FnExactDecodeBlockSaid : Prop := fnExactDecodeBlockRow.holds Try.pinned (OpenSpec.ofChange fnExactDecodeBlockSpec)

/-- ITS FALSE NEIGHBOUR: 'it returns false'. Refute it at one input. -/
def fnExactDecodeBlockWrong : ChangeSpec := { name := "fnExactDecodeBlock", fn := fun _ => fun
  | [d] => { results := [.lit (.bool false)], args := [d] }
  | _ => none }
def FnExactDecodeBlockWrongFalsely : Prop := fnExactDecodeBlockRow.holds Try.pinned (OpenSpec.ofChange fnExactDecodeBlockWrong)

/-- 'laws.FnExactTxId': WHATEVER THE INPUT: true; the input reads as it did. -/
def fnExactTxIdSpec : ChangeSpec := { name := "fnExactTxId", fn := fun _ => fun
  | [d] => { results := [.lit (.bool true)], args := [d] }
  | _ => none }
def fnExactTxIdRow : OpenClaim := { program := "ytcmnbefdbckhcaa", sum := "9dd48a9abe124c07efa3221e6470a1dc22b0b92b8565b6bb0ba78ecbed28b08a", func := "loop.example/s01906/laws.FnExactTxId", spec := "fnExactTxId", unfollowed := true, recurses := true, apart := false }
def FnExactTxIdSaid : Prop := fnExactTxIdRow.holds Try.pinned (OpenSpec.ofChange fnExactTxIdSpec)

/-- ITS FALSE NEIGHBOUR: 'it returns false'. Refute it at one input. -/
def fnExactTxIdWrong : ChangeSpec := { name := "fnExactTxId", fn := fun _ => fun
  | [d] => { results := [.lit (.bool false)], args := [d] }
  | _ => none }
def FnExactTxIdWrongFalsely : Prop := fnExactTxIdRow.holds Try.pinned (OpenSpec.ofChange fnExactTxIdWrong)

/-- 'laws.FnExactEncodeBlock': WHATEVER THE INPUT: true; the input reads as it did. -/
def fnExactEncodeBlockSpec : ChangeSpec := { name := "fnExactEncodeBlock", fn := fun _ => fun
  | [d] => { results := [.lit (.bool true)], args := [d] }
  | _ => none }
def fnExactEncodeBlockRow : OpenClaim := { program := "ytcmnbefdbckhcaa", sum := "9dd48a9abe124c07efa3221e6470a1dc22b0b92b8565b6bb0ba78ecbed28b08a", func := "loop.example/s01906/laws.FnExactEncodeBlock", spec := "fnExactEncodeBlock", unfollowed := true, recurses := true, apart := false }
def FnExactEncodeBlockSaid : Prop := fnExactEncodeBlockRow.holds Try.pinned (OpenSpec.ofChange fnExactEncodeBlockSpec)

/-- ITS FALSE NEIGHBOUR: 'it returns false'. Refute it at one input. -/
def fnExactEncodeBlockWrong : ChangeSpec := { name := "fnExactEncodeBlock", fn := fun _ => fun
  | [d] => { results := [.lit (.bool false)], args := [d] }
  | _ => none }
def FnExactEncodeBlockWrongFalsely : Prop := fnExactEncodeBlockRow.holds Try.pinned (OpenSpec.ofChange fnExactEncodeBlockWrong)

/-- 'laws.FnExactBlockId': WHATEVER THE INPUT: true; the input reads as it did. -/
def fnExactBlockIdSpec : ChangeSpec := { name := "fnExactBlockId", fn := fun _ => fun
  | [d] => { results := [.lit (.bool true)], args := [d] }
  | _ => none }
def fnExactBlockIdRow : OpenClaim := { program := "ytcmnbefdbckhcaa", sum := "9dd48a9abe124c07efa3221e6470a1dc22b0b92b8565b6bb0ba78ecbed28b08a", func := "loop.example/s01906/laws.FnExactBlockId", spec := "fnExactBlockId", apart := false }
def FnExactBlockIdSaid : Prop := fnExactBlockIdRow.holds Try.pinned (OpenSpec.ofChange fnExactBlockIdSpec)

/-- ITS FALSE NEIGHBOUR: 'it returns false'. Refute it at one input. -/
def fnExactBlockIdWrong : ChangeSpec := { name := "fnExactBlockId", fn := fun _ => fun
  | [d] => { results := [.lit (.bool false)], args := [d] }
  | _ => none }
def FnExactBlockIdWrongFalsely : Prop := fnExactBlockIdRow.holds Try.pinned (OpenSpec.ofChange fnExactBlockIdWrong)

/-- 'laws.FnBlock': WHATEVER THE INPUT: true; the input reads as it did. -/
def fnBlockSpec : ChangeSpec := { name := "fnBlock", fn := fun _ => fun
  | [d] => { results := [.lit (.bool true)], args := [d] }
  | _ => none }
def fnBlockRow : OpenClaim := { program := "ytcmnbefdbckhcaa", sum := "9dd48a9abe124c07efa3221e6470a1dc22b0b92b8565b6bb0ba78ecbed28b08a", func := "loop.example/s01906/laws.FnBlock", spec := "fnBlock", unfollowed := true, recurses := true, apart := false }
def FnBlockSaid : Prop := fnBlockRow.holds Try.pinned (OpenSpec.ofChange fnBlockSpec)

/-- ITS FALSE NEIGHBOUR: 'it returns false'. Refute it at one input. -/
def fnBlockWrong : ChangeSpec := { name := "fnBlock", fn := fun _ => fun
  | [d] => { results := [.lit (.bool false)], args := [d] }
  | _ => none }
def FnBlockWrongFalsely : Prop := fnBlockRow.holds Try.pinned (OpenSpec.ofChange fnBlockWrong)

/- THE SECOND FORM. 'bulk': how many values and letters a reading holds, each counted each time it is reached (what is shared counts as often as it is met; a slice's spare places count too). A statement '..UptoSaid' is the law's where the arguments, and the package variables that the reading takes, are together of bulk at most 1048576: NARROWER than '..Said'. Prove '..Said' where nothing that the law and all that it calls make is longer than what came in: it says more and counts as full. Else prove '..UptoSaid'. A law counts once. -/
mutual
def uptoBulk {H : Type} : DataW H → Nat
  | .lit (.string bytes) => bytes.length + 1
  | .lit _ => 1
  | .nil => 1
  | .ptr d => uptoBulk d + 1
  | .slice elems spare => uptoBulkAll elems + uptoBulkAll spare + 1
  | .agg parts => uptoBulkAll parts + 1
  | .iface _ d => uptoBulk d + 1
  | .map entries => uptoBulkEntries entries + 1
  | .held _ => 1
def uptoBulkAll {H : Type} : List (DataW H) → Nat
  | [] => 0
  | d :: r => uptoBulk d + uptoBulkAll r
def uptoBulkEntries {H : Type} : List (Lit × DataW H) → Nat
  | [] => 0
  | x :: r => uptoBulkEntry x + uptoBulkEntries r
def uptoBulkEntry {H : Type} : Lit × DataW H → Nat
  | (.string bytes, d) => bytes.length + uptoBulk d + 1
  | (_, d) => uptoBulk d + 1
 end
def uptoSmall : (H : Type) → List (DataW H) → Bool := fun _ ds => decide (uptoBulkAll ds ≤ 1048576)
def OpenSpec.upto (s : _root_.Go.ChangeSpec) : _root_.Go.OpenSpec := { _root_.Go.OpenSpec.ofChange s with cond := some uptoSmall }

/-- 'laws.FnExactSha256', WHERE WHAT IT READS IS OF BULK AT MOST 1048576: true; the input reads as it did. -/
def fnExactSha256UptoRow : OpenClaim := { program := "ytcmnbefdbckhcaa", sum := "9dd48a9abe124c07efa3221e6470a1dc22b0b92b8565b6bb0ba78ecbed28b08a", func := "loop.example/s01906/laws.FnExactSha256", spec := "fnExactSha256", apart := false, narrowed := true }
def FnExactSha256UptoSaid : Prop := fnExactSha256UptoRow.holds Try.pinned (OpenSpec.upto fnExactSha256Spec)

/-- 'laws.FnExactPageOps', WHERE WHAT IT READS IS OF BULK AT MOST 1048576: true; the input reads as it did. -/
def fnExactPageOpsUptoRow : OpenClaim := { program := "ytcmnbefdbckhcaa", sum := "9dd48a9abe124c07efa3221e6470a1dc22b0b92b8565b6bb0ba78ecbed28b08a", func := "loop.example/s01906/laws.FnExactPageOps", spec := "fnExactPageOps", inPlace := ["internal/bytealg.MakeNoZero"], apart := false, narrowed := true }
def FnExactPageOpsUptoSaid : Prop := fnExactPageOpsUptoRow.holds Try.pinned (OpenSpec.upto fnExactPageOpsSpec)

/-- 'laws.FnExactDecodePage', WHERE WHAT IT READS IS OF BULK AT MOST 1048576: true; the input reads as it did. -/
def fnExactDecodePageUptoRow : OpenClaim := { program := "ytcmnbefdbckhcaa", sum := "9dd48a9abe124c07efa3221e6470a1dc22b0b92b8565b6bb0ba78ecbed28b08a", func := "loop.example/s01906/laws.FnExactDecodePage", spec := "fnExactDecodePage", inPlace := ["internal/bytealg.MakeNoZero", "internal/reflectlite.TypeOf"], unfollowed := true, recurses := true, apart := false, narrowed := true }
def FnExactDecodePageUptoSaid : Prop := fnExactDecodePageUptoRow.holds Try.pinned (OpenSpec.upto fnExactDecodePageSpec)

/-- 'laws.FnExactMerkleRoot', WHERE WHAT IT READS IS OF BULK AT MOST 1048576: true; the input reads as it did. -/
def fnExactMerkleRootUptoRow : OpenClaim := { program := "ytcmnbefdbckhcaa", sum := "9dd48a9abe124c07efa3221e6470a1dc22b0b92b8565b6bb0ba78ecbed28b08a", func := "loop.example/s01906/laws.FnExactMerkleRoot", spec := "fnExactMerkleRoot", recurses := true, apart := false, narrowed := true }
def FnExactMerkleRootUptoSaid : Prop := fnExactMerkleRootUptoRow.holds Try.pinned (OpenSpec.upto fnExactMerkleRootSpec)

/-- 'laws.FnExactSuperOps', WHERE WHAT IT READS IS OF BULK AT MOST 1048576: true; the input reads as it did. -/
def fnExactSuperOpsUptoRow : OpenClaim := { program := "ytcmnbefdbckhcaa", sum := "9dd48a9abe124c07efa3221e6470a1dc22b0b92b8565b6bb0ba78ecbed28b08a", func := "loop.example/s01906/laws.FnExactSuperOps", spec := "fnExactSuperOps", inPlace := ["internal/bytealg.MakeNoZero"], unfollowed := true, recurses := true, apart := false, narrowed := true }
def FnExactSuperOpsUptoSaid : Prop := fnExactSuperOpsUptoRow.holds Try.pinned (OpenSpec.upto fnExactSuperOpsSpec)

/-- 'laws.FnExactEncodeTx', WHERE WHAT IT READS IS OF BULK AT MOST 1048576: true; the input reads as it did. -/
def fnExactEncodeTxUptoRow : OpenClaim := { program := "ytcmnbefdbckhcaa", sum := "9dd48a9abe124c07efa3221e6470a1dc22b0b92b8565b6bb0ba78ecbed28b08a", func := "loop.example/s01906/laws.FnExactEncodeTx", spec := "fnExactEncodeTx", unfollowed := true, recurses := true, apart := false, narrowed := true }
def FnExactEncodeTxUptoSaid : Prop := fnExactEncodeTxUptoRow.holds Try.pinned (OpenSpec.upto fnExactEncodeTxSpec)

/-- 'laws.FnPage', WHERE WHAT IT READS IS OF BULK AT MOST 1048576: true; the input reads as it did. -/
def fnPageUptoRow : OpenClaim := { program := "ytcmnbefdbckhcaa", sum := "9dd48a9abe124c07efa3221e6470a1dc22b0b92b8565b6bb0ba78ecbed28b08a", func := "loop.example/s01906/laws.FnPage", spec := "fnPage", inPlace := ["internal/bytealg.MakeNoZero", "internal/reflectlite.TypeOf"], unfollowed := true, recurses := true, apart := false, narrowed := true }
def FnPageUptoSaid : Prop := fnPageUptoRow.holds Try.pinned (OpenSpec.upto fnPageSpec)

/-- 'laws.FnExactDecodeBlock', WHERE WHAT IT READS IS OF BULK AT MOST 1048576: true; the input reads as it did. -/
def fnExactDecodeBlockUptoRow : OpenClaim := { program := "ytcmnbefdbckhcaa", sum := "9dd48a9abe124c07efa3221e6470a1dc22b0b92b8565b6bb0ba78ecbed28b08a", func := "loop.example/s01906/laws.FnExactDecodeBlock", spec := "fnExactDecodeBlock", unfollowed := true, recurses := true, apart := false, narrowed := true }
def FnExactDecodeBlockUptoSaid : Prop := fnExactDecodeBlockUptoRow.holds Try.pinned (OpenSpec.upto fnExactDecodeBlockSpec)

/-- 'laws.FnExactTxId', WHERE WHAT IT READS IS OF BULK AT MOST 1048576: true; the input reads as it did. -/
def fnExactTxIdUptoRow : OpenClaim := { program := "ytcmnbefdbckhcaa", sum := "9dd48a9abe124c07efa3221e6470a1dc22b0b92b8565b6bb0ba78ecbed28b08a", func := "loop.example/s01906/laws.FnExactTxId", spec := "fnExactTxId", unfollowed := true, recurses := true, apart := false, narrowed := true }
def FnExactTxIdUptoSaid : Prop := fnExactTxIdUptoRow.holds Try.pinned (OpenSpec.upto fnExactTxIdSpec)

/-- 'laws.FnExactEncodeBlock', WHERE WHAT IT READS IS OF BULK AT MOST 1048576: true; the input reads as it did. -/
def fnExactEncodeBlockUptoRow : OpenClaim := { program := "ytcmnbefdbckhcaa", sum := "9dd48a9abe124c07efa3221e6470a1dc22b0b92b8565b6bb0ba78ecbed28b08a", func := "loop.example/s01906/laws.FnExactEncodeBlock", spec := "fnExactEncodeBlock", unfollowed := true, recurses := true, apart := false, narrowed := true }
def FnExactEncodeBlockUptoSaid : Prop := fnExactEncodeBlockUptoRow.holds Try.pinned (OpenSpec.upto fnExactEncodeBlockSpec)

/-- 'laws.FnExactBlockId', WHERE WHAT IT READS IS OF BULK AT MOST 1048576: true; the input reads as it did. -/
def fnExactBlockIdUptoRow : OpenClaim := { program := "ytcmnbefdbckhcaa", sum := "9dd48a9abe124c07efa3221e6470a1dc22b0b92b8565b6bb0ba78ecbed28b08a", func := "loop.example/s01906/laws.FnExactBlockId", spec := "fnExactBlockId", apart := false, narrowed := true }
def FnExactBlockIdUptoSaid : Prop := fnExactBlockIdUptoRow.holds Try.pinned (OpenSpec.upto fnExactBlockIdSpec)

/-- 'laws.FnBlock', WHERE WHAT IT READS IS OF BULK AT MOST 1048576: true; the input reads as it did. -/
def fnBlockUptoRow : OpenClaim := { program := "ytcmnbefdbckhcaa", sum := "9dd48a9abe124c07efa3221e6470a1dc22b0b92b8565b6bb0ba78ecbed28b08a", func := "loop.example/s01906/laws.FnBlock", spec := "fnBlock", unfollowed := true, recurses := true, apart := false, narrowed := true }
def FnBlockUptoSaid : Prop := fnBlockUptoRow.holds Try.pinned (OpenSpec.upto fnBlockSpec)

end Rows
end Go.Proofs.Ytcmnbefdbckhcaa
