/-
  No cell of these rows narrows 'for every input' (looked for: loops, veiled, ifaces, maps, wideKeys, modest, calm, conditions, laid).
  DERIVED. THE GIVEN ROWS OF THIS SEAT. 6 by the template 'for every input the law returns true; each argument reads behind the call as it read before'; 0 by the template 'total and deterministic' (their statements: YtckbeomgbmhmlaaTotals.lean).
  GIVEN WITH THE SEED: the statements are not yours to turn. If you find one false, say at which input.
  Laid BY PROGRAM, IN A SANDBOX (cutbox-rows.mjs): the forced cells as the released guide's own fill.sh prints them over the translation 3d01df2fcb47a312… (all of the seat's roots in one cut). By AI agents, Wed Nov 11 2026. No macro, syntax, notation, axiom, sorry.
-/
import Derived.Test.YtckbeomgbmhmlaaChecked
import GoSem.Claim
import GoSem.ClaimJoined
import GoSem.ClaimMapViews
import Derived.JoinedTies
import Derived.KernelRfl
namespace Go.Proofs.Ytckbeomgbmhmlaa
/- THE CELL 'sum', in the pinned program and in every row, IS THE sha256 OF THE DUMP (.gsa) THAT YtckbeomgbmhmlaaProg.lean LOADS. Nothing in Lean hashes anything: it is a label: what it is worth is what the hold of that sum in a sandbox is worth. -/
noncomputable def Try.pinned : Pinned := { name := "ytckbeomgbmhmlaa", sum := "3d01df2fcb47a3120265b71ea2df6fbb3d467640678bfc24b073b9313ae5d2b7", checked := Try.checked }
namespace Rows
def none {H : Type} : Left H := { results := [], args := [] }

/-- 'laws.FnExactCrossedOf': WHATEVER THE INPUT: true; the input reads as it did. -/
def fnExactCrossedOfSpec : ChangeSpec := { name := "fnExactCrossedOf", fn := fun _ => fun
  | [d1, d2, d3, d4] => { results := [.lit (.bool true)], args := [d1, d2, d3, d4] }
  | _ => none }
def fnExactCrossedOfRow : OpenClaim := { program := "ytckbeomgbmhmlaa", sum := "3d01df2fcb47a3120265b71ea2df6fbb3d467640678bfc24b073b9313ae5d2b7", func := "loop.example/divisorrows/laws.FnExactCrossedOf", spec := "fnExactCrossedOf", apart := false }
def FnExactCrossedOfSaid : Prop := fnExactCrossedOfRow.holds Try.pinned (OpenSpec.ofChange fnExactCrossedOfSpec)

/-- ITS FALSE NEIGHBOUR: 'it returns false'. Refute it at one input. -/
def fnExactCrossedOfWrong : ChangeSpec := { name := "fnExactCrossedOf", fn := fun _ => fun
  | [d1, d2, d3, d4] => { results := [.lit (.bool false)], args := [d1, d2, d3, d4] }
  | _ => none }
def FnExactCrossedOfWrongFalsely : Prop := fnExactCrossedOfRow.holds Try.pinned (OpenSpec.ofChange fnExactCrossedOfWrong)

/-- 'laws.FnExactFirstSquares': WHATEVER THE INPUT: true; the input reads as it did. -/
def fnExactFirstSquaresSpec : ChangeSpec := { name := "fnExactFirstSquares", fn := fun _ => fun
  | [d] => { results := [.lit (.bool true)], args := [d] }
  | _ => none }
def fnExactFirstSquaresRow : OpenClaim := { program := "ytckbeomgbmhmlaa", sum := "3d01df2fcb47a3120265b71ea2df6fbb3d467640678bfc24b073b9313ae5d2b7", func := "loop.example/divisorrows/laws.FnExactFirstSquares", spec := "fnExactFirstSquares", apart := false }
def FnExactFirstSquaresSaid : Prop := fnExactFirstSquaresRow.holds Try.pinned (OpenSpec.ofChange fnExactFirstSquaresSpec)

/-- ITS FALSE NEIGHBOUR: 'it returns false'. Refute it at one input. -/
def fnExactFirstSquaresWrong : ChangeSpec := { name := "fnExactFirstSquares", fn := fun _ => fun
  | [d] => { results := [.lit (.bool false)], args := [d] }
  | _ => none }
def FnExactFirstSquaresWrongFalsely : Prop := fnExactFirstSquaresRow.holds Try.pinned (OpenSpec.ofChange fnExactFirstSquaresWrong)

/-- 'laws.FnExactLeavesSign': WHATEVER THE INPUT: true; the input reads as it did. -/
def fnExactLeavesSignSpec : ChangeSpec := { name := "fnExactLeavesSign", fn := fun _ => fun
  | [d] => { results := [.lit (.bool true)], args := [d] }
  | _ => none }
def fnExactLeavesSignRow : OpenClaim := { program := "ytckbeomgbmhmlaa", sum := "3d01df2fcb47a3120265b71ea2df6fbb3d467640678bfc24b073b9313ae5d2b7", func := "loop.example/divisorrows/laws.FnExactLeavesSign", spec := "fnExactLeavesSign", apart := false }
def FnExactLeavesSignSaid : Prop := fnExactLeavesSignRow.holds Try.pinned (OpenSpec.ofChange fnExactLeavesSignSpec)

/-- ITS FALSE NEIGHBOUR: 'it returns false'. Refute it at one input. -/
def fnExactLeavesSignWrong : ChangeSpec := { name := "fnExactLeavesSign", fn := fun _ => fun
  | [d] => { results := [.lit (.bool false)], args := [d] }
  | _ => none }
def FnExactLeavesSignWrongFalsely : Prop := fnExactLeavesSignRow.holds Try.pinned (OpenSpec.ofChange fnExactLeavesSignWrong)

/-- 'laws.FnExactDivisorsUpTo': WHATEVER THE INPUT: true; the input reads as it did. -/
def fnExactDivisorsUpToSpec : ChangeSpec := { name := "fnExactDivisorsUpTo", fn := fun _ => fun
  | [d] => { results := [.lit (.bool true)], args := [d] }
  | _ => none }
def fnExactDivisorsUpToRow : OpenClaim := { program := "ytckbeomgbmhmlaa", sum := "3d01df2fcb47a3120265b71ea2df6fbb3d467640678bfc24b073b9313ae5d2b7", func := "loop.example/divisorrows/laws.FnExactDivisorsUpTo", spec := "fnExactDivisorsUpTo", apart := false }
def FnExactDivisorsUpToSaid : Prop := fnExactDivisorsUpToRow.holds Try.pinned (OpenSpec.ofChange fnExactDivisorsUpToSpec)

/-- ITS FALSE NEIGHBOUR: 'it returns false'. Refute it at one input. -/
def fnExactDivisorsUpToWrong : ChangeSpec := { name := "fnExactDivisorsUpTo", fn := fun _ => fun
  | [d] => { results := [.lit (.bool false)], args := [d] }
  | _ => none }
def FnExactDivisorsUpToWrongFalsely : Prop := fnExactDivisorsUpToRow.holds Try.pinned (OpenSpec.ofChange fnExactDivisorsUpToWrong)

/-- 'laws.FnExactSumsUpTo': WHATEVER THE INPUT: true; the input reads as it did. -/
def fnExactSumsUpToSpec : ChangeSpec := { name := "fnExactSumsUpTo", fn := fun _ => fun
  | [d] => { results := [.lit (.bool true)], args := [d] }
  | _ => none }
def fnExactSumsUpToRow : OpenClaim := { program := "ytckbeomgbmhmlaa", sum := "3d01df2fcb47a3120265b71ea2df6fbb3d467640678bfc24b073b9313ae5d2b7", func := "loop.example/divisorrows/laws.FnExactSumsUpTo", spec := "fnExactSumsUpTo", unfollowed := true, recurses := true, apart := false }
def FnExactSumsUpToSaid : Prop := fnExactSumsUpToRow.holds Try.pinned (OpenSpec.ofChange fnExactSumsUpToSpec)

/-- ITS FALSE NEIGHBOUR: 'it returns false'. Refute it at one input. -/
def fnExactSumsUpToWrong : ChangeSpec := { name := "fnExactSumsUpTo", fn := fun _ => fun
  | [d] => { results := [.lit (.bool false)], args := [d] }
  | _ => none }
def FnExactSumsUpToWrongFalsely : Prop := fnExactSumsUpToRow.holds Try.pinned (OpenSpec.ofChange fnExactSumsUpToWrong)

/-- 'laws.FnExactCountSquares': WHATEVER THE INPUT: true; the input reads as it did. -/
def fnExactCountSquaresSpec : ChangeSpec := { name := "fnExactCountSquares", fn := fun _ => fun
  | [d] => { results := [.lit (.bool true)], args := [d] }
  | _ => none }
def fnExactCountSquaresRow : OpenClaim := { program := "ytckbeomgbmhmlaa", sum := "3d01df2fcb47a3120265b71ea2df6fbb3d467640678bfc24b073b9313ae5d2b7", func := "loop.example/divisorrows/laws.FnExactCountSquares", spec := "fnExactCountSquares", apart := false }
def FnExactCountSquaresSaid : Prop := fnExactCountSquaresRow.holds Try.pinned (OpenSpec.ofChange fnExactCountSquaresSpec)

/-- ITS FALSE NEIGHBOUR: 'it returns false'. Refute it at one input. -/
def fnExactCountSquaresWrong : ChangeSpec := { name := "fnExactCountSquares", fn := fun _ => fun
  | [d] => { results := [.lit (.bool false)], args := [d] }
  | _ => none }
def FnExactCountSquaresWrongFalsely : Prop := fnExactCountSquaresRow.holds Try.pinned (OpenSpec.ofChange fnExactCountSquaresWrong)

/- THE SECOND FORM. 'bulk': how many values and letters a reading holds, each counted each time it is reached (what is shared counts as often as it is met; a slice's spare places count too). A statement '..UptoSaid' is the law's where the arguments, and the package variables that the reading takes, are together of bulk at most 1048576: NARROWER than '..Said'. Prove '..Said' where nothing that the law and all that it calls make is longer than what came in: it says more and counts as full. Else prove '..UptoSaid'. A law counts once. -/
mutual
def uptoBulk {H : Type} : DataW H → Nat
  | .lit (.string bytes) => bytes.length + 1
  | .lit _ => 1
  | .nil => 1
  | .ptr d => uptoBulk d + 1
  | .slice elems spare => uptoBulkAll elems + uptoBulkAll spare + 1
  | .agg parts => uptoBulkAll parts + 1
  | .iface _ d => uptoBulk d + 1
  | .map entries => uptoBulkEntries entries + 1
  | .held _ => 1
def uptoBulkAll {H : Type} : List (DataW H) → Nat
  | [] => 0
  | d :: r => uptoBulk d + uptoBulkAll r
def uptoBulkEntries {H : Type} : List (Lit × DataW H) → Nat
  | [] => 0
  | x :: r => uptoBulkEntry x + uptoBulkEntries r
def uptoBulkEntry {H : Type} : Lit × DataW H → Nat
  | (.string bytes, d) => bytes.length + uptoBulk d + 1
  | (_, d) => uptoBulk d + 1
 end
def uptoSmall : (H : Type) → List (DataW H) → Bool := fun _ ds => decide (uptoBulkAll ds ≤ 1048576)
def OpenSpec.upto (s : _root_.Go.ChangeSpec) : _root_.Go.OpenSpec := { _root_.Go.OpenSpec.ofChange s with cond := some uptoSmall }

/-- 'laws.FnExactCrossedOf', WHERE WHAT IT READS IS OF BULK AT MOST 1048576: true; the input reads as it did. -/
def fnExactCrossedOfUptoRow : OpenClaim := { program := "ytckbeomgbmhmlaa", sum := "3d01df2fcb47a3120265b71ea2df6fbb3d467640678bfc24b073b9313ae5d2b7", func := "loop.example/divisorrows/laws.FnExactCrossedOf", spec := "fnExactCrossedOf", apart := false, narrowed := true }
def FnExactCrossedOfUptoSaid : Prop := fnExactCrossedOfUptoRow.holds Try.pinned (OpenSpec.upto fnExactCrossedOfSpec)

/-- 'laws.FnExactFirstSquares', WHERE WHAT IT READS IS OF BULK AT MOST 1048576: true; the input reads as it did. -/
def fnExactFirstSquaresUptoRow : OpenClaim := { program := "ytckbeomgbmhmlaa", sum := "3d01df2fcb47a3120265b71ea2df6fbb3d467640678bfc24b073b9313ae5d2b7", func := "loop.example/divisorrows/laws.FnExactFirstSquares", spec := "fnExactFirstSquares", apart := false, narrowed := true }
def FnExactFirstSquaresUptoSaid : Prop := fnExactFirstSquaresUptoRow.holds Try.pinned (OpenSpec.upto fnExactFirstSquaresSpec)

/-- 'laws.FnExactLeavesSign', WHERE WHAT IT READS IS OF BULK AT MOST 1048576: true; the input reads as it did. -/
def fnExactLeavesSignUptoRow : OpenClaim := { program := "ytckbeomgbmhmlaa", sum := "3d01df2fcb47a3120265b71ea2df6fbb3d467640678bfc24b073b9313ae5d2b7", func := "loop.example/divisorrows/laws.FnExactLeavesSign", spec := "fnExactLeavesSign", apart := false, narrowed := true }
def FnExactLeavesSignUptoSaid : Prop := fnExactLeavesSignUptoRow.holds Try.pinned (OpenSpec.upto fnExactLeavesSignSpec)

/-- 'laws.FnExactDivisorsUpTo', WHERE WHAT IT READS IS OF BULK AT MOST 1048576: true; the input reads as it did. -/
def fnExactDivisorsUpToUptoRow : OpenClaim := { program := "ytckbeomgbmhmlaa", sum := "3d01df2fcb47a3120265b71ea2df6fbb3d467640678bfc24b073b9313ae5d2b7", func := "loop.example/divisorrows/laws.FnExactDivisorsUpTo", spec := "fnExactDivisorsUpTo", apart := false, narrowed := true }
def FnExactDivisorsUpToUptoSaid : Prop := fnExactDivisorsUpToUptoRow.holds Try.pinned (OpenSpec.upto fnExactDivisorsUpToSpec)

/-- 'laws.FnExactSumsUpTo', WHERE WHAT IT READS IS OF BULK AT MOST 1048576: true; the input reads as it did. -/
def fnExactSumsUpToUptoRow : OpenClaim := { program := "ytckbeomgbmhmlaa", sum := "3d01df2fcb47a3120265b71ea2df6fbb3d467640678bfc24b073b9313ae5d2b7", func := "loop.example/divisorrows/laws.FnExactSumsUpTo", spec := "fnExactSumsUpTo", unfollowed := true, recurses := true, apart := false, narrowed := true }
def FnExactSumsUpToUptoSaid : Prop := fnExactSumsUpToUptoRow.holds Try.pinned (OpenSpec.upto fnExactSumsUpToSpec)

/-- 'laws.FnExactCountSquares', WHERE WHAT IT READS IS OF BULK AT MOST 1048576: true; the input reads as it did. -/
def fnExactCountSquaresUptoRow : OpenClaim := { program := "ytckbeomgbmhmlaa", sum := "3d01df2fcb47a3120265b71ea2df6fbb3d467640678bfc24b073b9313ae5d2b7", func := "loop.example/divisorrows/laws.FnExactCountSquares", spec := "fnExactCountSquares", apart := false, narrowed := true }
def FnExactCountSquaresUptoSaid : Prop := fnExactCountSquaresUptoRow.holds Try.pinned (OpenSpec.upto fnExactCountSquaresSpec)

end Rows
end Go.Proofs.Ytckbeomgbmhmlaa
