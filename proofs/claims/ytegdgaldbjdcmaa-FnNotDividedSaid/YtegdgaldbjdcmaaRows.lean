/-
  No cell of these rows narrows 'for every input' (looked for: loops, veiled, ifaces, maps, wideKeys, modest, calm, conditions, laid).
  DERIVED. THE GIVEN ROWS OF THIS SEAT. 12 by the template 'for every input the law returns true; each argument reads behind the call as it read before'; 0 by the template 'total and deterministic' (their statements: YtegdgaldbjdcmaaTotals.lean).
  GIVEN WITH THE SEED: the statements are not yours to turn. If you find one false, say at which input.
  Laid BY PROGRAM, IN A SANDBOX (cutbox-rows.mjs): the forced cells as the released guide's own fill.sh prints them over the translation 082f94fd4685e239… (all of the seat's roots in one cut). By AI agents, Wed Nov 11 2026. No macro, syntax, notation, axiom, sorry.
-/
import Derived.Test.YtegdgaldbjdcmaaChecked
import GoSem.Claim
import GoSem.ClaimJoined
import GoSem.ClaimMapViews
import Derived.JoinedTies
import Derived.KernelRfl
namespace Go.Proofs.Ytegdgaldbjdcmaa
/- THE CELL 'sum', in the pinned program and in every row, IS THE sha256 OF THE DUMP (.gsa) THAT YtegdgaldbjdcmaaProg.lean LOADS. Nothing in Lean hashes anything: it is a label: what it is worth is what the hold of that sum in a sandbox is worth. -/
noncomputable def Try.pinned : Pinned := { name := "ytegdgaldbjdcmaa", sum := "082f94fd4685e239c1d96ebe5c331fee54e73ee9f92a9cd7acccae7f4c2b7743", checked := Try.checked }
namespace Rows
def none {H : Type} : Left H := { results := [], args := [] }

/-- 'laws.FnExactSquaresOk': WHATEVER THE INPUT: true; the input reads as it did. -/
def fnExactSquaresOkSpec : ChangeSpec := { name := "fnExactSquaresOk", fn := fun _ => fun
  | [d] => { results := [.lit (.bool true)], args := [d] }
  | _ => none }
def fnExactSquaresOkRow : OpenClaim := { program := "ytegdgaldbjdcmaa", sum := "082f94fd4685e239c1d96ebe5c331fee54e73ee9f92a9cd7acccae7f4c2b7743", func := "loop.example/divisorrows/laws.FnExactSquaresOk", spec := "fnExactSquaresOk", apart := false }
def FnExactSquaresOkSaid : Prop := fnExactSquaresOkRow.holds Try.pinned (OpenSpec.ofChange fnExactSquaresOkSpec)

/-- ITS FALSE NEIGHBOUR: 'it returns false'. Refute it at one input. -/
def fnExactSquaresOkWrong : ChangeSpec := { name := "fnExactSquaresOk", fn := fun _ => fun
  | [d] => { results := [.lit (.bool false)], args := [d] }
  | _ => none }
def FnExactSquaresOkWrongFalsely : Prop := fnExactSquaresOkRow.holds Try.pinned (OpenSpec.ofChange fnExactSquaresOkWrong)

/-- 'laws.FnLeavesSign': WHATEVER THE INPUT: true; the input reads as it did. -/
def fnLeavesSignSpec : ChangeSpec := { name := "fnLeavesSign", fn := fun _ => fun
  | [d] => { results := [.lit (.bool true)], args := [d] }
  | _ => none }
def fnLeavesSignRow : OpenClaim := { program := "ytegdgaldbjdcmaa", sum := "082f94fd4685e239c1d96ebe5c331fee54e73ee9f92a9cd7acccae7f4c2b7743", func := "loop.example/divisorrows/laws.FnLeavesSign", spec := "fnLeavesSign", apart := false }
def FnLeavesSignSaid : Prop := fnLeavesSignRow.holds Try.pinned (OpenSpec.ofChange fnLeavesSignSpec)

/-- ITS FALSE NEIGHBOUR: 'it returns false'. Refute it at one input. -/
def fnLeavesSignWrong : ChangeSpec := { name := "fnLeavesSign", fn := fun _ => fun
  | [d] => { results := [.lit (.bool false)], args := [d] }
  | _ => none }
def FnLeavesSignWrongFalsely : Prop := fnLeavesSignRow.holds Try.pinned (OpenSpec.ofChange fnLeavesSignWrong)

/-- 'laws.FnExactPrimesUpTo': WHATEVER THE INPUT: true; the input reads as it did. -/
def fnExactPrimesUpToSpec : ChangeSpec := { name := "fnExactPrimesUpTo", fn := fun _ => fun
  | [d] => { results := [.lit (.bool true)], args := [d] }
  | _ => none }
def fnExactPrimesUpToRow : OpenClaim := { program := "ytegdgaldbjdcmaa", sum := "082f94fd4685e239c1d96ebe5c331fee54e73ee9f92a9cd7acccae7f4c2b7743", func := "loop.example/divisorrows/laws.FnExactPrimesUpTo", spec := "fnExactPrimesUpTo", apart := false }
def FnExactPrimesUpToSaid : Prop := fnExactPrimesUpToRow.holds Try.pinned (OpenSpec.ofChange fnExactPrimesUpToSpec)

/-- ITS FALSE NEIGHBOUR: 'it returns false'. Refute it at one input. -/
def fnExactPrimesUpToWrong : ChangeSpec := { name := "fnExactPrimesUpTo", fn := fun _ => fun
  | [d] => { results := [.lit (.bool false)], args := [d] }
  | _ => none }
def FnExactPrimesUpToWrongFalsely : Prop := fnExactPrimesUpToRow.holds Try.pinned (OpenSpec.ofChange fnExactPrimesUpToWrong)

/-- 'laws.FnExactByDivisors': WHATEVER THE INPUT: true; the input reads as it did. -/
def fnExactByDivisorsSpec : ChangeSpec := { name := "fnExactByDivisors", fn := fun _ => fun
  | [d] => { results := [.lit (.bool true)], args := [d] }
  | _ => none }
def fnExactByDivisorsRow : OpenClaim := { program := "ytegdgaldbjdcmaa", sum := "082f94fd4685e239c1d96ebe5c331fee54e73ee9f92a9cd7acccae7f4c2b7743", func := "loop.example/divisorrows/laws.FnExactByDivisors", spec := "fnExactByDivisors", apart := false }
def FnExactByDivisorsSaid : Prop := fnExactByDivisorsRow.holds Try.pinned (OpenSpec.ofChange fnExactByDivisorsSpec)

/-- ITS FALSE NEIGHBOUR: 'it returns false'. Refute it at one input. -/
def fnExactByDivisorsWrong : ChangeSpec := { name := "fnExactByDivisors", fn := fun _ => fun
  | [d] => { results := [.lit (.bool false)], args := [d] }
  | _ => none }
def FnExactByDivisorsWrongFalsely : Prop := fnExactByDivisorsRow.holds Try.pinned (OpenSpec.ofChange fnExactByDivisorsWrong)

/-- 'laws.FnExactNotDivided': WHATEVER THE INPUT: true; the input reads as it did. -/
def fnExactNotDividedSpec : ChangeSpec := { name := "fnExactNotDivided", fn := fun _ => fun
  | [d1, d2] => { results := [.lit (.bool true)], args := [d1, d2] }
  | _ => none }
def fnExactNotDividedRow : OpenClaim := { program := "ytegdgaldbjdcmaa", sum := "082f94fd4685e239c1d96ebe5c331fee54e73ee9f92a9cd7acccae7f4c2b7743", func := "loop.example/divisorrows/laws.FnExactNotDivided", spec := "fnExactNotDivided", unfollowed := true, recurses := true, apart := false }
def FnExactNotDividedSaid : Prop := fnExactNotDividedRow.holds Try.pinned (OpenSpec.ofChange fnExactNotDividedSpec)

/-- ITS FALSE NEIGHBOUR: 'it returns false'. Refute it at one input. -/
def fnExactNotDividedWrong : ChangeSpec := { name := "fnExactNotDivided", fn := fun _ => fun
  | [d1, d2] => { results := [.lit (.bool false)], args := [d1, d2] }
  | _ => none }
def FnExactNotDividedWrongFalsely : Prop := fnExactNotDividedRow.holds Try.pinned (OpenSpec.ofChange fnExactNotDividedWrong)

/-- 'laws.FnCrossedOf': WHATEVER THE INPUT: true; the input reads as it did. -/
def fnCrossedOfSpec : ChangeSpec := { name := "fnCrossedOf", fn := fun _ => fun
  | [d] => { results := [.lit (.bool true)], args := [d] }
  | _ => none }
def fnCrossedOfRow : OpenClaim := { program := "ytegdgaldbjdcmaa", sum := "082f94fd4685e239c1d96ebe5c331fee54e73ee9f92a9cd7acccae7f4c2b7743", func := "loop.example/divisorrows/laws.FnCrossedOf", spec := "fnCrossedOf", apart := false }
def FnCrossedOfSaid : Prop := fnCrossedOfRow.holds Try.pinned (OpenSpec.ofChange fnCrossedOfSpec)

/-- ITS FALSE NEIGHBOUR: 'it returns false'. Refute it at one input. -/
def fnCrossedOfWrong : ChangeSpec := { name := "fnCrossedOf", fn := fun _ => fun
  | [d] => { results := [.lit (.bool false)], args := [d] }
  | _ => none }
def FnCrossedOfWrongFalsely : Prop := fnCrossedOfRow.holds Try.pinned (OpenSpec.ofChange fnCrossedOfWrong)

/-- 'laws.FnExactApartSums': WHATEVER THE INPUT: true; the input reads as it did. -/
def fnExactApartSumsSpec : ChangeSpec := { name := "fnExactApartSums", fn := fun _ => fun
  | [d] => { results := [.lit (.bool true)], args := [d] }
  | _ => none }
def fnExactApartSumsRow : OpenClaim := { program := "ytegdgaldbjdcmaa", sum := "082f94fd4685e239c1d96ebe5c331fee54e73ee9f92a9cd7acccae7f4c2b7743", func := "loop.example/divisorrows/laws.FnExactApartSums", spec := "fnExactApartSums", unfollowed := true, recurses := true, apart := false }
def FnExactApartSumsSaid : Prop := fnExactApartSumsRow.holds Try.pinned (OpenSpec.ofChange fnExactApartSumsSpec)

/-- ITS FALSE NEIGHBOUR: 'it returns false'. Refute it at one input. -/
def fnExactApartSumsWrong : ChangeSpec := { name := "fnExactApartSums", fn := fun _ => fun
  | [d] => { results := [.lit (.bool false)], args := [d] }
  | _ => none }
def FnExactApartSumsWrongFalsely : Prop := fnExactApartSumsRow.holds Try.pinned (OpenSpec.ofChange fnExactApartSumsWrong)

/-- 'laws.FnDivisorsUpTo': WHATEVER THE INPUT: true; the input reads as it did. -/
def fnDivisorsUpToSpec : ChangeSpec := { name := "fnDivisorsUpTo", fn := fun _ => fun
  | [d] => { results := [.lit (.bool true)], args := [d] }
  | _ => none }
def fnDivisorsUpToRow : OpenClaim := { program := "ytegdgaldbjdcmaa", sum := "082f94fd4685e239c1d96ebe5c331fee54e73ee9f92a9cd7acccae7f4c2b7743", func := "loop.example/divisorrows/laws.FnDivisorsUpTo", spec := "fnDivisorsUpTo", apart := false }
def FnDivisorsUpToSaid : Prop := fnDivisorsUpToRow.holds Try.pinned (OpenSpec.ofChange fnDivisorsUpToSpec)

/-- ITS FALSE NEIGHBOUR: 'it returns false'. Refute it at one input. -/
def fnDivisorsUpToWrong : ChangeSpec := { name := "fnDivisorsUpTo", fn := fun _ => fun
  | [d] => { results := [.lit (.bool false)], args := [d] }
  | _ => none }
def FnDivisorsUpToWrongFalsely : Prop := fnDivisorsUpToRow.holds Try.pinned (OpenSpec.ofChange fnDivisorsUpToWrong)

/-- 'laws.FnSumsUpTo': WHATEVER THE INPUT: true; the input reads as it did. -/
def fnSumsUpToSpec : ChangeSpec := { name := "fnSumsUpTo", fn := fun _ => fun
  | [d] => { results := [.lit (.bool true)], args := [d] }
  | _ => none }
def fnSumsUpToRow : OpenClaim := { program := "ytegdgaldbjdcmaa", sum := "082f94fd4685e239c1d96ebe5c331fee54e73ee9f92a9cd7acccae7f4c2b7743", func := "loop.example/divisorrows/laws.FnSumsUpTo", spec := "fnSumsUpTo", unfollowed := true, recurses := true, apart := false }
def FnSumsUpToSaid : Prop := fnSumsUpToRow.holds Try.pinned (OpenSpec.ofChange fnSumsUpToSpec)

/-- ITS FALSE NEIGHBOUR: 'it returns false'. Refute it at one input. -/
def fnSumsUpToWrong : ChangeSpec := { name := "fnSumsUpTo", fn := fun _ => fun
  | [d] => { results := [.lit (.bool false)], args := [d] }
  | _ => none }
def FnSumsUpToWrongFalsely : Prop := fnSumsUpToRow.holds Try.pinned (OpenSpec.ofChange fnSumsUpToWrong)

/-- 'laws.FnNotDivided': WHATEVER THE INPUT: true; the input reads as it did. -/
def fnNotDividedSpec : ChangeSpec := { name := "fnNotDivided", fn := fun _ => fun
  | [d] => { results := [.lit (.bool true)], args := [d] }
  | _ => none }
def fnNotDividedRow : OpenClaim := { program := "ytegdgaldbjdcmaa", sum := "082f94fd4685e239c1d96ebe5c331fee54e73ee9f92a9cd7acccae7f4c2b7743", func := "loop.example/divisorrows/laws.FnNotDivided", spec := "fnNotDivided", unfollowed := true, recurses := true, apart := false }
def FnNotDividedSaid : Prop := fnNotDividedRow.holds Try.pinned (OpenSpec.ofChange fnNotDividedSpec)

/-- ITS FALSE NEIGHBOUR: 'it returns false'. Refute it at one input. -/
def fnNotDividedWrong : ChangeSpec := { name := "fnNotDivided", fn := fun _ => fun
  | [d] => { results := [.lit (.bool false)], args := [d] }
  | _ => none }
def FnNotDividedWrongFalsely : Prop := fnNotDividedRow.holds Try.pinned (OpenSpec.ofChange fnNotDividedWrong)

/-- 'laws.FnFirstSquares': WHATEVER THE INPUT: true; the input reads as it did. -/
def fnFirstSquaresSpec : ChangeSpec := { name := "fnFirstSquares", fn := fun _ => fun
  | [d] => { results := [.lit (.bool true)], args := [d] }
  | _ => none }
def fnFirstSquaresRow : OpenClaim := { program := "ytegdgaldbjdcmaa", sum := "082f94fd4685e239c1d96ebe5c331fee54e73ee9f92a9cd7acccae7f4c2b7743", func := "loop.example/divisorrows/laws.FnFirstSquares", spec := "fnFirstSquares", apart := false }
def FnFirstSquaresSaid : Prop := fnFirstSquaresRow.holds Try.pinned (OpenSpec.ofChange fnFirstSquaresSpec)

/-- ITS FALSE NEIGHBOUR: 'it returns false'. Refute it at one input. -/
def fnFirstSquaresWrong : ChangeSpec := { name := "fnFirstSquares", fn := fun _ => fun
  | [d] => { results := [.lit (.bool false)], args := [d] }
  | _ => none }
def FnFirstSquaresWrongFalsely : Prop := fnFirstSquaresRow.holds Try.pinned (OpenSpec.ofChange fnFirstSquaresWrong)

/-- 'laws.FnByDivisors': WHATEVER THE INPUT: true; the input reads as it did. -/
def fnByDivisorsSpec : ChangeSpec := { name := "fnByDivisors", fn := fun _ => fun
  | [d] => { results := [.lit (.bool true)], args := [d] }
  | _ => none }
def fnByDivisorsRow : OpenClaim := { program := "ytegdgaldbjdcmaa", sum := "082f94fd4685e239c1d96ebe5c331fee54e73ee9f92a9cd7acccae7f4c2b7743", func := "loop.example/divisorrows/laws.FnByDivisors", spec := "fnByDivisors", apart := false }
def FnByDivisorsSaid : Prop := fnByDivisorsRow.holds Try.pinned (OpenSpec.ofChange fnByDivisorsSpec)

/-- ITS FALSE NEIGHBOUR: 'it returns false'. Refute it at one input. -/
def fnByDivisorsWrong : ChangeSpec := { name := "fnByDivisors", fn := fun _ => fun
  | [d] => { results := [.lit (.bool false)], args := [d] }
  | _ => none }
def FnByDivisorsWrongFalsely : Prop := fnByDivisorsRow.holds Try.pinned (OpenSpec.ofChange fnByDivisorsWrong)

/- THE SECOND FORM. 'bulk': how many values and letters a reading holds, each counted each time it is reached (what is shared counts as often as it is met; a slice's spare places count too). A statement '..UptoSaid' is the law's where the arguments, and the package variables that the reading takes, are together of bulk at most 1048576: NARROWER than '..Said'. Prove '..Said' where nothing that the law and all that it calls make is longer than what came in: it says more and counts as full. Else prove '..UptoSaid'. A law counts once. -/
mutual
def uptoBulk {H : Type} : DataW H → Nat
  | .lit (.string bytes) => bytes.length + 1
  | .lit _ => 1
  | .nil => 1
  | .ptr d => uptoBulk d + 1
  | .slice elems spare => uptoBulkAll elems + uptoBulkAll spare + 1
  | .agg parts => uptoBulkAll parts + 1
  | .iface _ d => uptoBulk d + 1
  | .map entries => uptoBulkEntries entries + 1
  | .held _ => 1
def uptoBulkAll {H : Type} : List (DataW H) → Nat
  | [] => 0
  | d :: r => uptoBulk d + uptoBulkAll r
def uptoBulkEntries {H : Type} : List (Lit × DataW H) → Nat
  | [] => 0
  | x :: r => uptoBulkEntry x + uptoBulkEntries r
def uptoBulkEntry {H : Type} : Lit × DataW H → Nat
  | (.string bytes, d) => bytes.length + uptoBulk d + 1
  | (_, d) => uptoBulk d + 1
 end
def uptoSmall : (H : Type) → List (DataW H) → Bool := fun _ ds => decide (uptoBulkAll ds ≤ 1048576)
def OpenSpec.upto (s : _root_.Go.ChangeSpec) : _root_.Go.OpenSpec := { _root_.Go.OpenSpec.ofChange s with cond := some uptoSmall }

/-- 'laws.FnExactSquaresOk', WHERE WHAT IT READS IS OF BULK AT MOST 1048576: true; the input reads as it did. -/
def fnExactSquaresOkUptoRow : OpenClaim := { program := "ytegdgaldbjdcmaa", sum := "082f94fd4685e239c1d96ebe5c331fee54e73ee9f92a9cd7acccae7f4c2b7743", func := "loop.example/divisorrows/laws.FnExactSquaresOk", spec := "fnExactSquaresOk", apart := false, narrowed := true }
def FnExactSquaresOkUptoSaid : Prop := fnExactSquaresOkUptoRow.holds Try.pinned (OpenSpec.upto fnExactSquaresOkSpec)

/-- 'laws.FnLeavesSign', WHERE WHAT IT READS IS OF BULK AT MOST 1048576: true; the input reads as it did. -/
def fnLeavesSignUptoRow : OpenClaim := { program := "ytegdgaldbjdcmaa", sum := "082f94fd4685e239c1d96ebe5c331fee54e73ee9f92a9cd7acccae7f4c2b7743", func := "loop.example/divisorrows/laws.FnLeavesSign", spec := "fnLeavesSign", apart := false, narrowed := true }
def FnLeavesSignUptoSaid : Prop := fnLeavesSignUptoRow.holds Try.pinned (OpenSpec.upto fnLeavesSignSpec)

/-- 'laws.FnExactPrimesUpTo', WHERE WHAT IT READS IS OF BULK AT MOST 1048576: true; the input reads as it did. -/
def fnExactPrimesUpToUptoRow : OpenClaim := { program := "ytegdgaldbjdcmaa", sum := "082f94fd4685e239c1d96ebe5c331fee54e73ee9f92a9cd7acccae7f4c2b7743", func := "loop.example/divisorrows/laws.FnExactPrimesUpTo", spec := "fnExactPrimesUpTo", apart := false, narrowed := true }
def FnExactPrimesUpToUptoSaid : Prop := fnExactPrimesUpToUptoRow.holds Try.pinned (OpenSpec.upto fnExactPrimesUpToSpec)

/-- 'laws.FnExactByDivisors', WHERE WHAT IT READS IS OF BULK AT MOST 1048576: true; the input reads as it did. -/
def fnExactByDivisorsUptoRow : OpenClaim := { program := "ytegdgaldbjdcmaa", sum := "082f94fd4685e239c1d96ebe5c331fee54e73ee9f92a9cd7acccae7f4c2b7743", func := "loop.example/divisorrows/laws.FnExactByDivisors", spec := "fnExactByDivisors", apart := false, narrowed := true }
def FnExactByDivisorsUptoSaid : Prop := fnExactByDivisorsUptoRow.holds Try.pinned (OpenSpec.upto fnExactByDivisorsSpec)

/-- 'laws.FnExactNotDivided', WHERE WHAT IT READS IS OF BULK AT MOST 1048576: true; the input reads as it did. -/
def fnExactNotDividedUptoRow : OpenClaim := { program := "ytegdgaldbjdcmaa", sum := "082f94fd4685e239c1d96ebe5c331fee54e73ee9f92a9cd7acccae7f4c2b7743", func := "loop.example/divisorrows/laws.FnExactNotDivided", spec := "fnExactNotDivided", unfollowed := true, recurses := true, apart := false, narrowed := true }
def FnExactNotDividedUptoSaid : Prop := fnExactNotDividedUptoRow.holds Try.pinned (OpenSpec.upto fnExactNotDividedSpec)

/-- 'laws.FnCrossedOf', WHERE WHAT IT READS IS OF BULK AT MOST 1048576: true; the input reads as it did. -/
def fnCrossedOfUptoRow : OpenClaim := { program := "ytegdgaldbjdcmaa", sum := "082f94fd4685e239c1d96ebe5c331fee54e73ee9f92a9cd7acccae7f4c2b7743", func := "loop.example/divisorrows/laws.FnCrossedOf", spec := "fnCrossedOf", apart := false, narrowed := true }
def FnCrossedOfUptoSaid : Prop := fnCrossedOfUptoRow.holds Try.pinned (OpenSpec.upto fnCrossedOfSpec)

/-- 'laws.FnExactApartSums', WHERE WHAT IT READS IS OF BULK AT MOST 1048576: true; the input reads as it did. -/
def fnExactApartSumsUptoRow : OpenClaim := { program := "ytegdgaldbjdcmaa", sum := "082f94fd4685e239c1d96ebe5c331fee54e73ee9f92a9cd7acccae7f4c2b7743", func := "loop.example/divisorrows/laws.FnExactApartSums", spec := "fnExactApartSums", unfollowed := true, recurses := true, apart := false, narrowed := true }
def FnExactApartSumsUptoSaid : Prop := fnExactApartSumsUptoRow.holds Try.pinned (OpenSpec.upto fnExactApartSumsSpec)

/-- 'laws.FnDivisorsUpTo', WHERE WHAT IT READS IS OF BULK AT MOST 1048576: true; the input reads as it did. -/
def fnDivisorsUpToUptoRow : OpenClaim := { program := "ytegdgaldbjdcmaa", sum := "082f94fd4685e239c1d96ebe5c331fee54e73ee9f92a9cd7acccae7f4c2b7743", func := "loop.example/divisorrows/laws.FnDivisorsUpTo", spec := "fnDivisorsUpTo", apart := false, narrowed := true }
def FnDivisorsUpToUptoSaid : Prop := fnDivisorsUpToUptoRow.holds Try.pinned (OpenSpec.upto fnDivisorsUpToSpec)

/-- 'laws.FnSumsUpTo', WHERE WHAT IT READS IS OF BULK AT MOST 1048576: true; the input reads as it did. -/
def fnSumsUpToUptoRow : OpenClaim := { program := "ytegdgaldbjdcmaa", sum := "082f94fd4685e239c1d96ebe5c331fee54e73ee9f92a9cd7acccae7f4c2b7743", func := "loop.example/divisorrows/laws.FnSumsUpTo", spec := "fnSumsUpTo", unfollowed := true, recurses := true, apart := false, narrowed := true }
def FnSumsUpToUptoSaid : Prop := fnSumsUpToUptoRow.holds Try.pinned (OpenSpec.upto fnSumsUpToSpec)

/-- 'laws.FnNotDivided', WHERE WHAT IT READS IS OF BULK AT MOST 1048576: true; the input reads as it did. -/
def fnNotDividedUptoRow : OpenClaim := { program := "ytegdgaldbjdcmaa", sum := "082f94fd4685e239c1d96ebe5c331fee54e73ee9f92a9cd7acccae7f4c2b7743", func := "loop.example/divisorrows/laws.FnNotDivided", spec := "fnNotDivided", unfollowed := true, recurses := true, apart := false, narrowed := true }
def FnNotDividedUptoSaid : Prop := fnNotDividedUptoRow.holds Try.pinned (OpenSpec.upto fnNotDividedSpec)

/-- 'laws.FnFirstSquares', WHERE WHAT IT READS IS OF BULK AT MOST 1048576: true; the input reads as it did. -/
def fnFirstSquaresUptoRow : OpenClaim := { program := "ytegdgaldbjdcmaa", sum := "082f94fd4685e239c1d96ebe5c331fee54e73ee9f92a9cd7acccae7f4c2b7743", func := "loop.example/divisorrows/laws.FnFirstSquares", spec := "fnFirstSquares", apart := false, narrowed := true }
def FnFirstSquaresUptoSaid : Prop := fnFirstSquaresUptoRow.holds Try.pinned (OpenSpec.upto fnFirstSquaresSpec)

/-- 'laws.FnByDivisors', WHERE WHAT IT READS IS OF BULK AT MOST 1048576: true; the input reads as it did. -/
def fnByDivisorsUptoRow : OpenClaim := { program := "ytegdgaldbjdcmaa", sum := "082f94fd4685e239c1d96ebe5c331fee54e73ee9f92a9cd7acccae7f4c2b7743", func := "loop.example/divisorrows/laws.FnByDivisors", spec := "fnByDivisors", apart := false, narrowed := true }
def FnByDivisorsUptoSaid : Prop := fnByDivisorsUptoRow.holds Try.pinned (OpenSpec.upto fnByDivisorsSpec)

end Rows
end Go.Proofs.Ytegdgaldbjdcmaa
