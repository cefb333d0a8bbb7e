/-
  No cell of these rows narrows 'for every input' (looked for: loops, veiled, ifaces, maps, wideKeys, modest, calm, conditions, laid).
  DERIVED. THE GIVEN ROWS OF THIS SEAT. 12 by the template 'for every input the law returns true; each argument reads behind the call as it read before'; 0 by the template 'total and deterministic' (their statements: YtijgepnmcoicgaaTotals.lean).
  GIVEN WITH THE SEED: the statements are not yours to turn. If you find one false, say at which input.
  Laid BY PROGRAM, IN A SANDBOX (cutbox-rows.mjs): the forced cells as the released guide's own fill.sh prints them over the translation 5ea1911b134f4771… (all of the seat's roots in one cut). By AI agents, Wed Nov 11 2026. No macro, syntax, notation, axiom, sorry.
-/
import Derived.Test.YtijgepnmcoicgaaChecked
import GoSem.Claim
import GoSem.ClaimJoined
import GoSem.ClaimMapViews
import Derived.JoinedTies
import Derived.KernelRfl
namespace Go.Proofs.Ytijgepnmcoicgaa
/- THE CELL 'sum', in the pinned program and in every row, IS THE sha256 OF THE DUMP (.gsa) THAT YtijgepnmcoicgaaProg.lean LOADS. Nothing in Lean hashes anything: it is a label: what it is worth is what the hold of that sum in a sandbox is worth. -/
noncomputable def Try.pinned : Pinned := { name := "ytijgepnmcoicgaa", sum := "5ea1911b134f477199eedb98a5d6ee120cc296584dd6ee631f39e01e293565b5", checked := Try.checked }
namespace Rows
def none {H : Type} : Left H := { results := [], args := [] }

/-- 'laws.FnPrimesUpTo': WHATEVER THE INPUT: true; the input reads as it did. -/
def fnPrimesUpToSpec : ChangeSpec := { name := "fnPrimesUpTo", fn := fun _ => fun
  | [d] => { results := [.lit (.bool true)], args := [d] }
  | _ => none }
def fnPrimesUpToRow : OpenClaim := { program := "ytijgepnmcoicgaa", sum := "5ea1911b134f477199eedb98a5d6ee120cc296584dd6ee631f39e01e293565b5", func := "loop.example/divisorrows/laws.FnPrimesUpTo", spec := "fnPrimesUpTo", unfollowed := true, recurses := true, apart := false }
def FnPrimesUpToSaid : Prop := fnPrimesUpToRow.holds Try.pinned (OpenSpec.ofChange fnPrimesUpToSpec)

/-- ITS FALSE NEIGHBOUR: 'it returns false'. Refute it at one input. -/
def fnPrimesUpToWrong : ChangeSpec := { name := "fnPrimesUpTo", fn := fun _ => fun
  | [d] => { results := [.lit (.bool false)], args := [d] }
  | _ => none }
def FnPrimesUpToWrongFalsely : Prop := fnPrimesUpToRow.holds Try.pinned (OpenSpec.ofChange fnPrimesUpToWrong)

/-- 'laws.FnCountSquares': WHATEVER THE INPUT: true; the input reads as it did. -/
def fnCountSquaresSpec : ChangeSpec := { name := "fnCountSquares", fn := fun _ => fun
  | [d] => { results := [.lit (.bool true)], args := [d] }
  | _ => none }
def fnCountSquaresRow : OpenClaim := { program := "ytijgepnmcoicgaa", sum := "5ea1911b134f477199eedb98a5d6ee120cc296584dd6ee631f39e01e293565b5", func := "loop.example/divisorrows/laws.FnCountSquares", spec := "fnCountSquares", apart := false }
def FnCountSquaresSaid : Prop := fnCountSquaresRow.holds Try.pinned (OpenSpec.ofChange fnCountSquaresSpec)

/-- ITS FALSE NEIGHBOUR: 'it returns false'. Refute it at one input. -/
def fnCountSquaresWrong : ChangeSpec := { name := "fnCountSquares", fn := fun _ => fun
  | [d] => { results := [.lit (.bool false)], args := [d] }
  | _ => none }
def FnCountSquaresWrongFalsely : Prop := fnCountSquaresRow.holds Try.pinned (OpenSpec.ofChange fnCountSquaresWrong)

/-- 'laws.FnApartSums': WHATEVER THE INPUT: true; the input reads as it did. -/
def fnApartSumsSpec : ChangeSpec := { name := "fnApartSums", fn := fun _ => fun
  | [d] => { results := [.lit (.bool true)], args := [d] }
  | _ => none }
def fnApartSumsRow : OpenClaim := { program := "ytijgepnmcoicgaa", sum := "5ea1911b134f477199eedb98a5d6ee120cc296584dd6ee631f39e01e293565b5", func := "loop.example/divisorrows/laws.FnApartSums", spec := "fnApartSums", unfollowed := true, recurses := true, apart := false }
def FnApartSumsSaid : Prop := fnApartSumsRow.holds Try.pinned (OpenSpec.ofChange fnApartSumsSpec)

/-- ITS FALSE NEIGHBOUR: 'it returns false'. Refute it at one input. -/
def fnApartSumsWrong : ChangeSpec := { name := "fnApartSums", fn := fun _ => fun
  | [d] => { results := [.lit (.bool false)], args := [d] }
  | _ => none }
def FnApartSumsWrongFalsely : Prop := fnApartSumsRow.holds Try.pinned (OpenSpec.ofChange fnApartSumsWrong)

/-- 'laws.FnExactSignsUpTo': WHATEVER THE INPUT: true; the input reads as it did. -/
def fnExactSignsUpToSpec : ChangeSpec := { name := "fnExactSignsUpTo", fn := fun _ => fun
  | [d] => { results := [.lit (.bool true)], args := [d] }
  | _ => none }
def fnExactSignsUpToRow : OpenClaim := { program := "ytijgepnmcoicgaa", sum := "5ea1911b134f477199eedb98a5d6ee120cc296584dd6ee631f39e01e293565b5", func := "loop.example/divisorrows/laws.FnExactSignsUpTo", spec := "fnExactSignsUpTo", unfollowed := true, recurses := true, apart := false }
def FnExactSignsUpToSaid : Prop := fnExactSignsUpToRow.holds Try.pinned (OpenSpec.ofChange fnExactSignsUpToSpec)

/-- ITS FALSE NEIGHBOUR: 'it returns false'. Refute it at one input. -/
def fnExactSignsUpToWrong : ChangeSpec := { name := "fnExactSignsUpTo", fn := fun _ => fun
  | [d] => { results := [.lit (.bool false)], args := [d] }
  | _ => none }
def FnExactSignsUpToWrongFalsely : Prop := fnExactSignsUpToRow.holds Try.pinned (OpenSpec.ofChange fnExactSignsUpToWrong)

/-- 'laws.FnExactPairsApart': WHATEVER THE INPUT: true; the input reads as it did. -/
def fnExactPairsApartSpec : ChangeSpec := { name := "fnExactPairsApart", fn := fun _ => fun
  | [d] => { results := [.lit (.bool true)], args := [d] }
  | _ => none }
def fnExactPairsApartRow : OpenClaim := { program := "ytijgepnmcoicgaa", sum := "5ea1911b134f477199eedb98a5d6ee120cc296584dd6ee631f39e01e293565b5", func := "loop.example/divisorrows/laws.FnExactPairsApart", spec := "fnExactPairsApart", unfollowed := true, recurses := true, apart := false }
def FnExactPairsApartSaid : Prop := fnExactPairsApartRow.holds Try.pinned (OpenSpec.ofChange fnExactPairsApartSpec)

/-- ITS FALSE NEIGHBOUR: 'it returns false'. Refute it at one input. -/
def fnExactPairsApartWrong : ChangeSpec := { name := "fnExactPairsApart", fn := fun _ => fun
  | [d] => { results := [.lit (.bool false)], args := [d] }
  | _ => none }
def FnExactPairsApartWrongFalsely : Prop := fnExactPairsApartRow.holds Try.pinned (OpenSpec.ofChange fnExactPairsApartWrong)

/-- 'laws.FnSquaresOk': WHATEVER THE INPUT: true; the input reads as it did. -/
def fnSquaresOkSpec : ChangeSpec := { name := "fnSquaresOk", fn := fun _ => fun
  | [d] => { results := [.lit (.bool true)], args := [d] }
  | _ => none }
def fnSquaresOkRow : OpenClaim := { program := "ytijgepnmcoicgaa", sum := "5ea1911b134f477199eedb98a5d6ee120cc296584dd6ee631f39e01e293565b5", func := "loop.example/divisorrows/laws.FnSquaresOk", spec := "fnSquaresOk", apart := false }
def FnSquaresOkSaid : Prop := fnSquaresOkRow.holds Try.pinned (OpenSpec.ofChange fnSquaresOkSpec)

/-- ITS FALSE NEIGHBOUR: 'it returns false'. Refute it at one input. -/
def fnSquaresOkWrong : ChangeSpec := { name := "fnSquaresOk", fn := fun _ => fun
  | [d] => { results := [.lit (.bool false)], args := [d] }
  | _ => none }
def FnSquaresOkWrongFalsely : Prop := fnSquaresOkRow.holds Try.pinned (OpenSpec.ofChange fnSquaresOkWrong)

/-- 'laws.FnExactSumFor': WHATEVER THE INPUT: true; the input reads as it did. -/
def fnExactSumForSpec : ChangeSpec := { name := "fnExactSumFor", fn := fun _ => fun
  | [d1, d2] => { results := [.lit (.bool true)], args := [d1, d2] }
  | _ => none }
def fnExactSumForRow : OpenClaim := { program := "ytijgepnmcoicgaa", sum := "5ea1911b134f477199eedb98a5d6ee120cc296584dd6ee631f39e01e293565b5", func := "loop.example/divisorrows/laws.FnExactSumFor", spec := "fnExactSumFor", apart := false }
def FnExactSumForSaid : Prop := fnExactSumForRow.holds Try.pinned (OpenSpec.ofChange fnExactSumForSpec)

/-- ITS FALSE NEIGHBOUR: 'it returns false'. Refute it at one input. -/
def fnExactSumForWrong : ChangeSpec := { name := "fnExactSumFor", fn := fun _ => fun
  | [d1, d2] => { results := [.lit (.bool false)], args := [d1, d2] }
  | _ => none }
def FnExactSumForWrongFalsely : Prop := fnExactSumForRow.holds Try.pinned (OpenSpec.ofChange fnExactSumForWrong)

/-- 'laws.FnExactOverPeriod': WHATEVER THE INPUT: true; the input reads as it did. -/
def fnExactOverPeriodSpec : ChangeSpec := { name := "fnExactOverPeriod", fn := fun _ => fun
  | [d1, d2] => { results := [.lit (.bool true)], args := [d1, d2] }
  | _ => none }
def fnExactOverPeriodRow : OpenClaim := { program := "ytijgepnmcoicgaa", sum := "5ea1911b134f477199eedb98a5d6ee120cc296584dd6ee631f39e01e293565b5", func := "loop.example/divisorrows/laws.FnExactOverPeriod", spec := "fnExactOverPeriod", apart := false }
def FnExactOverPeriodSaid : Prop := fnExactOverPeriodRow.holds Try.pinned (OpenSpec.ofChange fnExactOverPeriodSpec)

/-- ITS FALSE NEIGHBOUR: 'it returns false'. Refute it at one input. -/
def fnExactOverPeriodWrong : ChangeSpec := { name := "fnExactOverPeriod", fn := fun _ => fun
  | [d1, d2] => { results := [.lit (.bool false)], args := [d1, d2] }
  | _ => none }
def FnExactOverPeriodWrongFalsely : Prop := fnExactOverPeriodRow.holds Try.pinned (OpenSpec.ofChange fnExactOverPeriodWrong)

/-- 'laws.FnSignsUpTo': WHATEVER THE INPUT: true; the input reads as it did. -/
def fnSignsUpToSpec : ChangeSpec := { name := "fnSignsUpTo", fn := fun _ => fun
  | [d] => { results := [.lit (.bool true)], args := [d] }
  | _ => none }
def fnSignsUpToRow : OpenClaim := { program := "ytijgepnmcoicgaa", sum := "5ea1911b134f477199eedb98a5d6ee120cc296584dd6ee631f39e01e293565b5", func := "loop.example/divisorrows/laws.FnSignsUpTo", spec := "fnSignsUpTo", unfollowed := true, recurses := true, apart := false }
def FnSignsUpToSaid : Prop := fnSignsUpToRow.holds Try.pinned (OpenSpec.ofChange fnSignsUpToSpec)

/-- ITS FALSE NEIGHBOUR: 'it returns false'. Refute it at one input. -/
def fnSignsUpToWrong : ChangeSpec := { name := "fnSignsUpTo", fn := fun _ => fun
  | [d] => { results := [.lit (.bool false)], args := [d] }
  | _ => none }
def FnSignsUpToWrongFalsely : Prop := fnSignsUpToRow.holds Try.pinned (OpenSpec.ofChange fnSignsUpToWrong)

/-- 'laws.FnPairsApart': WHATEVER THE INPUT: true; the input reads as it did. -/
def fnPairsApartSpec : ChangeSpec := { name := "fnPairsApart", fn := fun _ => fun
  | [d] => { results := [.lit (.bool true)], args := [d] }
  | _ => none }
def fnPairsApartRow : OpenClaim := { program := "ytijgepnmcoicgaa", sum := "5ea1911b134f477199eedb98a5d6ee120cc296584dd6ee631f39e01e293565b5", func := "loop.example/divisorrows/laws.FnPairsApart", spec := "fnPairsApart", unfollowed := true, recurses := true, apart := false }
def FnPairsApartSaid : Prop := fnPairsApartRow.holds Try.pinned (OpenSpec.ofChange fnPairsApartSpec)

/-- ITS FALSE NEIGHBOUR: 'it returns false'. Refute it at one input. -/
def fnPairsApartWrong : ChangeSpec := { name := "fnPairsApart", fn := fun _ => fun
  | [d] => { results := [.lit (.bool false)], args := [d] }
  | _ => none }
def FnPairsApartWrongFalsely : Prop := fnPairsApartRow.holds Try.pinned (OpenSpec.ofChange fnPairsApartWrong)

/-- 'laws.FnSumFor': WHATEVER THE INPUT: true; the input reads as it did. -/
def fnSumForSpec : ChangeSpec := { name := "fnSumFor", fn := fun _ => fun
  | [d] => { results := [.lit (.bool true)], args := [d] }
  | _ => none }
def fnSumForRow : OpenClaim := { program := "ytijgepnmcoicgaa", sum := "5ea1911b134f477199eedb98a5d6ee120cc296584dd6ee631f39e01e293565b5", func := "loop.example/divisorrows/laws.FnSumFor", spec := "fnSumFor", apart := false }
def FnSumForSaid : Prop := fnSumForRow.holds Try.pinned (OpenSpec.ofChange fnSumForSpec)

/-- ITS FALSE NEIGHBOUR: 'it returns false'. Refute it at one input. -/
def fnSumForWrong : ChangeSpec := { name := "fnSumFor", fn := fun _ => fun
  | [d] => { results := [.lit (.bool false)], args := [d] }
  | _ => none }
def FnSumForWrongFalsely : Prop := fnSumForRow.holds Try.pinned (OpenSpec.ofChange fnSumForWrong)

/-- 'laws.FnOverPeriod': WHATEVER THE INPUT: true; the input reads as it did. -/
def fnOverPeriodSpec : ChangeSpec := { name := "fnOverPeriod", fn := fun _ => fun
  | [d] => { results := [.lit (.bool true)], args := [d] }
  | _ => none }
def fnOverPeriodRow : OpenClaim := { program := "ytijgepnmcoicgaa", sum := "5ea1911b134f477199eedb98a5d6ee120cc296584dd6ee631f39e01e293565b5", func := "loop.example/divisorrows/laws.FnOverPeriod", spec := "fnOverPeriod", apart := false }
def FnOverPeriodSaid : Prop := fnOverPeriodRow.holds Try.pinned (OpenSpec.ofChange fnOverPeriodSpec)

/-- ITS FALSE NEIGHBOUR: 'it returns false'. Refute it at one input. -/
def fnOverPeriodWrong : ChangeSpec := { name := "fnOverPeriod", fn := fun _ => fun
  | [d] => { results := [.lit (.bool false)], args := [d] }
  | _ => none }
def FnOverPeriodWrongFalsely : Prop := fnOverPeriodRow.holds Try.pinned (OpenSpec.ofChange fnOverPeriodWrong)

/- THE SECOND FORM. 'bulk': how many values and letters a reading holds, each counted each time it is reached (what is shared counts as often as it is met; a slice's spare places count too). A statement '..UptoSaid' is the law's where the arguments, and the package variables that the reading takes, are together of bulk at most 1048576: NARROWER than '..Said'. Prove '..Said' where nothing that the law and all that it calls make is longer than what came in: it says more and counts as full. Else prove '..UptoSaid'. A law counts once. -/
mutual
def uptoBulk {H : Type} : DataW H → Nat
  | .lit (.string bytes) => bytes.length + 1
  | .lit _ => 1
  | .nil => 1
  | .ptr d => uptoBulk d + 1
  | .slice elems spare => uptoBulkAll elems + uptoBulkAll spare + 1
  | .agg parts => uptoBulkAll parts + 1
  | .iface _ d => uptoBulk d + 1
  | .map entries => uptoBulkEntries entries + 1
  | .held _ => 1
def uptoBulkAll {H : Type} : List (DataW H) → Nat
  | [] => 0
  | d :: r => uptoBulk d + uptoBulkAll r
def uptoBulkEntries {H : Type} : List (Lit × DataW H) → Nat
  | [] => 0
  | x :: r => uptoBulkEntry x + uptoBulkEntries r
def uptoBulkEntry {H : Type} : Lit × DataW H → Nat
  | (.string bytes, d) => bytes.length + uptoBulk d + 1
  | (_, d) => uptoBulk d + 1
 end
def uptoSmall : (H : Type) → List (DataW H) → Bool := fun _ ds => decide (uptoBulkAll ds ≤ 1048576)
def OpenSpec.upto (s : _root_.Go.ChangeSpec) : _root_.Go.OpenSpec := { _root_.Go.OpenSpec.ofChange s with cond := some uptoSmall }

/-- 'laws.FnPrimesUpTo', WHERE WHAT IT READS IS OF BULK AT MOST 1048576: true; the input reads as it did. -/
def fnPrimesUpToUptoRow : OpenClaim := { program := "ytijgepnmcoicgaa", sum := "5ea1911b134f477199eedb98a5d6ee120cc296584dd6ee631f39e01e293565b5", func := "loop.example/divisorrows/laws.FnPrimesUpTo", spec := "fnPrimesUpTo", unfollowed := true, recurses := true, apart := false, narrowed := true }
def FnPrimesUpToUptoSaid : Prop := fnPrimesUpToUptoRow.holds Try.pinned (OpenSpec.upto fnPrimesUpToSpec)

/-- 'laws.FnCountSquares', WHERE WHAT IT READS IS OF BULK AT MOST 1048576: true; the input reads as it did. -/
def fnCountSquaresUptoRow : OpenClaim := { program := "ytijgepnmcoicgaa", sum := "5ea1911b134f477199eedb98a5d6ee120cc296584dd6ee631f39e01e293565b5", func := "loop.example/divisorrows/laws.FnCountSquares", spec := "fnCountSquares", apart := false, narrowed := true }
def FnCountSquaresUptoSaid : Prop := fnCountSquaresUptoRow.holds Try.pinned (OpenSpec.upto fnCountSquaresSpec)

/-- 'laws.FnApartSums', WHERE WHAT IT READS IS OF BULK AT MOST 1048576: true; the input reads as it did. -/
def fnApartSumsUptoRow : OpenClaim := { program := "ytijgepnmcoicgaa", sum := "5ea1911b134f477199eedb98a5d6ee120cc296584dd6ee631f39e01e293565b5", func := "loop.example/divisorrows/laws.FnApartSums", spec := "fnApartSums", unfollowed := true, recurses := true, apart := false, narrowed := true }
def FnApartSumsUptoSaid : Prop := fnApartSumsUptoRow.holds Try.pinned (OpenSpec.upto fnApartSumsSpec)

/-- 'laws.FnExactSignsUpTo', WHERE WHAT IT READS IS OF BULK AT MOST 1048576: true; the input reads as it did. -/
def fnExactSignsUpToUptoRow : OpenClaim := { program := "ytijgepnmcoicgaa", sum := "5ea1911b134f477199eedb98a5d6ee120cc296584dd6ee631f39e01e293565b5", func := "loop.example/divisorrows/laws.FnExactSignsUpTo", spec := "fnExactSignsUpTo", unfollowed := true, recurses := true, apart := false, narrowed := true }
def FnExactSignsUpToUptoSaid : Prop := fnExactSignsUpToUptoRow.holds Try.pinned (OpenSpec.upto fnExactSignsUpToSpec)

/-- 'laws.FnExactPairsApart', WHERE WHAT IT READS IS OF BULK AT MOST 1048576: true; the input reads as it did. -/
def fnExactPairsApartUptoRow : OpenClaim := { program := "ytijgepnmcoicgaa", sum := "5ea1911b134f477199eedb98a5d6ee120cc296584dd6ee631f39e01e293565b5", func := "loop.example/divisorrows/laws.FnExactPairsApart", spec := "fnExactPairsApart", unfollowed := true, recurses := true, apart := false, narrowed := true }
def FnExactPairsApartUptoSaid : Prop := fnExactPairsApartUptoRow.holds Try.pinned (OpenSpec.upto fnExactPairsApartSpec)

/-- 'laws.FnSquaresOk', WHERE WHAT IT READS IS OF BULK AT MOST 1048576: true; the input reads as it did. -/
def fnSquaresOkUptoRow : OpenClaim := { program := "ytijgepnmcoicgaa", sum := "5ea1911b134f477199eedb98a5d6ee120cc296584dd6ee631f39e01e293565b5", func := "loop.example/divisorrows/laws.FnSquaresOk", spec := "fnSquaresOk", apart := false, narrowed := true }
def FnSquaresOkUptoSaid : Prop := fnSquaresOkUptoRow.holds Try.pinned (OpenSpec.upto fnSquaresOkSpec)

/-- 'laws.FnExactSumFor', WHERE WHAT IT READS IS OF BULK AT MOST 1048576: true; the input reads as it did. -/
def fnExactSumForUptoRow : OpenClaim := { program := "ytijgepnmcoicgaa", sum := "5ea1911b134f477199eedb98a5d6ee120cc296584dd6ee631f39e01e293565b5", func := "loop.example/divisorrows/laws.FnExactSumFor", spec := "fnExactSumFor", apart := false, narrowed := true }
def FnExactSumForUptoSaid : Prop := fnExactSumForUptoRow.holds Try.pinned (OpenSpec.upto fnExactSumForSpec)

/-- 'laws.FnExactOverPeriod', WHERE WHAT IT READS IS OF BULK AT MOST 1048576: true; the input reads as it did. -/
def fnExactOverPeriodUptoRow : OpenClaim := { program := "ytijgepnmcoicgaa", sum := "5ea1911b134f477199eedb98a5d6ee120cc296584dd6ee631f39e01e293565b5", func := "loop.example/divisorrows/laws.FnExactOverPeriod", spec := "fnExactOverPeriod", apart := false, narrowed := true }
def FnExactOverPeriodUptoSaid : Prop := fnExactOverPeriodUptoRow.holds Try.pinned (OpenSpec.upto fnExactOverPeriodSpec)

/-- 'laws.FnSignsUpTo', WHERE WHAT IT READS IS OF BULK AT MOST 1048576: true; the input reads as it did. -/
def fnSignsUpToUptoRow : OpenClaim := { program := "ytijgepnmcoicgaa", sum := "5ea1911b134f477199eedb98a5d6ee120cc296584dd6ee631f39e01e293565b5", func := "loop.example/divisorrows/laws.FnSignsUpTo", spec := "fnSignsUpTo", unfollowed := true, recurses := true, apart := false, narrowed := true }
def FnSignsUpToUptoSaid : Prop := fnSignsUpToUptoRow.holds Try.pinned (OpenSpec.upto fnSignsUpToSpec)

/-- 'laws.FnPairsApart', WHERE WHAT IT READS IS OF BULK AT MOST 1048576: true; the input reads as it did. -/
def fnPairsApartUptoRow : OpenClaim := { program := "ytijgepnmcoicgaa", sum := "5ea1911b134f477199eedb98a5d6ee120cc296584dd6ee631f39e01e293565b5", func := "loop.example/divisorrows/laws.FnPairsApart", spec := "fnPairsApart", unfollowed := true, recurses := true, apart := false, narrowed := true }
def FnPairsApartUptoSaid : Prop := fnPairsApartUptoRow.holds Try.pinned (OpenSpec.upto fnPairsApartSpec)

/-- 'laws.FnSumFor', WHERE WHAT IT READS IS OF BULK AT MOST 1048576: true; the input reads as it did. -/
def fnSumForUptoRow : OpenClaim := { program := "ytijgepnmcoicgaa", sum := "5ea1911b134f477199eedb98a5d6ee120cc296584dd6ee631f39e01e293565b5", func := "loop.example/divisorrows/laws.FnSumFor", spec := "fnSumFor", apart := false, narrowed := true }
def FnSumForUptoSaid : Prop := fnSumForUptoRow.holds Try.pinned (OpenSpec.upto fnSumForSpec)

/-- 'laws.FnOverPeriod', WHERE WHAT IT READS IS OF BULK AT MOST 1048576: true; the input reads as it did. -/
def fnOverPeriodUptoRow : OpenClaim := { program := "ytijgepnmcoicgaa", sum := "5ea1911b134f477199eedb98a5d6ee120cc296584dd6ee631f39e01e293565b5", func := "loop.example/divisorrows/laws.FnOverPeriod", spec := "fnOverPeriod", apart := false, narrowed := true }
def FnOverPeriodUptoSaid : Prop := fnOverPeriodUptoRow.holds Try.pinned (OpenSpec.upto fnOverPeriodSpec)

end Rows
end Go.Proofs.Ytijgepnmcoicgaa
