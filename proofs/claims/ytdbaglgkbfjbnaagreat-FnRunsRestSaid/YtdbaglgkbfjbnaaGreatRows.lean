/-
  No cell of these rows narrows 'for every input' (looked for: loops, veiled, ifaces, maps, wideKeys, modest, calm, conditions, laid).
  DERIVED. THE GIVEN ROWS OF THIS SEAT. 10 by the template 'for every input the law returns true; each argument reads behind the call as it read before'; 0 by the template 'total and deterministic' (their statements: YtdbaglgkbfjbnaaGreatTotals.lean).
  GIVEN WITH THE SEED: the statements are not yours to turn. If you find one false, say at which input.
  Laid BY PROGRAM, IN A SANDBOX (cutbox-rows.mjs): the forced cells as the released guide's own fill.sh prints them over the translation 63f9c3da1d474fd1… (all of the seat's roots in one cut). By AI agents, Wed Nov 11 2026. No macro, syntax, notation, axiom, sorry.
-/
import Derived.Test.YtdbaglgkbfjbnaaGreatChecked
import GoSem.Claim
import GoSem.ClaimJoined
import GoSem.ClaimMapViews
import Derived.JoinedTies
import Derived.KernelRfl
namespace Go.Proofs.YtdbaglgkbfjbnaaGreat
/- THE CELL 'sum', in the pinned program and in every row, IS THE sha256 OF THE DUMP (.gsa) THAT YtdbaglgkbfjbnaaGreatProg.lean LOADS. Nothing in Lean hashes anything: it is a label: what it is worth is what the hold of that sum in a sandbox is worth. -/
noncomputable def Tryz.pinned : Pinned := { name := "ytdbaglgkbfjbnaagreat", sum := "63f9c3da1d474fd1f215d6eb2da38ef02bfbfcbcd8d01ba6db6031d292157a10", checked := Tryz.checked }
namespace Rows
def none {H : Type} : Left H := { results := [], args := [] }

/-- 'laws.FnRunsFind': WHATEVER THE INPUT: true; the input reads as it did. -/
def fnRunsFindSpec : ChangeSpec := { name := "fnRunsFind", fn := fun _ => fun
  | [d] => { results := [.lit (.bool true)], args := [d] }
  | _ => none }
def fnRunsFindRow : OpenClaim := { program := "ytdbaglgkbfjbnaagreat", sum := "63f9c3da1d474fd1f215d6eb2da38ef02bfbfcbcd8d01ba6db6031d292157a10", func := "loop.example/slowworm/laws.FnRunsFind", spec := "fnRunsFind", inPlace := ["internal/bytealg.IndexByteString", "internal/bytealg.IndexString", "internal/abi.NoEscape", "internal/bytealg.MakeNoZero"], unfollowed := true, recurses := true, named := ["internal/bytealg.MaxLen"], apart := false }
def FnRunsFindSaid : Prop := fnRunsFindRow.holds Tryz.pinned (OpenSpec.ofChange fnRunsFindSpec)

/-- ITS FALSE NEIGHBOUR: 'it returns false'. Refute it at one input. -/
def fnRunsFindWrong : ChangeSpec := { name := "fnRunsFind", fn := fun _ => fun
  | [d] => { results := [.lit (.bool false)], args := [d] }
  | _ => none }
def FnRunsFindWrongFalsely : Prop := fnRunsFindRow.holds Tryz.pinned (OpenSpec.ofChange fnRunsFindWrong)

/-- 'laws.FnRunsTexts': WHATEVER THE INPUT: true; the input reads as it did. -/
def fnRunsTextsSpec : ChangeSpec := { name := "fnRunsTexts", fn := fun _ => fun
  | [d] => { results := [.lit (.bool true)], args := [d] }
  | _ => none }
def fnRunsTextsRow : OpenClaim := { program := "ytdbaglgkbfjbnaagreat", sum := "63f9c3da1d474fd1f215d6eb2da38ef02bfbfcbcd8d01ba6db6031d292157a10", func := "loop.example/slowworm/laws.FnRunsTexts", spec := "fnRunsTexts", inPlace := ["internal/bytealg.IndexByteString", "internal/bytealg.IndexString", "internal/abi.NoEscape", "internal/bytealg.MakeNoZero"], unfollowed := true, recurses := true, named := ["internal/bytealg.MaxLen"], apart := false }
def FnRunsTextsSaid : Prop := fnRunsTextsRow.holds Tryz.pinned (OpenSpec.ofChange fnRunsTextsSpec)

/-- ITS FALSE NEIGHBOUR: 'it returns false'. Refute it at one input. -/
def fnRunsTextsWrong : ChangeSpec := { name := "fnRunsTexts", fn := fun _ => fun
  | [d] => { results := [.lit (.bool false)], args := [d] }
  | _ => none }
def FnRunsTextsWrongFalsely : Prop := fnRunsTextsRow.holds Tryz.pinned (OpenSpec.ofChange fnRunsTextsWrong)

/-- 'laws.FnRunsMany': WHATEVER THE INPUT: true; the input reads as it did. -/
def fnRunsManySpec : ChangeSpec := { name := "fnRunsMany", fn := fun _ => fun
  | [d] => { results := [.lit (.bool true)], args := [d] }
  | _ => none }
def fnRunsManyRow : OpenClaim := { program := "ytdbaglgkbfjbnaagreat", sum := "63f9c3da1d474fd1f215d6eb2da38ef02bfbfcbcd8d01ba6db6031d292157a10", func := "loop.example/slowworm/laws.FnRunsMany", spec := "fnRunsMany", inPlace := ["internal/abi.NoEscape", "internal/bytealg.MakeNoZero", "internal/bytealg.IndexByteString", "internal/bytealg.IndexString"], unfollowed := true, recurses := true, named := ["internal/bytealg.MaxLen"], apart := false }
def FnRunsManySaid : Prop := fnRunsManyRow.holds Tryz.pinned (OpenSpec.ofChange fnRunsManySpec)

/-- ITS FALSE NEIGHBOUR: 'it returns false'. Refute it at one input. -/
def fnRunsManyWrong : ChangeSpec := { name := "fnRunsMany", fn := fun _ => fun
  | [d] => { results := [.lit (.bool false)], args := [d] }
  | _ => none }
def FnRunsManyWrongFalsely : Prop := fnRunsManyRow.holds Tryz.pinned (OpenSpec.ofChange fnRunsManyWrong)

/-- 'laws.FnRunsAt': WHATEVER THE INPUT: true; the input reads as it did. -/
def fnRunsAtSpec : ChangeSpec := { name := "fnRunsAt", fn := fun _ => fun
  | [d] => { results := [.lit (.bool true)], args := [d] }
  | _ => none }
def fnRunsAtRow : OpenClaim := { program := "ytdbaglgkbfjbnaagreat", sum := "63f9c3da1d474fd1f215d6eb2da38ef02bfbfcbcd8d01ba6db6031d292157a10", func := "loop.example/slowworm/laws.FnRunsAt", spec := "fnRunsAt", inPlace := ["internal/bytealg.IndexByteString", "internal/bytealg.IndexString", "internal/abi.NoEscape", "internal/bytealg.MakeNoZero"], unfollowed := true, recurses := true, named := ["internal/bytealg.MaxLen"], apart := false }
def FnRunsAtSaid : Prop := fnRunsAtRow.holds Tryz.pinned (OpenSpec.ofChange fnRunsAtSpec)

/-- ITS FALSE NEIGHBOUR: 'it returns false'. Refute it at one input. -/
def fnRunsAtWrong : ChangeSpec := { name := "fnRunsAt", fn := fun _ => fun
  | [d] => { results := [.lit (.bool false)], args := [d] }
  | _ => none }
def FnRunsAtWrongFalsely : Prop := fnRunsAtRow.holds Tryz.pinned (OpenSpec.ofChange fnRunsAtWrong)

/-- 'laws.FnRunsOrder': WHATEVER THE INPUT: true; the input reads as it did. -/
def fnRunsOrderSpec : ChangeSpec := { name := "fnRunsOrder", fn := fun _ => fun
  | [d] => { results := [.lit (.bool true)], args := [d] }
  | _ => none }
def fnRunsOrderRow : OpenClaim := { program := "ytdbaglgkbfjbnaagreat", sum := "63f9c3da1d474fd1f215d6eb2da38ef02bfbfcbcd8d01ba6db6031d292157a10", func := "loop.example/slowworm/laws.FnRunsOrder", spec := "fnRunsOrder", inPlace := ["internal/bytealg.IndexByteString", "internal/bytealg.IndexString", "internal/abi.NoEscape", "internal/bytealg.MakeNoZero"], unfollowed := true, recurses := true, named := ["internal/bytealg.MaxLen"], apart := false }
def FnRunsOrderSaid : Prop := fnRunsOrderRow.holds Tryz.pinned (OpenSpec.ofChange fnRunsOrderSpec)

/-- ITS FALSE NEIGHBOUR: 'it returns false'. Refute it at one input. -/
def fnRunsOrderWrong : ChangeSpec := { name := "fnRunsOrder", fn := fun _ => fun
  | [d] => { results := [.lit (.bool false)], args := [d] }
  | _ => none }
def FnRunsOrderWrongFalsely : Prop := fnRunsOrderRow.holds Tryz.pinned (OpenSpec.ofChange fnRunsOrderWrong)

/-- 'laws.FnRunsProduct': WHATEVER THE INPUT: true; the input reads as it did. -/
def fnRunsProductSpec : ChangeSpec := { name := "fnRunsProduct", fn := fun _ => fun
  | [d] => { results := [.lit (.bool true)], args := [d] }
  | _ => none }
def fnRunsProductRow : OpenClaim := { program := "ytdbaglgkbfjbnaagreat", sum := "63f9c3da1d474fd1f215d6eb2da38ef02bfbfcbcd8d01ba6db6031d292157a10", func := "loop.example/slowworm/laws.FnRunsProduct", spec := "fnRunsProduct", inPlace := ["internal/abi.NoEscape", "internal/bytealg.IndexByteString", "internal/bytealg.IndexString", "internal/bytealg.MakeNoZero"], unfollowed := true, recurses := true, named := ["internal/bytealg.MaxLen"], apart := false }
def FnRunsProductSaid : Prop := fnRunsProductRow.holds Tryz.pinned (OpenSpec.ofChange fnRunsProductSpec)

/-- ITS FALSE NEIGHBOUR: 'it returns false'. Refute it at one input. -/
def fnRunsProductWrong : ChangeSpec := { name := "fnRunsProduct", fn := fun _ => fun
  | [d] => { results := [.lit (.bool false)], args := [d] }
  | _ => none }
def FnRunsProductWrongFalsely : Prop := fnRunsProductRow.holds Tryz.pinned (OpenSpec.ofChange fnRunsProductWrong)

/-- 'laws.FnRunsSum': WHATEVER THE INPUT: true; the input reads as it did. -/
def fnRunsSumSpec : ChangeSpec := { name := "fnRunsSum", fn := fun _ => fun
  | [d] => { results := [.lit (.bool true)], args := [d] }
  | _ => none }
def fnRunsSumRow : OpenClaim := { program := "ytdbaglgkbfjbnaagreat", sum := "63f9c3da1d474fd1f215d6eb2da38ef02bfbfcbcd8d01ba6db6031d292157a10", func := "loop.example/slowworm/laws.FnRunsSum", spec := "fnRunsSum", inPlace := ["internal/abi.NoEscape", "internal/bytealg.IndexByteString", "internal/bytealg.IndexString", "internal/bytealg.MakeNoZero"], unfollowed := true, recurses := true, named := ["internal/bytealg.MaxLen"], apart := false }
def FnRunsSumSaid : Prop := fnRunsSumRow.holds Tryz.pinned (OpenSpec.ofChange fnRunsSumSpec)

/-- ITS FALSE NEIGHBOUR: 'it returns false'. Refute it at one input. -/
def fnRunsSumWrong : ChangeSpec := { name := "fnRunsSum", fn := fun _ => fun
  | [d] => { results := [.lit (.bool false)], args := [d] }
  | _ => none }
def FnRunsSumWrongFalsely : Prop := fnRunsSumRow.holds Tryz.pinned (OpenSpec.ofChange fnRunsSumWrong)

/-- 'laws.FnRunsDifference': WHATEVER THE INPUT: true; the input reads as it did. -/
def fnRunsDifferenceSpec : ChangeSpec := { name := "fnRunsDifference", fn := fun _ => fun
  | [d] => { results := [.lit (.bool true)], args := [d] }
  | _ => none }
def fnRunsDifferenceRow : OpenClaim := { program := "ytdbaglgkbfjbnaagreat", sum := "63f9c3da1d474fd1f215d6eb2da38ef02bfbfcbcd8d01ba6db6031d292157a10", func := "loop.example/slowworm/laws.FnRunsDifference", spec := "fnRunsDifference", inPlace := ["internal/abi.NoEscape", "internal/bytealg.IndexByteString", "internal/bytealg.IndexString", "internal/bytealg.MakeNoZero"], unfollowed := true, recurses := true, named := ["internal/bytealg.MaxLen"], apart := false }
def FnRunsDifferenceSaid : Prop := fnRunsDifferenceRow.holds Tryz.pinned (OpenSpec.ofChange fnRunsDifferenceSpec)

/-- ITS FALSE NEIGHBOUR: 'it returns false'. Refute it at one input. -/
def fnRunsDifferenceWrong : ChangeSpec := { name := "fnRunsDifference", fn := fun _ => fun
  | [d] => { results := [.lit (.bool false)], args := [d] }
  | _ => none }
def FnRunsDifferenceWrongFalsely : Prop := fnRunsDifferenceRow.holds Tryz.pinned (OpenSpec.ofChange fnRunsDifferenceWrong)

/-- 'laws.FnRunsQuotient': WHATEVER THE INPUT: true; the input reads as it did. -/
def fnRunsQuotientSpec : ChangeSpec := { name := "fnRunsQuotient", fn := fun _ => fun
  | [d] => { results := [.lit (.bool true)], args := [d] }
  | _ => none }
def fnRunsQuotientRow : OpenClaim := { program := "ytdbaglgkbfjbnaagreat", sum := "63f9c3da1d474fd1f215d6eb2da38ef02bfbfcbcd8d01ba6db6031d292157a10", func := "loop.example/slowworm/laws.FnRunsQuotient", spec := "fnRunsQuotient", inPlace := ["internal/abi.NoEscape", "internal/bytealg.IndexByteString", "internal/bytealg.IndexString", "internal/bytealg.MakeNoZero"], unfollowed := true, recurses := true, named := ["internal/bytealg.MaxLen"], apart := false }
def FnRunsQuotientSaid : Prop := fnRunsQuotientRow.holds Tryz.pinned (OpenSpec.ofChange fnRunsQuotientSpec)

/-- ITS FALSE NEIGHBOUR: 'it returns false'. Refute it at one input. -/
def fnRunsQuotientWrong : ChangeSpec := { name := "fnRunsQuotient", fn := fun _ => fun
  | [d] => { results := [.lit (.bool false)], args := [d] }
  | _ => none }
def FnRunsQuotientWrongFalsely : Prop := fnRunsQuotientRow.holds Tryz.pinned (OpenSpec.ofChange fnRunsQuotientWrong)

/-- 'laws.FnRunsRest': WHATEVER THE INPUT: true; the input reads as it did. -/
def fnRunsRestSpec : ChangeSpec := { name := "fnRunsRest", fn := fun _ => fun
  | [d] => { results := [.lit (.bool true)], args := [d] }
  | _ => none }
def fnRunsRestRow : OpenClaim := { program := "ytdbaglgkbfjbnaagreat", sum := "63f9c3da1d474fd1f215d6eb2da38ef02bfbfcbcd8d01ba6db6031d292157a10", func := "loop.example/slowworm/laws.FnRunsRest", spec := "fnRunsRest", inPlace := ["internal/abi.NoEscape", "internal/bytealg.IndexByteString", "internal/bytealg.IndexString", "internal/bytealg.MakeNoZero"], unfollowed := true, recurses := true, named := ["internal/bytealg.MaxLen"], apart := false }
def FnRunsRestSaid : Prop := fnRunsRestRow.holds Tryz.pinned (OpenSpec.ofChange fnRunsRestSpec)

/-- ITS FALSE NEIGHBOUR: 'it returns false'. Refute it at one input. -/
def fnRunsRestWrong : ChangeSpec := { name := "fnRunsRest", fn := fun _ => fun
  | [d] => { results := [.lit (.bool false)], args := [d] }
  | _ => none }
def FnRunsRestWrongFalsely : Prop := fnRunsRestRow.holds Tryz.pinned (OpenSpec.ofChange fnRunsRestWrong)

/- THE SECOND FORM. 'bulk': how many values and letters a reading holds, each counted each time it is reached (what is shared counts as often as it is met; a slice's spare places count too). A statement '..UptoSaid' is the law's where the arguments, and the package variables that the reading takes, are together of bulk at most 1048576: NARROWER than '..Said'. Prove '..Said' where nothing that the law and all that it calls make is longer than what came in: it says more and counts as full. Else prove '..UptoSaid'. A law counts once. -/
mutual
def uptoBulk {H : Type} : DataW H → Nat
  | .lit (.string bytes) => bytes.length + 1
  | .lit _ => 1
  | .nil => 1
  | .ptr d => uptoBulk d + 1
  | .slice elems spare => uptoBulkAll elems + uptoBulkAll spare + 1
  | .agg parts => uptoBulkAll parts + 1
  | .iface _ d => uptoBulk d + 1
  | .map entries => uptoBulkEntries entries + 1
  | .held _ => 1
def uptoBulkAll {H : Type} : List (DataW H) → Nat
  | [] => 0
  | d :: r => uptoBulk d + uptoBulkAll r
def uptoBulkEntries {H : Type} : List (Lit × DataW H) → Nat
  | [] => 0
  | x :: r => uptoBulkEntry x + uptoBulkEntries r
def uptoBulkEntry {H : Type} : Lit × DataW H → Nat
  | (.string bytes, d) => bytes.length + uptoBulk d + 1
  | (_, d) => uptoBulk d + 1
 end
def uptoSmall : (H : Type) → List (DataW H) → Bool := fun _ ds => decide (uptoBulkAll ds ≤ 1048576)
def OpenSpec.upto (s : _root_.Go.ChangeSpec) : _root_.Go.OpenSpec := { _root_.Go.OpenSpec.ofChange s with cond := some uptoSmall }

/-- 'laws.FnRunsFind', WHERE WHAT IT READS IS OF BULK AT MOST 1048576: true; the input reads as it did. -/
def fnRunsFindUptoRow : OpenClaim := { program := "ytdbaglgkbfjbnaagreat", sum := "63f9c3da1d474fd1f215d6eb2da38ef02bfbfcbcd8d01ba6db6031d292157a10", func := "loop.example/slowworm/laws.FnRunsFind", spec := "fnRunsFind", inPlace := ["internal/bytealg.IndexByteString", "internal/bytealg.IndexString", "internal/abi.NoEscape", "internal/bytealg.MakeNoZero"], unfollowed := true, recurses := true, named := ["internal/bytealg.MaxLen"], apart := false, narrowed := true }
def FnRunsFindUptoSaid : Prop := fnRunsFindUptoRow.holds Tryz.pinned (OpenSpec.upto fnRunsFindSpec)

/-- 'laws.FnRunsTexts', WHERE WHAT IT READS IS OF BULK AT MOST 1048576: true; the input reads as it did. -/
def fnRunsTextsUptoRow : OpenClaim := { program := "ytdbaglgkbfjbnaagreat", sum := "63f9c3da1d474fd1f215d6eb2da38ef02bfbfcbcd8d01ba6db6031d292157a10", func := "loop.example/slowworm/laws.FnRunsTexts", spec := "fnRunsTexts", inPlace := ["internal/bytealg.IndexByteString", "internal/bytealg.IndexString", "internal/abi.NoEscape", "internal/bytealg.MakeNoZero"], unfollowed := true, recurses := true, named := ["internal/bytealg.MaxLen"], apart := false, narrowed := true }
def FnRunsTextsUptoSaid : Prop := fnRunsTextsUptoRow.holds Tryz.pinned (OpenSpec.upto fnRunsTextsSpec)

/-- 'laws.FnRunsMany', WHERE WHAT IT READS IS OF BULK AT MOST 1048576: true; the input reads as it did. -/
def fnRunsManyUptoRow : OpenClaim := { program := "ytdbaglgkbfjbnaagreat", sum := "63f9c3da1d474fd1f215d6eb2da38ef02bfbfcbcd8d01ba6db6031d292157a10", func := "loop.example/slowworm/laws.FnRunsMany", spec := "fnRunsMany", inPlace := ["internal/abi.NoEscape", "internal/bytealg.MakeNoZero", "internal/bytealg.IndexByteString", "internal/bytealg.IndexString"], unfollowed := true, recurses := true, named := ["internal/bytealg.MaxLen"], apart := false, narrowed := true }
def FnRunsManyUptoSaid : Prop := fnRunsManyUptoRow.holds Tryz.pinned (OpenSpec.upto fnRunsManySpec)

/-- 'laws.FnRunsAt', WHERE WHAT IT READS IS OF BULK AT MOST 1048576: true; the input reads as it did. -/
def fnRunsAtUptoRow : OpenClaim := { program := "ytdbaglgkbfjbnaagreat", sum := "63f9c3da1d474fd1f215d6eb2da38ef02bfbfcbcd8d01ba6db6031d292157a10", func := "loop.example/slowworm/laws.FnRunsAt", spec := "fnRunsAt", inPlace := ["internal/bytealg.IndexByteString", "internal/bytealg.IndexString", "internal/abi.NoEscape", "internal/bytealg.MakeNoZero"], unfollowed := true, recurses := true, named := ["internal/bytealg.MaxLen"], apart := false, narrowed := true }
def FnRunsAtUptoSaid : Prop := fnRunsAtUptoRow.holds Tryz.pinned (OpenSpec.upto fnRunsAtSpec)

/-- 'laws.FnRunsOrder', WHERE WHAT IT READS IS OF BULK AT MOST 1048576: true; the input reads as it did. -/
def fnRunsOrderUptoRow : OpenClaim := { program := "ytdbaglgkbfjbnaagreat", sum := "63f9c3da1d474fd1f215d6eb2da38ef02bfbfcbcd8d01ba6db6031d292157a10", func := "loop.example/slowworm/laws.FnRunsOrder", spec := "fnRunsOrder", inPlace := ["internal/bytealg.IndexByteString", "internal/bytealg.IndexString", "internal/abi.NoEscape", "internal/bytealg.MakeNoZero"], unfollowed := true, recurses := true, named := ["internal/bytealg.MaxLen"], apart := false, narrowed := true }
def FnRunsOrderUptoSaid : Prop := fnRunsOrderUptoRow.holds Tryz.pinned (OpenSpec.upto fnRunsOrderSpec)

/-- 'laws.FnRunsProduct', WHERE WHAT IT READS IS OF BULK AT MOST 1048576: true; the input reads as it did. -/
def fnRunsProductUptoRow : OpenClaim := { program := "ytdbaglgkbfjbnaagreat", sum := "63f9c3da1d474fd1f215d6eb2da38ef02bfbfcbcd8d01ba6db6031d292157a10", func := "loop.example/slowworm/laws.FnRunsProduct", spec := "fnRunsProduct", inPlace := ["internal/abi.NoEscape", "internal/bytealg.IndexByteString", "internal/bytealg.IndexString", "internal/bytealg.MakeNoZero"], unfollowed := true, recurses := true, named := ["internal/bytealg.MaxLen"], apart := false, narrowed := true }
def FnRunsProductUptoSaid : Prop := fnRunsProductUptoRow.holds Tryz.pinned (OpenSpec.upto fnRunsProductSpec)

/-- 'laws.FnRunsSum', WHERE WHAT IT READS IS OF BULK AT MOST 1048576: true; the input reads as it did. -/
def fnRunsSumUptoRow : OpenClaim := { program := "ytdbaglgkbfjbnaagreat", sum := "63f9c3da1d474fd1f215d6eb2da38ef02bfbfcbcd8d01ba6db6031d292157a10", func := "loop.example/slowworm/laws.FnRunsSum", spec := "fnRunsSum", inPlace := ["internal/abi.NoEscape", "internal/bytealg.IndexByteString", "internal/bytealg.IndexString", "internal/bytealg.MakeNoZero"], unfollowed := true, recurses := true, named := ["internal/bytealg.MaxLen"], apart := false, narrowed := true }
def FnRunsSumUptoSaid : Prop := fnRunsSumUptoRow.holds Tryz.pinned (OpenSpec.upto fnRunsSumSpec)

/-- 'laws.FnRunsDifference', WHERE WHAT IT READS IS OF BULK AT MOST 1048576: true; the input reads as it did. -/
def fnRunsDifferenceUptoRow : OpenClaim := { program := "ytdbaglgkbfjbnaagreat", sum := "63f9c3da1d474fd1f215d6eb2da38ef02bfbfcbcd8d01ba6db6031d292157a10", func := "loop.example/slowworm/laws.FnRunsDifference", spec := "fnRunsDifference", inPlace := ["internal/abi.NoEscape", "internal/bytealg.IndexByteString", "internal/bytealg.IndexString", "internal/bytealg.MakeNoZero"], unfollowed := true, recurses := true, named := ["internal/bytealg.MaxLen"], apart := false, narrowed := true }
def FnRunsDifferenceUptoSaid : Prop := fnRunsDifferenceUptoRow.holds Tryz.pinned (OpenSpec.upto fnRunsDifferenceSpec)

/-- 'laws.FnRunsQuotient', WHERE WHAT IT READS IS OF BULK AT MOST 1048576: true; the input reads as it did. -/
def fnRunsQuotientUptoRow : OpenClaim := { program := "ytdbaglgkbfjbnaagreat", sum := "63f9c3da1d474fd1f215d6eb2da38ef02bfbfcbcd8d01ba6db6031d292157a10", func := "loop.example/slowworm/laws.FnRunsQuotient", spec := "fnRunsQuotient", inPlace := ["internal/abi.NoEscape", "internal/bytealg.IndexByteString", "internal/bytealg.IndexString", "internal/bytealg.MakeNoZero"], unfollowed := true, recurses := true, named := ["internal/bytealg.MaxLen"], apart := false, narrowed := true }
def FnRunsQuotientUptoSaid : Prop := fnRunsQuotientUptoRow.holds Tryz.pinned (OpenSpec.upto fnRunsQuotientSpec)

/-- 'laws.FnRunsRest', WHERE WHAT IT READS IS OF BULK AT MOST 1048576: true; the input reads as it did. -/
def fnRunsRestUptoRow : OpenClaim := { program := "ytdbaglgkbfjbnaagreat", sum := "63f9c3da1d474fd1f215d6eb2da38ef02bfbfcbcd8d01ba6db6031d292157a10", func := "loop.example/slowworm/laws.FnRunsRest", spec := "fnRunsRest", inPlace := ["internal/abi.NoEscape", "internal/bytealg.IndexByteString", "internal/bytealg.IndexString", "internal/bytealg.MakeNoZero"], unfollowed := true, recurses := true, named := ["internal/bytealg.MaxLen"], apart := false, narrowed := true }
def FnRunsRestUptoSaid : Prop := fnRunsRestUptoRow.holds Tryz.pinned (OpenSpec.upto fnRunsRestSpec)

end Rows
end Go.Proofs.YtdbaglgkbfjbnaaGreat
