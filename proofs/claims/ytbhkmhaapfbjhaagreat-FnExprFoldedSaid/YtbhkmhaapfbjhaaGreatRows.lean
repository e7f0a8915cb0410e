/-
  No cell of these rows narrows 'for every input' (looked for: loops, veiled, ifaces, maps, wideKeys, modest, calm, conditions, laid).
  DERIVED. THE GIVEN ROWS OF THIS SEAT. 2 by the template 'for every input the law returns true; each argument reads behind the call as it read before'; 0 by the template 'total and deterministic' (their statements: YtbhkmhaapfbjhaaGreatTotals.lean).
  GIVEN WITH THE SEED: the statements are not yours to turn. If you find one false, say at which input.
  Laid BY PROGRAM, IN A SANDBOX (cutbox-rows.mjs): the forced cells as the released guide's own fill.sh prints them over the translation dd17dfe0662e028a… (all of the seat's roots in one cut). By AI agents, Wed Nov 11 2026. No macro, syntax, notation, axiom, sorry.
-/
import Derived.Test.YtbhkmhaapfbjhaaGreatChecked
import GoSem.Claim
import GoSem.ClaimJoined
import GoSem.ClaimMapViews
import Derived.JoinedTies
import Derived.KernelRfl
namespace Go.Proofs.YtbhkmhaapfbjhaaGreat
/- THE CELL 'sum', in the pinned program and in every row, IS THE sha256 OF THE DUMP (.gsa) THAT YtbhkmhaapfbjhaaGreatProg.lean LOADS. Nothing in Lean hashes anything: it is a label: what it is worth is what the hold of that sum in a sandbox is worth. -/
noncomputable def Tryz.pinned : Pinned := { name := "ytbhkmhaapfbjhaagreat", sum := "dd17dfe0662e028af9d99a31fae1a7d0763714dca2e11d850fdf89abd6e43586", checked := Tryz.checked }
namespace Rows
def none {H : Type} : Left H := { results := [], args := [] }

/-- 'laws.FnFoldSaves': WHATEVER THE INPUT: true; the input reads as it did. -/
def fnFoldSavesSpec : ChangeSpec := { name := "fnFoldSaves", fn := fun _ => fun
  | [d] => { results := [.lit (.bool true)], args := [d] }
  | _ => none }
def fnFoldSavesRow : OpenClaim := { program := "ytbhkmhaapfbjhaagreat", sum := "dd17dfe0662e028af9d99a31fae1a7d0763714dca2e11d850fdf89abd6e43586", func := "loop.example/slowworm/laws.FnFoldSaves", spec := "fnFoldSaves", inPlace := ["internal/abi.NoEscape", "internal/bytealg.IndexByteString", "internal/bytealg.IndexString"], unfollowed := true, recurses := true, named := ["internal/bytealg.MaxLen"], apart := false }
def FnFoldSavesSaid : Prop := fnFoldSavesRow.holds Tryz.pinned (OpenSpec.ofChange fnFoldSavesSpec)

/-- ITS FALSE NEIGHBOUR: 'it returns false'. Refute it at one input. -/
def fnFoldSavesWrong : ChangeSpec := { name := "fnFoldSaves", fn := fun _ => fun
  | [d] => { results := [.lit (.bool false)], args := [d] }
  | _ => none }
def FnFoldSavesWrongFalsely : Prop := fnFoldSavesRow.holds Tryz.pinned (OpenSpec.ofChange fnFoldSavesWrong)

/-- 'laws.FnExprFolded': WHATEVER THE INPUT: true; the input reads as it did. -/
def fnExprFoldedSpec : ChangeSpec := { name := "fnExprFolded", fn := fun _ => fun
  | [d] => { results := [.lit (.bool true)], args := [d] }
  | _ => none }
def fnExprFoldedRow : OpenClaim := { program := "ytbhkmhaapfbjhaagreat", sum := "dd17dfe0662e028af9d99a31fae1a7d0763714dca2e11d850fdf89abd6e43586", func := "loop.example/slowworm/laws.FnExprFolded", spec := "fnExprFolded", inPlace := ["internal/abi.NoEscape", "internal/bytealg.IndexByteString", "internal/bytealg.IndexString"], unfollowed := true, recurses := true, named := ["internal/bytealg.MaxLen"], apart := false }
def FnExprFoldedSaid : Prop := fnExprFoldedRow.holds Tryz.pinned (OpenSpec.ofChange fnExprFoldedSpec)

/-- ITS FALSE NEIGHBOUR: 'it returns false'. Refute it at one input. -/
def fnExprFoldedWrong : ChangeSpec := { name := "fnExprFolded", fn := fun _ => fun
  | [d] => { results := [.lit (.bool false)], args := [d] }
  | _ => none }
def FnExprFoldedWrongFalsely : Prop := fnExprFoldedRow.holds Tryz.pinned (OpenSpec.ofChange fnExprFoldedWrong)

/- THE SECOND FORM. 'bulk': how many values and letters a reading holds, each counted each time it is reached (what is shared counts as often as it is met; a slice's spare places count too). A statement '..UptoSaid' is the law's where the arguments, and the package variables that the reading takes, are together of bulk at most 1048576: NARROWER than '..Said'. Prove '..Said' where nothing that the law and all that it calls make is longer than what came in: it says more and counts as full. Else prove '..UptoSaid'. A law counts once. -/
mutual
def uptoBulk {H : Type} : DataW H → Nat
  | .lit (.string bytes) => bytes.length + 1
  | .lit _ => 1
  | .nil => 1
  | .ptr d => uptoBulk d + 1
  | .slice elems spare => uptoBulkAll elems + uptoBulkAll spare + 1
  | .agg parts => uptoBulkAll parts + 1
  | .iface _ d => uptoBulk d + 1
  | .map entries => uptoBulkEntries entries + 1
  | .held _ => 1
def uptoBulkAll {H : Type} : List (DataW H) → Nat
  | [] => 0
  | d :: r => uptoBulk d + uptoBulkAll r
def uptoBulkEntries {H : Type} : List (Lit × DataW H) → Nat
  | [] => 0
  | x :: r => uptoBulkEntry x + uptoBulkEntries r
def uptoBulkEntry {H : Type} : Lit × DataW H → Nat
  | (.string bytes, d) => bytes.length + uptoBulk d + 1
  | (_, d) => uptoBulk d + 1
 end
def uptoSmall : (H : Type) → List (DataW H) → Bool := fun _ ds => decide (uptoBulkAll ds ≤ 1048576)
def OpenSpec.upto (s : _root_.Go.ChangeSpec) : _root_.Go.OpenSpec := { _root_.Go.OpenSpec.ofChange s with cond := some uptoSmall }

/-- 'laws.FnFoldSaves', WHERE WHAT IT READS IS OF BULK AT MOST 1048576: true; the input reads as it did. -/
def fnFoldSavesUptoRow : OpenClaim := { program := "ytbhkmhaapfbjhaagreat", sum := "dd17dfe0662e028af9d99a31fae1a7d0763714dca2e11d850fdf89abd6e43586", func := "loop.example/slowworm/laws.FnFoldSaves", spec := "fnFoldSaves", inPlace := ["internal/abi.NoEscape", "internal/bytealg.IndexByteString", "internal/bytealg.IndexString"], unfollowed := true, recurses := true, named := ["internal/bytealg.MaxLen"], apart := false, narrowed := true }
def FnFoldSavesUptoSaid : Prop := fnFoldSavesUptoRow.holds Tryz.pinned (OpenSpec.upto fnFoldSavesSpec)

/-- 'laws.FnExprFolded', WHERE WHAT IT READS IS OF BULK AT MOST 1048576: true; the input reads as it did. -/
def fnExprFoldedUptoRow : OpenClaim := { program := "ytbhkmhaapfbjhaagreat", sum := "dd17dfe0662e028af9d99a31fae1a7d0763714dca2e11d850fdf89abd6e43586", func := "loop.example/slowworm/laws.FnExprFolded", spec := "fnExprFolded", inPlace := ["internal/abi.NoEscape", "internal/bytealg.IndexByteString", "internal/bytealg.IndexString"], unfollowed := true, recurses := true, named := ["internal/bytealg.MaxLen"], apart := false, narrowed := true }
def FnExprFoldedUptoSaid : Prop := fnExprFoldedUptoRow.holds Tryz.pinned (OpenSpec.upto fnExprFoldedSpec)

end Rows
end Go.Proofs.YtbhkmhaapfbjhaaGreat
