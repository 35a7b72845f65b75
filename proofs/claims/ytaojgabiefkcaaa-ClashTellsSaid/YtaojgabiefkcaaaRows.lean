/-
  No cell of these rows narrows 'for every input' (looked for: loops, veiled, ifaces, maps, wideKeys, modest, calm, conditions, laid).
  DERIVED. THE GIVEN ROWS OF THIS SEAT. 11 by the template 'for every input the law returns true; each argument reads behind the call as it read before'; 0 by the template 'total and deterministic' (their statements: YtaojgabiefkcaaaTotals.lean).
  GIVEN WITH THE SEED: the statements are not yours to turn. If you find one false, say at which input.
  Laid BY PROGRAM, IN A SANDBOX (cutbox-rows.mjs): the forced cells as the released guide's own fill.sh prints them over the translation a4636a45d4efb031… (all of the seat's roots in one cut). By AI agents, Wed Nov 11 2026. No macro, syntax, notation, axiom, sorry.
-/
import Derived.Test.YtaojgabiefkcaaaChecked
import GoSem.Claim
import GoSem.ClaimJoined
import GoSem.ClaimMapViews
import Derived.JoinedTies
import Derived.KernelRfl
namespace Go.Proofs.Ytaojgabiefkcaaa
/- THE CELL 'sum', in the pinned program and in every row, IS THE sha256 OF THE DUMP (.gsa) THAT YtaojgabiefkcaaaProg.lean LOADS. Nothing in Lean hashes anything: it is a label: what it is worth is what the hold of that sum in a sandbox is worth. -/
noncomputable def Try.pinned : Pinned := { name := "ytaojgabiefkcaaa", sum := "a4636a45d4efb03157db0ac520bb4c0f59282f0c5a7c05d8ce0301f9a5e6b4df", checked := Try.checked }
namespace Rows
def none {H : Type} : Left H := { results := [], args := [] }

/-- 'yearlaw2.TreeShown': WHATEVER THE INPUT: true; the input reads as it did. -/
def treeShownSpec : ChangeSpec := { name := "treeShown", fn := fun _ => fun
  | [d1, d2, d3, d4, d5, d6] => { results := [.lit (.bool true)], args := [d1, d2, d3, d4, d5, d6] }
  | _ => none }
def treeShownRow : OpenClaim := { program := "ytaojgabiefkcaaa", sum := "a4636a45d4efb03157db0ac520bb4c0f59282f0c5a7c05d8ce0301f9a5e6b4df", func := "yearbook/yearlaw2.TreeShown", spec := "treeShown", inPlace := ["math/bits.Add64"], unfollowed := true, recurses := true, apart := false }
def TreeShownSaid : Prop := treeShownRow.holds Try.pinned (OpenSpec.ofChange treeShownSpec)

/-- ITS FALSE NEIGHBOUR: 'it returns false'. Refute it at one input. -/
def treeShownWrong : ChangeSpec := { name := "treeShown", fn := fun _ => fun
  | [d1, d2, d3, d4, d5, d6] => { results := [.lit (.bool false)], args := [d1, d2, d3, d4, d5, d6] }
  | _ => none }
def TreeShownWrongFalsely : Prop := treeShownRow.holds Try.pinned (OpenSpec.ofChange treeShownWrong)

/-- 'yearlaw2.TreeStands': WHATEVER THE INPUT: true; the input reads as it did. -/
def treeStandsSpec : ChangeSpec := { name := "treeStands", fn := fun _ => fun
  | [d] => { results := [.lit (.bool true)], args := [d] }
  | _ => none }
def treeStandsRow : OpenClaim := { program := "ytaojgabiefkcaaa", sum := "a4636a45d4efb03157db0ac520bb4c0f59282f0c5a7c05d8ce0301f9a5e6b4df", func := "yearbook/yearlaw2.TreeStands", spec := "treeStands", unfollowed := true, recurses := true, apart := false }
def TreeStandsSaid : Prop := treeStandsRow.holds Try.pinned (OpenSpec.ofChange treeStandsSpec)

/-- ITS FALSE NEIGHBOUR: 'it returns false'. Refute it at one input. -/
def treeStandsWrong : ChangeSpec := { name := "treeStands", fn := fun _ => fun
  | [d] => { results := [.lit (.bool false)], args := [d] }
  | _ => none }
def TreeStandsWrongFalsely : Prop := treeStandsRow.holds Try.pinned (OpenSpec.ofChange treeStandsWrong)

/-- 'yearlaw2.TreeSizes': WHATEVER THE INPUT: true; the input reads as it did. -/
def treeSizesSpec : ChangeSpec := { name := "treeSizes", fn := fun _ => fun
  | [d1, d2, d3] => { results := [.lit (.bool true)], args := [d1, d2, d3] }
  | _ => none }
def treeSizesRow : OpenClaim := { program := "ytaojgabiefkcaaa", sum := "a4636a45d4efb03157db0ac520bb4c0f59282f0c5a7c05d8ce0301f9a5e6b4df", func := "yearbook/yearlaw2.TreeSizes", spec := "treeSizes", unfollowed := true, recurses := true, apart := false }
def TreeSizesSaid : Prop := treeSizesRow.holds Try.pinned (OpenSpec.ofChange treeSizesSpec)

/-- ITS FALSE NEIGHBOUR: 'it returns false'. Refute it at one input. -/
def treeSizesWrong : ChangeSpec := { name := "treeSizes", fn := fun _ => fun
  | [d1, d2, d3] => { results := [.lit (.bool false)], args := [d1, d2, d3] }
  | _ => none }
def TreeSizesWrongFalsely : Prop := treeSizesRow.holds Try.pinned (OpenSpec.ofChange treeSizesWrong)

/-- 'yearlaw2.TreeGrows': WHATEVER THE INPUT: true; the input reads as it did. -/
def treeGrowsSpec : ChangeSpec := { name := "treeGrows", fn := fun _ => fun
  | [d1, d2] => { results := [.lit (.bool true)], args := [d1, d2] }
  | _ => none }
def treeGrowsRow : OpenClaim := { program := "ytaojgabiefkcaaa", sum := "a4636a45d4efb03157db0ac520bb4c0f59282f0c5a7c05d8ce0301f9a5e6b4df", func := "yearbook/yearlaw2.TreeGrows", spec := "treeGrows", unfollowed := true, recurses := true, apart := false }
def TreeGrowsSaid : Prop := treeGrowsRow.holds Try.pinned (OpenSpec.ofChange treeGrowsSpec)

/-- ITS FALSE NEIGHBOUR: 'it returns false'. Refute it at one input. -/
def treeGrowsWrong : ChangeSpec := { name := "treeGrows", fn := fun _ => fun
  | [d1, d2] => { results := [.lit (.bool false)], args := [d1, d2] }
  | _ => none }
def TreeGrowsWrongFalsely : Prop := treeGrowsRow.holds Try.pinned (OpenSpec.ofChange treeGrowsWrong)

/-- 'yearlaw2.TreeChain': WHATEVER THE INPUT: true; the input reads as it did. -/
def treeChainSpec : ChangeSpec := { name := "treeChain", fn := fun _ => fun
  | [d1, d2, d3] => { results := [.lit (.bool true)], args := [d1, d2, d3] }
  | _ => none }
def treeChainRow : OpenClaim := { program := "ytaojgabiefkcaaa", sum := "a4636a45d4efb03157db0ac520bb4c0f59282f0c5a7c05d8ce0301f9a5e6b4df", func := "yearbook/yearlaw2.TreeChain", spec := "treeChain", unfollowed := true, recurses := true, apart := false }
def TreeChainSaid : Prop := treeChainRow.holds Try.pinned (OpenSpec.ofChange treeChainSpec)

/-- ITS FALSE NEIGHBOUR: 'it returns false'. Refute it at one input. -/
def treeChainWrong : ChangeSpec := { name := "treeChain", fn := fun _ => fun
  | [d1, d2, d3] => { results := [.lit (.bool false)], args := [d1, d2, d3] }
  | _ => none }
def TreeChainWrongFalsely : Prop := treeChainRow.holds Try.pinned (OpenSpec.ofChange treeChainWrong)

/-- 'yearlaw2.TreeEdge': WHATEVER THE INPUT: true; the input reads as it did. -/
def treeEdgeSpec : ChangeSpec := { name := "treeEdge", fn := fun _ => fun
  | [d] => { results := [.lit (.bool true)], args := [d] }
  | _ => none }
def treeEdgeRow : OpenClaim := { program := "ytaojgabiefkcaaa", sum := "a4636a45d4efb03157db0ac520bb4c0f59282f0c5a7c05d8ce0301f9a5e6b4df", func := "yearbook/yearlaw2.TreeEdge", spec := "treeEdge", unfollowed := true, recurses := true, apart := false }
def TreeEdgeSaid : Prop := treeEdgeRow.holds Try.pinned (OpenSpec.ofChange treeEdgeSpec)

/-- ITS FALSE NEIGHBOUR: 'it returns false'. Refute it at one input. -/
def treeEdgeWrong : ChangeSpec := { name := "treeEdge", fn := fun _ => fun
  | [d] => { results := [.lit (.bool false)], args := [d] }
  | _ => none }
def TreeEdgeWrongFalsely : Prop := treeEdgeRow.holds Try.pinned (OpenSpec.ofChange treeEdgeWrong)

/-- 'yearlaw2.TreeTells': WHATEVER THE INPUT: true; the input reads as it did. -/
def treeTellsSpec : ChangeSpec := { name := "treeTells", fn := fun _ => fun
  | [d1, d2, d3, d4, d5] => { results := [.lit (.bool true)], args := [d1, d2, d3, d4, d5] }
  | _ => none }
def treeTellsRow : OpenClaim := { program := "ytaojgabiefkcaaa", sum := "a4636a45d4efb03157db0ac520bb4c0f59282f0c5a7c05d8ce0301f9a5e6b4df", func := "yearbook/yearlaw2.TreeTells", spec := "treeTells", inPlace := ["math/bits.Add64"], unfollowed := true, recurses := true, apart := false }
def TreeTellsSaid : Prop := treeTellsRow.holds Try.pinned (OpenSpec.ofChange treeTellsSpec)

/-- ITS FALSE NEIGHBOUR: 'it returns false'. Refute it at one input. -/
def treeTellsWrong : ChangeSpec := { name := "treeTells", fn := fun _ => fun
  | [d1, d2, d3, d4, d5] => { results := [.lit (.bool false)], args := [d1, d2, d3, d4, d5] }
  | _ => none }
def TreeTellsWrongFalsely : Prop := treeTellsRow.holds Try.pinned (OpenSpec.ofChange treeTellsWrong)

/-- 'yearlaw3.ClashStands': WHATEVER THE INPUT: true; the input reads as it did. -/
def clashStandsSpec : ChangeSpec := { name := "clashStands", fn := fun _ => fun
  | [d1, d2, d3, d4] => { results := [.lit (.bool true)], args := [d1, d2, d3, d4] }
  | _ => none }
def clashStandsRow : OpenClaim := { program := "ytaojgabiefkcaaa", sum := "a4636a45d4efb03157db0ac520bb4c0f59282f0c5a7c05d8ce0301f9a5e6b4df", func := "yearbook/yearlaw3.ClashStands", spec := "clashStands", unfollowed := true, recurses := true, apart := false }
def ClashStandsSaid : Prop := clashStandsRow.holds Try.pinned (OpenSpec.ofChange clashStandsSpec)

/-- ITS FALSE NEIGHBOUR: 'it returns false'. Refute it at one input. -/
def clashStandsWrong : ChangeSpec := { name := "clashStands", fn := fun _ => fun
  | [d1, d2, d3, d4] => { results := [.lit (.bool false)], args := [d1, d2, d3, d4] }
  | _ => none }
def ClashStandsWrongFalsely : Prop := clashStandsRow.holds Try.pinned (OpenSpec.ofChange clashStandsWrong)

/-- 'yearlaw3.ClashTwo': WHATEVER THE INPUT: true; the input reads as it did. -/
def clashTwoSpec : ChangeSpec := { name := "clashTwo", fn := fun _ => fun
  | [d1, d2, d3, d4, d5, d6] => { results := [.lit (.bool true)], args := [d1, d2, d3, d4, d5, d6] }
  | _ => none }
def clashTwoRow : OpenClaim := { program := "ytaojgabiefkcaaa", sum := "a4636a45d4efb03157db0ac520bb4c0f59282f0c5a7c05d8ce0301f9a5e6b4df", func := "yearbook/yearlaw3.ClashTwo", spec := "clashTwo", unfollowed := true, recurses := true, apart := false }
def ClashTwoSaid : Prop := clashTwoRow.holds Try.pinned (OpenSpec.ofChange clashTwoSpec)

/-- ITS FALSE NEIGHBOUR: 'it returns false'. Refute it at one input. -/
def clashTwoWrong : ChangeSpec := { name := "clashTwo", fn := fun _ => fun
  | [d1, d2, d3, d4, d5, d6] => { results := [.lit (.bool false)], args := [d1, d2, d3, d4, d5, d6] }
  | _ => none }
def ClashTwoWrongFalsely : Prop := clashTwoRow.holds Try.pinned (OpenSpec.ofChange clashTwoWrong)

/-- 'yearlaw3.ClashTells': WHATEVER THE INPUT: true; the input reads as it did. -/
def clashTellsSpec : ChangeSpec := { name := "clashTells", fn := fun _ => fun
  | [d1, d2, d3, d4, d5, d6] => { results := [.lit (.bool true)], args := [d1, d2, d3, d4, d5, d6] }
  | _ => none }
def clashTellsRow : OpenClaim := { program := "ytaojgabiefkcaaa", sum := "a4636a45d4efb03157db0ac520bb4c0f59282f0c5a7c05d8ce0301f9a5e6b4df", func := "yearbook/yearlaw3.ClashTells", spec := "clashTells", unfollowed := true, recurses := true, apart := false }
def ClashTellsSaid : Prop := clashTellsRow.holds Try.pinned (OpenSpec.ofChange clashTellsSpec)

/-- ITS FALSE NEIGHBOUR: 'it returns false'. Refute it at one input. -/
def clashTellsWrong : ChangeSpec := { name := "clashTells", fn := fun _ => fun
  | [d1, d2, d3, d4, d5, d6] => { results := [.lit (.bool false)], args := [d1, d2, d3, d4, d5, d6] }
  | _ => none }
def ClashTellsWrongFalsely : Prop := clashTellsRow.holds Try.pinned (OpenSpec.ofChange clashTellsWrong)

/-- 'yearlaw3.ClashGrew': WHATEVER THE INPUT: true; the input reads as it did. -/
def clashGrewSpec : ChangeSpec := { name := "clashGrew", fn := fun _ => fun
  | [d1, d2, d3] => { results := [.lit (.bool true)], args := [d1, d2, d3] }
  | _ => none }
def clashGrewRow : OpenClaim := { program := "ytaojgabiefkcaaa", sum := "a4636a45d4efb03157db0ac520bb4c0f59282f0c5a7c05d8ce0301f9a5e6b4df", func := "yearbook/yearlaw3.ClashGrew", spec := "clashGrew", unfollowed := true, recurses := true, apart := false }
def ClashGrewSaid : Prop := clashGrewRow.holds Try.pinned (OpenSpec.ofChange clashGrewSpec)

/-- ITS FALSE NEIGHBOUR: 'it returns false'. Refute it at one input. -/
def clashGrewWrong : ChangeSpec := { name := "clashGrew", fn := fun _ => fun
  | [d1, d2, d3] => { results := [.lit (.bool false)], args := [d1, d2, d3] }
  | _ => none }
def ClashGrewWrongFalsely : Prop := clashGrewRow.holds Try.pinned (OpenSpec.ofChange clashGrewWrong)

/- THE SECOND FORM. 'bulk': how many values and letters a reading holds, each counted each time it is reached (what is shared counts as often as it is met; a slice's spare places count too). A statement '..UptoSaid' is the law's where the arguments, and the package variables that the reading takes, are together of bulk at most 1048576: NARROWER than '..Said'. Prove '..Said' where nothing that the law and all that it calls make is longer than what came in: it says more and counts as full. Else prove '..UptoSaid'. A law counts once. -/
mutual
def uptoBulk {H : Type} : DataW H → Nat
  | .lit (.string bytes) => bytes.length + 1
  | .lit _ => 1
  | .nil => 1
  | .ptr d => uptoBulk d + 1
  | .slice elems spare => uptoBulkAll elems + uptoBulkAll spare + 1
  | .agg parts => uptoBulkAll parts + 1
  | .iface _ d => uptoBulk d + 1
  | .map entries => uptoBulkEntries entries + 1
  | .held _ => 1
def uptoBulkAll {H : Type} : List (DataW H) → Nat
  | [] => 0
  | d :: r => uptoBulk d + uptoBulkAll r
def uptoBulkEntries {H : Type} : List (Lit × DataW H) → Nat
  | [] => 0
  | x :: r => uptoBulkEntry x + uptoBulkEntries r
def uptoBulkEntry {H : Type} : Lit × DataW H → Nat
  | (.string bytes, d) => bytes.length + uptoBulk d + 1
  | (_, d) => uptoBulk d + 1
 end
def uptoSmall : (H : Type) → List (DataW H) → Bool := fun _ ds => decide (uptoBulkAll ds ≤ 1048576)
def OpenSpec.upto (s : _root_.Go.ChangeSpec) : _root_.Go.OpenSpec := { _root_.Go.OpenSpec.ofChange s with cond := some uptoSmall }

/-- 'yearlaw2.TreeShown', WHERE WHAT IT READS IS OF BULK AT MOST 1048576: true; the input reads as it did. -/
def treeShownUptoRow : OpenClaim := { program := "ytaojgabiefkcaaa", sum := "a4636a45d4efb03157db0ac520bb4c0f59282f0c5a7c05d8ce0301f9a5e6b4df", func := "yearbook/yearlaw2.TreeShown", spec := "treeShown", inPlace := ["math/bits.Add64"], unfollowed := true, recurses := true, apart := false, narrowed := true }
def TreeShownUptoSaid : Prop := treeShownUptoRow.holds Try.pinned (OpenSpec.upto treeShownSpec)

/-- 'yearlaw2.TreeStands', WHERE WHAT IT READS IS OF BULK AT MOST 1048576: true; the input reads as it did. -/
def treeStandsUptoRow : OpenClaim := { program := "ytaojgabiefkcaaa", sum := "a4636a45d4efb03157db0ac520bb4c0f59282f0c5a7c05d8ce0301f9a5e6b4df", func := "yearbook/yearlaw2.TreeStands", spec := "treeStands", unfollowed := true, recurses := true, apart := false, narrowed := true }
def TreeStandsUptoSaid : Prop := treeStandsUptoRow.holds Try.pinned (OpenSpec.upto treeStandsSpec)

/-- 'yearlaw2.TreeSizes', WHERE WHAT IT READS IS OF BULK AT MOST 1048576: true; the input reads as it did. -/
def treeSizesUptoRow : OpenClaim := { program := "ytaojgabiefkcaaa", sum := "a4636a45d4efb03157db0ac520bb4c0f59282f0c5a7c05d8ce0301f9a5e6b4df", func := "yearbook/yearlaw2.TreeSizes", spec := "treeSizes", unfollowed := true, recurses := true, apart := false, narrowed := true }
def TreeSizesUptoSaid : Prop := treeSizesUptoRow.holds Try.pinned (OpenSpec.upto treeSizesSpec)

/-- 'yearlaw2.TreeGrows', WHERE WHAT IT READS IS OF BULK AT MOST 1048576: true; the input reads as it did. -/
def treeGrowsUptoRow : OpenClaim := { program := "ytaojgabiefkcaaa", sum := "a4636a45d4efb03157db0ac520bb4c0f59282f0c5a7c05d8ce0301f9a5e6b4df", func := "yearbook/yearlaw2.TreeGrows", spec := "treeGrows", unfollowed := true, recurses := true, apart := false, narrowed := true }
def TreeGrowsUptoSaid : Prop := treeGrowsUptoRow.holds Try.pinned (OpenSpec.upto treeGrowsSpec)

/-- 'yearlaw2.TreeChain', WHERE WHAT IT READS IS OF BULK AT MOST 1048576: true; the input reads as it did. -/
def treeChainUptoRow : OpenClaim := { program := "ytaojgabiefkcaaa", sum := "a4636a45d4efb03157db0ac520bb4c0f59282f0c5a7c05d8ce0301f9a5e6b4df", func := "yearbook/yearlaw2.TreeChain", spec := "treeChain", unfollowed := true, recurses := true, apart := false, narrowed := true }
def TreeChainUptoSaid : Prop := treeChainUptoRow.holds Try.pinned (OpenSpec.upto treeChainSpec)

/-- 'yearlaw2.TreeEdge', WHERE WHAT IT READS IS OF BULK AT MOST 1048576: true; the input reads as it did. -/
def treeEdgeUptoRow : OpenClaim := { program := "ytaojgabiefkcaaa", sum := "a4636a45d4efb03157db0ac520bb4c0f59282f0c5a7c05d8ce0301f9a5e6b4df", func := "yearbook/yearlaw2.TreeEdge", spec := "treeEdge", unfollowed := true, recurses := true, apart := false, narrowed := true }
def TreeEdgeUptoSaid : Prop := treeEdgeUptoRow.holds Try.pinned (OpenSpec.upto treeEdgeSpec)

/-- 'yearlaw2.TreeTells', WHERE WHAT IT READS IS OF BULK AT MOST 1048576: true; the input reads as it did. -/
def treeTellsUptoRow : OpenClaim := { program := "ytaojgabiefkcaaa", sum := "a4636a45d4efb03157db0ac520bb4c0f59282f0c5a7c05d8ce0301f9a5e6b4df", func := "yearbook/yearlaw2.TreeTells", spec := "treeTells", inPlace := ["math/bits.Add64"], unfollowed := true, recurses := true, apart := false, narrowed := true }
def TreeTellsUptoSaid : Prop := treeTellsUptoRow.holds Try.pinned (OpenSpec.upto treeTellsSpec)

/-- 'yearlaw3.ClashStands', WHERE WHAT IT READS IS OF BULK AT MOST 1048576: true; the input reads as it did. -/
def clashStandsUptoRow : OpenClaim := { program := "ytaojgabiefkcaaa", sum := "a4636a45d4efb03157db0ac520bb4c0f59282f0c5a7c05d8ce0301f9a5e6b4df", func := "yearbook/yearlaw3.ClashStands", spec := "clashStands", unfollowed := true, recurses := true, apart := false, narrowed := true }
def ClashStandsUptoSaid : Prop := clashStandsUptoRow.holds Try.pinned (OpenSpec.upto clashStandsSpec)

/-- 'yearlaw3.ClashTwo', WHERE WHAT IT READS IS OF BULK AT MOST 1048576: true; the input reads as it did. -/
def clashTwoUptoRow : OpenClaim := { program := "ytaojgabiefkcaaa", sum := "a4636a45d4efb03157db0ac520bb4c0f59282f0c5a7c05d8ce0301f9a5e6b4df", func := "yearbook/yearlaw3.ClashTwo", spec := "clashTwo", unfollowed := true, recurses := true, apart := false, narrowed := true }
def ClashTwoUptoSaid : Prop := clashTwoUptoRow.holds Try.pinned (OpenSpec.upto clashTwoSpec)

/-- 'yearlaw3.ClashTells', WHERE WHAT IT READS IS OF BULK AT MOST 1048576: true; the input reads as it did. -/
def clashTellsUptoRow : OpenClaim := { program := "ytaojgabiefkcaaa", sum := "a4636a45d4efb03157db0ac520bb4c0f59282f0c5a7c05d8ce0301f9a5e6b4df", func := "yearbook/yearlaw3.ClashTells", spec := "clashTells", unfollowed := true, recurses := true, apart := false, narrowed := true }
def ClashTellsUptoSaid : Prop := clashTellsUptoRow.holds Try.pinned (OpenSpec.upto clashTellsSpec)

/-- 'yearlaw3.ClashGrew', WHERE WHAT IT READS IS OF BULK AT MOST 1048576: true; the input reads as it did. -/
def clashGrewUptoRow : OpenClaim := { program := "ytaojgabiefkcaaa", sum := "a4636a45d4efb03157db0ac520bb4c0f59282f0c5a7c05d8ce0301f9a5e6b4df", func := "yearbook/yearlaw3.ClashGrew", spec := "clashGrew", unfollowed := true, recurses := true, apart := false, narrowed := true }
def ClashGrewUptoSaid : Prop := clashGrewUptoRow.holds Try.pinned (OpenSpec.upto clashGrewSpec)

end Rows
end Go.Proofs.Ytaojgabiefkcaaa
