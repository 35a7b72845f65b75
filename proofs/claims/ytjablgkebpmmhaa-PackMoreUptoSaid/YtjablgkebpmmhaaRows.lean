/-
  No cell of these rows narrows 'for every input' (looked for: loops, veiled, ifaces, maps, wideKeys, modest, calm, conditions, laid).
  DERIVED. THE GIVEN ROWS OF THIS SEAT. 10 by the template 'for every input the law returns true; each argument reads behind the call as it read before'; 0 by the template 'total and deterministic' (their statements: YtjablgkebpmmhaaTotals.lean).
  GIVEN WITH THE SEED: the statements are not yours to turn. If you find one false, say at which input.
  Laid BY PROGRAM, IN A SANDBOX (cutbox-rows.mjs): the forced cells as the released guide's own fill.sh prints them over the translation a6e3f7f591edbf9a… (all of the seat's roots in one cut). By AI agents, Wed Nov 11 2026. No macro, syntax, notation, axiom, sorry.
-/
import Derived.Test.YtjablgkebpmmhaaChecked
import GoSem.Claim
import GoSem.ClaimJoined
import GoSem.ClaimMapViews
import Derived.JoinedTies
import Derived.KernelRfl
namespace Go.Proofs.Ytjablgkebpmmhaa
/- THE CELL 'sum', in the pinned program and in every row, IS THE sha256 OF THE DUMP (.gsa) THAT YtjablgkebpmmhaaProg.lean LOADS. Nothing in Lean hashes anything: it is a label: what it is worth is what the hold of that sum in a sandbox is worth. -/
noncomputable def Try.pinned : Pinned := { name := "ytjablgkebpmmhaa", sum := "a6e3f7f591edbf9a8a4bf679e209b2b9d7440673020d1b2edb52a34c69d2868f", checked := Try.checked }
namespace Rows
def none {H : Type} : Left H := { results := [], args := [] }

/-- 'yearlaw1.ShaParts': WHATEVER THE INPUT: true; the input reads as it did. -/
def shaPartsSpec : ChangeSpec := { name := "shaParts", fn := fun _ => fun
  | [d] => { results := [.lit (.bool true)], args := [d] }
  | _ => none }
def shaPartsRow : OpenClaim := { program := "ytjablgkebpmmhaa", sum := "a6e3f7f591edbf9a8a4bf679e209b2b9d7440673020d1b2edb52a34c69d2868f", func := "yearbook/yearlaw1.ShaParts", spec := "shaParts", apart := false }
def ShaPartsSaid : Prop := shaPartsRow.holds Try.pinned (OpenSpec.ofChange shaPartsSpec)

/-- ITS FALSE NEIGHBOUR: 'it returns false'. Refute it at one input. -/
def shaPartsWrong : ChangeSpec := { name := "shaParts", fn := fun _ => fun
  | [d] => { results := [.lit (.bool false)], args := [d] }
  | _ => none }
def ShaPartsWrongFalsely : Prop := shaPartsRow.holds Try.pinned (OpenSpec.ofChange shaPartsWrong)

/-- 'yearlaw1.ShaKnown': WHATEVER THE INPUT: true; the input reads as it did. -/
def shaKnownSpec : ChangeSpec := { name := "shaKnown", fn := fun _ => fun
  | [] => { results := [.lit (.bool true)], args := [] }
  | _ => none }
def shaKnownRow : OpenClaim := { program := "ytjablgkebpmmhaa", sum := "a6e3f7f591edbf9a8a4bf679e209b2b9d7440673020d1b2edb52a34c69d2868f", func := "yearbook/yearlaw1.ShaKnown", spec := "shaKnown", apart := false }
def ShaKnownSaid : Prop := shaKnownRow.holds Try.pinned (OpenSpec.ofChange shaKnownSpec)

/-- ITS FALSE NEIGHBOUR: 'it returns false'. Refute it at one input. -/
def shaKnownWrong : ChangeSpec := { name := "shaKnown", fn := fun _ => fun
  | [] => { results := [.lit (.bool false)], args := [] }
  | _ => none }
def ShaKnownWrongFalsely : Prop := shaKnownRow.holds Try.pinned (OpenSpec.ofChange shaKnownWrong)

/-- 'yearlaw1.ShaAgain': WHATEVER THE INPUT: true; the input reads as it did. -/
def shaAgainSpec : ChangeSpec := { name := "shaAgain", fn := fun _ => fun
  | [d] => { results := [.lit (.bool true)], args := [d] }
  | _ => none }
def shaAgainRow : OpenClaim := { program := "ytjablgkebpmmhaa", sum := "a6e3f7f591edbf9a8a4bf679e209b2b9d7440673020d1b2edb52a34c69d2868f", func := "yearbook/yearlaw1.ShaAgain", spec := "shaAgain", apart := false }
def ShaAgainSaid : Prop := shaAgainRow.holds Try.pinned (OpenSpec.ofChange shaAgainSpec)

/-- ITS FALSE NEIGHBOUR: 'it returns false'. Refute it at one input. -/
def shaAgainWrong : ChangeSpec := { name := "shaAgain", fn := fun _ => fun
  | [d] => { results := [.lit (.bool false)], args := [d] }
  | _ => none }
def ShaAgainWrongFalsely : Prop := shaAgainRow.holds Try.pinned (OpenSpec.ofChange shaAgainWrong)

/-- 'yearlaw1.ShaTells': WHATEVER THE INPUT: true; the input reads as it did. -/
def shaTellsSpec : ChangeSpec := { name := "shaTells", fn := fun _ => fun
  | [d] => { results := [.lit (.bool true)], args := [d] }
  | _ => none }
def shaTellsRow : OpenClaim := { program := "ytjablgkebpmmhaa", sum := "a6e3f7f591edbf9a8a4bf679e209b2b9d7440673020d1b2edb52a34c69d2868f", func := "yearbook/yearlaw1.ShaTells", spec := "shaTells", inPlace := ["math/bits.Add64"], apart := false }
def ShaTellsSaid : Prop := shaTellsRow.holds Try.pinned (OpenSpec.ofChange shaTellsSpec)

/-- ITS FALSE NEIGHBOUR: 'it returns false'. Refute it at one input. -/
def shaTellsWrong : ChangeSpec := { name := "shaTells", fn := fun _ => fun
  | [d] => { results := [.lit (.bool false)], args := [d] }
  | _ => none }
def ShaTellsWrongFalsely : Prop := shaTellsRow.holds Try.pinned (OpenSpec.ofChange shaTellsWrong)

/-- 'yearlaw4.PackTells': WHATEVER THE INPUT: true; the input reads as it did. -/
def packTellsSpec : ChangeSpec := { name := "packTells", fn := fun _ => fun
  | [d1, d2, d3] => { results := [.lit (.bool true)], args := [d1, d2, d3] }
  | _ => none }
def packTellsRow : OpenClaim := { program := "ytjablgkebpmmhaa", sum := "a6e3f7f591edbf9a8a4bf679e209b2b9d7440673020d1b2edb52a34c69d2868f", func := "yearbook/yearlaw4.PackTells", spec := "packTells", unfollowed := true, recurses := true, apart := false }
def PackTellsSaid : Prop := packTellsRow.holds Try.pinned (OpenSpec.ofChange packTellsSpec)

/-- ITS FALSE NEIGHBOUR: 'it returns false'. Refute it at one input. -/
def packTellsWrong : ChangeSpec := { name := "packTells", fn := fun _ => fun
  | [d1, d2, d3] => { results := [.lit (.bool false)], args := [d1, d2, d3] }
  | _ => none }
def PackTellsWrongFalsely : Prop := packTellsRow.holds Try.pinned (OpenSpec.ofChange packTellsWrong)

/-- 'yearlaw4.PackTurns': WHATEVER THE INPUT: true; the input reads as it did. -/
def packTurnsSpec : ChangeSpec := { name := "packTurns", fn := fun _ => fun
  | [d] => { results := [.lit (.bool true)], args := [d] }
  | _ => none }
def packTurnsRow : OpenClaim := { program := "ytjablgkebpmmhaa", sum := "a6e3f7f591edbf9a8a4bf679e209b2b9d7440673020d1b2edb52a34c69d2868f", func := "yearbook/yearlaw4.PackTurns", spec := "packTurns", unfollowed := true, recurses := true, apart := false }
def PackTurnsSaid : Prop := packTurnsRow.holds Try.pinned (OpenSpec.ofChange packTurnsSpec)

/-- ITS FALSE NEIGHBOUR: 'it returns false'. Refute it at one input. -/
def packTurnsWrong : ChangeSpec := { name := "packTurns", fn := fun _ => fun
  | [d] => { results := [.lit (.bool false)], args := [d] }
  | _ => none }
def PackTurnsWrongFalsely : Prop := packTurnsRow.holds Try.pinned (OpenSpec.ofChange packTurnsWrong)

/-- 'yearlaw4.PackSize': WHATEVER THE INPUT: true; the input reads as it did. -/
def packSizeSpec : ChangeSpec := { name := "packSize", fn := fun _ => fun
  | [d1, d2, d3] => { results := [.lit (.bool true)], args := [d1, d2, d3] }
  | _ => none }
def packSizeRow : OpenClaim := { program := "ytjablgkebpmmhaa", sum := "a6e3f7f591edbf9a8a4bf679e209b2b9d7440673020d1b2edb52a34c69d2868f", func := "yearbook/yearlaw4.PackSize", spec := "packSize", unfollowed := true, recurses := true, apart := false }
def PackSizeSaid : Prop := packSizeRow.holds Try.pinned (OpenSpec.ofChange packSizeSpec)

/-- ITS FALSE NEIGHBOUR: 'it returns false'. Refute it at one input. -/
def packSizeWrong : ChangeSpec := { name := "packSize", fn := fun _ => fun
  | [d1, d2, d3] => { results := [.lit (.bool false)], args := [d1, d2, d3] }
  | _ => none }
def PackSizeWrongFalsely : Prop := packSizeRow.holds Try.pinned (OpenSpec.ofChange packSizeWrong)

/-- 'yearlaw4.PackFirst': WHATEVER THE INPUT: true; the input reads as it did. -/
def packFirstSpec : ChangeSpec := { name := "packFirst", fn := fun _ => fun
  | [d1, d2] => { results := [.lit (.bool true)], args := [d1, d2] }
  | _ => none }
def packFirstRow : OpenClaim := { program := "ytjablgkebpmmhaa", sum := "a6e3f7f591edbf9a8a4bf679e209b2b9d7440673020d1b2edb52a34c69d2868f", func := "yearbook/yearlaw4.PackFirst", spec := "packFirst", unfollowed := true, recurses := true, apart := false }
def PackFirstSaid : Prop := packFirstRow.holds Try.pinned (OpenSpec.ofChange packFirstSpec)

/-- ITS FALSE NEIGHBOUR: 'it returns false'. Refute it at one input. -/
def packFirstWrong : ChangeSpec := { name := "packFirst", fn := fun _ => fun
  | [d1, d2] => { results := [.lit (.bool false)], args := [d1, d2] }
  | _ => none }
def PackFirstWrongFalsely : Prop := packFirstRow.holds Try.pinned (OpenSpec.ofChange packFirstWrong)

/-- 'yearlaw4.PackMore': WHATEVER THE INPUT: true; the input reads as it did. -/
def packMoreSpec : ChangeSpec := { name := "packMore", fn := fun _ => fun
  | [d1, d2] => { results := [.lit (.bool true)], args := [d1, d2] }
  | _ => none }
def packMoreRow : OpenClaim := { program := "ytjablgkebpmmhaa", sum := "a6e3f7f591edbf9a8a4bf679e209b2b9d7440673020d1b2edb52a34c69d2868f", func := "yearbook/yearlaw4.PackMore", spec := "packMore", unfollowed := true, recurses := true, apart := false }
def PackMoreSaid : Prop := packMoreRow.holds Try.pinned (OpenSpec.ofChange packMoreSpec)

/-- ITS FALSE NEIGHBOUR: 'it returns false'. Refute it at one input. -/
def packMoreWrong : ChangeSpec := { name := "packMore", fn := fun _ => fun
  | [d1, d2] => { results := [.lit (.bool false)], args := [d1, d2] }
  | _ => none }
def PackMoreWrongFalsely : Prop := packMoreRow.holds Try.pinned (OpenSpec.ofChange packMoreWrong)

/-- 'yeartop.Names': WHATEVER THE INPUT: true; the input reads as it did. -/
def namesSpec : ChangeSpec := { name := "names", fn := fun _ => fun
  | [] => { results := [.lit (.bool true)], args := [] }
  | _ => none }
def namesRow : OpenClaim := { program := "ytjablgkebpmmhaa", sum := "a6e3f7f591edbf9a8a4bf679e209b2b9d7440673020d1b2edb52a34c69d2868f", func := "yearbook/yeartop.Names", spec := "names", apart := false }
def NamesSaid : Prop := namesRow.holds Try.pinned (OpenSpec.ofChange namesSpec)

/-- ITS FALSE NEIGHBOUR: 'it returns false'. Refute it at one input. -/
def namesWrong : ChangeSpec := { name := "names", fn := fun _ => fun
  | [] => { results := [.lit (.bool false)], args := [] }
  | _ => none }
def NamesWrongFalsely : Prop := namesRow.holds Try.pinned (OpenSpec.ofChange namesWrong)

/- THE SECOND FORM. 'bulk': how many values and letters a reading holds, each counted each time it is reached (what is shared counts as often as it is met; a slice's spare places count too). A statement '..UptoSaid' is the law's where the arguments, and the package variables that the reading takes, are together of bulk at most 1048576: NARROWER than '..Said'. Prove '..Said' where nothing that the law and all that it calls make is longer than what came in: it says more and counts as full. Else prove '..UptoSaid'. A law counts once. -/
mutual
def uptoBulk {H : Type} : DataW H → Nat
  | .lit (.string bytes) => bytes.length + 1
  | .lit _ => 1
  | .nil => 1
  | .ptr d => uptoBulk d + 1
  | .slice elems spare => uptoBulkAll elems + uptoBulkAll spare + 1
  | .agg parts => uptoBulkAll parts + 1
  | .iface _ d => uptoBulk d + 1
  | .map entries => uptoBulkEntries entries + 1
  | .held _ => 1
def uptoBulkAll {H : Type} : List (DataW H) → Nat
  | [] => 0
  | d :: r => uptoBulk d + uptoBulkAll r
def uptoBulkEntries {H : Type} : List (Lit × DataW H) → Nat
  | [] => 0
  | x :: r => uptoBulkEntry x + uptoBulkEntries r
def uptoBulkEntry {H : Type} : Lit × DataW H → Nat
  | (.string bytes, d) => bytes.length + uptoBulk d + 1
  | (_, d) => uptoBulk d + 1
 end
def uptoSmall : (H : Type) → List (DataW H) → Bool := fun _ ds => decide (uptoBulkAll ds ≤ 1048576)
def OpenSpec.upto (s : _root_.Go.ChangeSpec) : _root_.Go.OpenSpec := { _root_.Go.OpenSpec.ofChange s with cond := some uptoSmall }

/-- 'yearlaw1.ShaParts', WHERE WHAT IT READS IS OF BULK AT MOST 1048576: true; the input reads as it did. -/
def shaPartsUptoRow : OpenClaim := { program := "ytjablgkebpmmhaa", sum := "a6e3f7f591edbf9a8a4bf679e209b2b9d7440673020d1b2edb52a34c69d2868f", func := "yearbook/yearlaw1.ShaParts", spec := "shaParts", apart := false, narrowed := true }
def ShaPartsUptoSaid : Prop := shaPartsUptoRow.holds Try.pinned (OpenSpec.upto shaPartsSpec)

/-- 'yearlaw1.ShaKnown', WHERE WHAT IT READS IS OF BULK AT MOST 1048576: true; the input reads as it did. -/
def shaKnownUptoRow : OpenClaim := { program := "ytjablgkebpmmhaa", sum := "a6e3f7f591edbf9a8a4bf679e209b2b9d7440673020d1b2edb52a34c69d2868f", func := "yearbook/yearlaw1.ShaKnown", spec := "shaKnown", apart := false, narrowed := true }
def ShaKnownUptoSaid : Prop := shaKnownUptoRow.holds Try.pinned (OpenSpec.upto shaKnownSpec)

/-- 'yearlaw1.ShaAgain', WHERE WHAT IT READS IS OF BULK AT MOST 1048576: true; the input reads as it did. -/
def shaAgainUptoRow : OpenClaim := { program := "ytjablgkebpmmhaa", sum := "a6e3f7f591edbf9a8a4bf679e209b2b9d7440673020d1b2edb52a34c69d2868f", func := "yearbook/yearlaw1.ShaAgain", spec := "shaAgain", apart := false, narrowed := true }
def ShaAgainUptoSaid : Prop := shaAgainUptoRow.holds Try.pinned (OpenSpec.upto shaAgainSpec)

/-- 'yearlaw1.ShaTells', WHERE WHAT IT READS IS OF BULK AT MOST 1048576: true; the input reads as it did. -/
def shaTellsUptoRow : OpenClaim := { program := "ytjablgkebpmmhaa", sum := "a6e3f7f591edbf9a8a4bf679e209b2b9d7440673020d1b2edb52a34c69d2868f", func := "yearbook/yearlaw1.ShaTells", spec := "shaTells", inPlace := ["math/bits.Add64"], apart := false, narrowed := true }
def ShaTellsUptoSaid : Prop := shaTellsUptoRow.holds Try.pinned (OpenSpec.upto shaTellsSpec)

/-- 'yearlaw4.PackTells', WHERE WHAT IT READS IS OF BULK AT MOST 1048576: true; the input reads as it did. -/
def packTellsUptoRow : OpenClaim := { program := "ytjablgkebpmmhaa", sum := "a6e3f7f591edbf9a8a4bf679e209b2b9d7440673020d1b2edb52a34c69d2868f", func := "yearbook/yearlaw4.PackTells", spec := "packTells", unfollowed := true, recurses := true, apart := false, narrowed := true }
def PackTellsUptoSaid : Prop := packTellsUptoRow.holds Try.pinned (OpenSpec.upto packTellsSpec)

/-- 'yearlaw4.PackTurns', WHERE WHAT IT READS IS OF BULK AT MOST 1048576: true; the input reads as it did. -/
def packTurnsUptoRow : OpenClaim := { program := "ytjablgkebpmmhaa", sum := "a6e3f7f591edbf9a8a4bf679e209b2b9d7440673020d1b2edb52a34c69d2868f", func := "yearbook/yearlaw4.PackTurns", spec := "packTurns", unfollowed := true, recurses := true, apart := false, narrowed := true }
def PackTurnsUptoSaid : Prop := packTurnsUptoRow.holds Try.pinned (OpenSpec.upto packTurnsSpec)

/-- 'yearlaw4.PackSize', WHERE WHAT IT READS IS OF BULK AT MOST 1048576: true; the input reads as it did. -/
def packSizeUptoRow : OpenClaim := { program := "ytjablgkebpmmhaa", sum := "a6e3f7f591edbf9a8a4bf679e209b2b9d7440673020d1b2edb52a34c69d2868f", func := "yearbook/yearlaw4.PackSize", spec := "packSize", unfollowed := true, recurses := true, apart := false, narrowed := true }
def PackSizeUptoSaid : Prop := packSizeUptoRow.holds Try.pinned (OpenSpec.upto packSizeSpec)

/-- 'yearlaw4.PackFirst', WHERE WHAT IT READS IS OF BULK AT MOST 1048576: true; the input reads as it did. -/
def packFirstUptoRow : OpenClaim := { program := "ytjablgkebpmmhaa", sum := "a6e3f7f591edbf9a8a4bf679e209b2b9d7440673020d1b2edb52a34c69d2868f", func := "yearbook/yearlaw4.PackFirst", spec := "packFirst", unfollowed := true, recurses := true, apart := false, narrowed := true }
def PackFirstUptoSaid : Prop := packFirstUptoRow.holds Try.pinned (OpenSpec.upto packFirstSpec)

/-- 'yearlaw4.PackMore', WHERE WHAT IT READS IS OF BULK AT MOST 1048576: true; the input reads as it did. -/
def packMoreUptoRow : OpenClaim := { program := "ytjablgkebpmmhaa", sum := "a6e3f7f591edbf9a8a4bf679e209b2b9d7440673020d1b2edb52a34c69d2868f", func := "yearbook/yearlaw4.PackMore", spec := "packMore", unfollowed := true, recurses := true, apart := false, narrowed := true }
def PackMoreUptoSaid : Prop := packMoreUptoRow.holds Try.pinned (OpenSpec.upto packMoreSpec)

/-- 'yeartop.Names', WHERE WHAT IT READS IS OF BULK AT MOST 1048576: true; the input reads as it did. -/
def namesUptoRow : OpenClaim := { program := "ytjablgkebpmmhaa", sum := "a6e3f7f591edbf9a8a4bf679e209b2b9d7440673020d1b2edb52a34c69d2868f", func := "yearbook/yeartop.Names", spec := "names", apart := false, narrowed := true }
def NamesUptoSaid : Prop := namesUptoRow.holds Try.pinned (OpenSpec.upto namesSpec)

end Rows
end Go.Proofs.Ytjablgkebpmmhaa
