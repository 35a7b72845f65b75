/-
  No cell of these rows narrows 'for every input' (looked for: loops, veiled, ifaces, maps, wideKeys, modest, calm, conditions, laid).
  DERIVED. THE GIVEN ROWS OF THIS SEAT. 8 by the template 'for every input the law returns true; each argument reads behind the call as it read before'; 0 by the template 'total and deterministic' (their statements: YtgbjfilkecmmgaaTotals.lean).
  GIVEN WITH THE SEED: the statements are not yours to turn. If you find one false, say at which input.
  Laid BY PROGRAM, IN A SANDBOX (cutbox-rows.mjs): the forced cells as the released guide's own fill.sh prints them over the translation 880a23a92e6e6c69… (all of the seat's roots in one cut). By AI agents, Wed Nov 11 2026. No macro, syntax, notation, axiom, sorry.
-/
import Derived.Test.YtgbjfilkecmmgaaChecked
import GoSem.Claim
import GoSem.ClaimJoined
import GoSem.ClaimMapViews
import Derived.JoinedTies
import Derived.KernelRfl
namespace Go.Proofs.Ytgbjfilkecmmgaa
/- THE CELL 'sum', in the pinned program and in every row, IS THE sha256 OF THE DUMP (.gsa) THAT YtgbjfilkecmmgaaProg.lean LOADS. Nothing in Lean hashes anything: it is a label: what it is worth is what the hold of that sum in a sandbox is worth. -/
noncomputable def Try.pinned : Pinned := { name := "ytgbjfilkecmmgaa", sum := "880a23a92e6e6c69e3cb1cd0b68eae897aa3787e06cf04914bb8c086c6096fe5", checked := Try.checked }
namespace Rows
def none {H : Type} : Left H := { results := [], args := [] }

/-- 'yearlaw6.BookTurns': WHATEVER THE INPUT: true; the input reads as it did. -/
def bookTurnsSpec : ChangeSpec := { name := "bookTurns", fn := fun _ => fun
  | [d1, d2] => { results := [.lit (.bool true)], args := [d1, d2] }
  | _ => none }
def bookTurnsRow : OpenClaim := { program := "ytgbjfilkecmmgaa", sum := "880a23a92e6e6c69e3cb1cd0b68eae897aa3787e06cf04914bb8c086c6096fe5", func := "yearbook/yearlaw6.BookTurns", spec := "bookTurns", recurses := true, apart := false }
def BookTurnsSaid : Prop := bookTurnsRow.holds Try.pinned (OpenSpec.ofChange bookTurnsSpec)

/-- ITS FALSE NEIGHBOUR: 'it returns false'. Refute it at one input. -/
def bookTurnsWrong : ChangeSpec := { name := "bookTurns", fn := fun _ => fun
  | [d1, d2] => { results := [.lit (.bool false)], args := [d1, d2] }
  | _ => none }
def BookTurnsWrongFalsely : Prop := bookTurnsRow.holds Try.pinned (OpenSpec.ofChange bookTurnsWrong)

/-- 'yearlaw6.BookTells': WHATEVER THE INPUT: true; the input reads as it did. -/
def bookTellsSpec : ChangeSpec := { name := "bookTells", fn := fun _ => fun
  | [d1, d2, d3, d4, d5] => { results := [.lit (.bool true)], args := [d1, d2, d3, d4, d5] }
  | _ => none }
def bookTellsRow : OpenClaim := { program := "ytgbjfilkecmmgaa", sum := "880a23a92e6e6c69e3cb1cd0b68eae897aa3787e06cf04914bb8c086c6096fe5", func := "yearbook/yearlaw6.BookTells", spec := "bookTells", inPlace := ["math/bits.Add64"], unfollowed := true, recurses := true, apart := false }
def BookTellsSaid : Prop := bookTellsRow.holds Try.pinned (OpenSpec.ofChange bookTellsSpec)

/-- ITS FALSE NEIGHBOUR: 'it returns false'. Refute it at one input. -/
def bookTellsWrong : ChangeSpec := { name := "bookTells", fn := fun _ => fun
  | [d1, d2, d3, d4, d5] => { results := [.lit (.bool false)], args := [d1, d2, d3, d4, d5] }
  | _ => none }
def BookTellsWrongFalsely : Prop := bookTellsRow.holds Try.pinned (OpenSpec.ofChange bookTellsWrong)

/-- 'yearlaw6.BookStands': WHATEVER THE INPUT: true; the input reads as it did. -/
def bookStandsSpec : ChangeSpec := { name := "bookStands", fn := fun _ => fun
  | [d] => { results := [.lit (.bool true)], args := [d] }
  | _ => none }
def bookStandsRow : OpenClaim := { program := "ytgbjfilkecmmgaa", sum := "880a23a92e6e6c69e3cb1cd0b68eae897aa3787e06cf04914bb8c086c6096fe5", func := "yearbook/yearlaw6.BookStands", spec := "bookStands", unfollowed := true, recurses := true, apart := false }
def BookStandsSaid : Prop := bookStandsRow.holds Try.pinned (OpenSpec.ofChange bookStandsSpec)

/-- ITS FALSE NEIGHBOUR: 'it returns false'. Refute it at one input. -/
def bookStandsWrong : ChangeSpec := { name := "bookStands", fn := fun _ => fun
  | [d] => { results := [.lit (.bool false)], args := [d] }
  | _ => none }
def BookStandsWrongFalsely : Prop := bookStandsRow.holds Try.pinned (OpenSpec.ofChange bookStandsWrong)

/-- 'yearlaw5.ShelfTurns': WHATEVER THE INPUT: true; the input reads as it did. -/
def shelfTurnsSpec : ChangeSpec := { name := "shelfTurns", fn := fun _ => fun
  | [d] => { results := [.lit (.bool true)], args := [d] }
  | _ => none }
def shelfTurnsRow : OpenClaim := { program := "ytgbjfilkecmmgaa", sum := "880a23a92e6e6c69e3cb1cd0b68eae897aa3787e06cf04914bb8c086c6096fe5", func := "yearbook/yearlaw5.ShelfTurns", spec := "shelfTurns", unfollowed := true, recurses := true, apart := false }
def ShelfTurnsSaid : Prop := shelfTurnsRow.holds Try.pinned (OpenSpec.ofChange shelfTurnsSpec)

/-- ITS FALSE NEIGHBOUR: 'it returns false'. Refute it at one input. -/
def shelfTurnsWrong : ChangeSpec := { name := "shelfTurns", fn := fun _ => fun
  | [d] => { results := [.lit (.bool false)], args := [d] }
  | _ => none }
def ShelfTurnsWrongFalsely : Prop := shelfTurnsRow.holds Try.pinned (OpenSpec.ofChange shelfTurnsWrong)

/-- 'yearlaw5.ShelfParts': WHATEVER THE INPUT: true; the input reads as it did. -/
def shelfPartsSpec : ChangeSpec := { name := "shelfParts", fn := fun _ => fun
  | [d] => { results := [.lit (.bool true)], args := [d] }
  | _ => none }
def shelfPartsRow : OpenClaim := { program := "ytgbjfilkecmmgaa", sum := "880a23a92e6e6c69e3cb1cd0b68eae897aa3787e06cf04914bb8c086c6096fe5", func := "yearbook/yearlaw5.ShelfParts", spec := "shelfParts", unfollowed := true, recurses := true, apart := false }
def ShelfPartsSaid : Prop := shelfPartsRow.holds Try.pinned (OpenSpec.ofChange shelfPartsSpec)

/-- ITS FALSE NEIGHBOUR: 'it returns false'. Refute it at one input. -/
def shelfPartsWrong : ChangeSpec := { name := "shelfParts", fn := fun _ => fun
  | [d] => { results := [.lit (.bool false)], args := [d] }
  | _ => none }
def ShelfPartsWrongFalsely : Prop := shelfPartsRow.holds Try.pinned (OpenSpec.ofChange shelfPartsWrong)

/-- 'yearlaw5.ShelfEntries': WHATEVER THE INPUT: true; the input reads as it did. -/
def shelfEntriesSpec : ChangeSpec := { name := "shelfEntries", fn := fun _ => fun
  | [d1, d2] => { results := [.lit (.bool true)], args := [d1, d2] }
  | _ => none }
def shelfEntriesRow : OpenClaim := { program := "ytgbjfilkecmmgaa", sum := "880a23a92e6e6c69e3cb1cd0b68eae897aa3787e06cf04914bb8c086c6096fe5", func := "yearbook/yearlaw5.ShelfEntries", spec := "shelfEntries", unfollowed := true, recurses := true, apart := false }
def ShelfEntriesSaid : Prop := shelfEntriesRow.holds Try.pinned (OpenSpec.ofChange shelfEntriesSpec)

/-- ITS FALSE NEIGHBOUR: 'it returns false'. Refute it at one input. -/
def shelfEntriesWrong : ChangeSpec := { name := "shelfEntries", fn := fun _ => fun
  | [d1, d2] => { results := [.lit (.bool false)], args := [d1, d2] }
  | _ => none }
def ShelfEntriesWrongFalsely : Prop := shelfEntriesRow.holds Try.pinned (OpenSpec.ofChange shelfEntriesWrong)

/-- 'yearlaw5.ShelfTells': WHATEVER THE INPUT: true; the input reads as it did. -/
def shelfTellsSpec : ChangeSpec := { name := "shelfTells", fn := fun _ => fun
  | [d1, d2, d3, d4] => { results := [.lit (.bool true)], args := [d1, d2, d3, d4] }
  | _ => none }
def shelfTellsRow : OpenClaim := { program := "ytgbjfilkecmmgaa", sum := "880a23a92e6e6c69e3cb1cd0b68eae897aa3787e06cf04914bb8c086c6096fe5", func := "yearbook/yearlaw5.ShelfTells", spec := "shelfTells", inPlace := ["math/bits.Add64"], unfollowed := true, recurses := true, apart := false }
def ShelfTellsSaid : Prop := shelfTellsRow.holds Try.pinned (OpenSpec.ofChange shelfTellsSpec)

/-- ITS FALSE NEIGHBOUR: 'it returns false'. Refute it at one input. -/
def shelfTellsWrong : ChangeSpec := { name := "shelfTells", fn := fun _ => fun
  | [d1, d2, d3, d4] => { results := [.lit (.bool false)], args := [d1, d2, d3, d4] }
  | _ => none }
def ShelfTellsWrongFalsely : Prop := shelfTellsRow.holds Try.pinned (OpenSpec.ofChange shelfTellsWrong)

/-- 'yearlaw5.ShelfSpoilt': WHATEVER THE INPUT: true; the input reads as it did. -/
def shelfSpoiltSpec : ChangeSpec := { name := "shelfSpoilt", fn := fun _ => fun
  | [d1, d2] => { results := [.lit (.bool true)], args := [d1, d2] }
  | _ => none }
def shelfSpoiltRow : OpenClaim := { program := "ytgbjfilkecmmgaa", sum := "880a23a92e6e6c69e3cb1cd0b68eae897aa3787e06cf04914bb8c086c6096fe5", func := "yearbook/yearlaw5.ShelfSpoilt", spec := "shelfSpoilt", unfollowed := true, recurses := true, apart := false }
def ShelfSpoiltSaid : Prop := shelfSpoiltRow.holds Try.pinned (OpenSpec.ofChange shelfSpoiltSpec)

/-- ITS FALSE NEIGHBOUR: 'it returns false'. Refute it at one input. -/
def shelfSpoiltWrong : ChangeSpec := { name := "shelfSpoilt", fn := fun _ => fun
  | [d1, d2] => { results := [.lit (.bool false)], args := [d1, d2] }
  | _ => none }
def ShelfSpoiltWrongFalsely : Prop := shelfSpoiltRow.holds Try.pinned (OpenSpec.ofChange shelfSpoiltWrong)

/- THE SECOND FORM. 'bulk': how many values and letters a reading holds, each counted each time it is reached (what is shared counts as often as it is met; a slice's spare places count too). A statement '..UptoSaid' is the law's where the arguments, and the package variables that the reading takes, are together of bulk at most 1048576: NARROWER than '..Said'. Prove '..Said' where nothing that the law and all that it calls make is longer than what came in: it says more and counts as full. Else prove '..UptoSaid'. A law counts once. -/
mutual
def uptoBulk {H : Type} : DataW H → Nat
  | .lit (.string bytes) => bytes.length + 1
  | .lit _ => 1
  | .nil => 1
  | .ptr d => uptoBulk d + 1
  | .slice elems spare => uptoBulkAll elems + uptoBulkAll spare + 1
  | .agg parts => uptoBulkAll parts + 1
  | .iface _ d => uptoBulk d + 1
  | .map entries => uptoBulkEntries entries + 1
  | .held _ => 1
def uptoBulkAll {H : Type} : List (DataW H) → Nat
  | [] => 0
  | d :: r => uptoBulk d + uptoBulkAll r
def uptoBulkEntries {H : Type} : List (Lit × DataW H) → Nat
  | [] => 0
  | x :: r => uptoBulkEntry x + uptoBulkEntries r
def uptoBulkEntry {H : Type} : Lit × DataW H → Nat
  | (.string bytes, d) => bytes.length + uptoBulk d + 1
  | (_, d) => uptoBulk d + 1
 end
def uptoSmall : (H : Type) → List (DataW H) → Bool := fun _ ds => decide (uptoBulkAll ds ≤ 1048576)
def OpenSpec.upto (s : _root_.Go.ChangeSpec) : _root_.Go.OpenSpec := { _root_.Go.OpenSpec.ofChange s with cond := some uptoSmall }

/-- 'yearlaw6.BookTurns', WHERE WHAT IT READS IS OF BULK AT MOST 1048576: true; the input reads as it did. -/
def bookTurnsUptoRow : OpenClaim := { program := "ytgbjfilkecmmgaa", sum := "880a23a92e6e6c69e3cb1cd0b68eae897aa3787e06cf04914bb8c086c6096fe5", func := "yearbook/yearlaw6.BookTurns", spec := "bookTurns", recurses := true, apart := false, narrowed := true }
def BookTurnsUptoSaid : Prop := bookTurnsUptoRow.holds Try.pinned (OpenSpec.upto bookTurnsSpec)

/-- 'yearlaw6.BookTells', WHERE WHAT IT READS IS OF BULK AT MOST 1048576: true; the input reads as it did. -/
def bookTellsUptoRow : OpenClaim := { program := "ytgbjfilkecmmgaa", sum := "880a23a92e6e6c69e3cb1cd0b68eae897aa3787e06cf04914bb8c086c6096fe5", func := "yearbook/yearlaw6.BookTells", spec := "bookTells", inPlace := ["math/bits.Add64"], unfollowed := true, recurses := true, apart := false, narrowed := true }
def BookTellsUptoSaid : Prop := bookTellsUptoRow.holds Try.pinned (OpenSpec.upto bookTellsSpec)

/-- 'yearlaw6.BookStands', WHERE WHAT IT READS IS OF BULK AT MOST 1048576: true; the input reads as it did. -/
def bookStandsUptoRow : OpenClaim := { program := "ytgbjfilkecmmgaa", sum := "880a23a92e6e6c69e3cb1cd0b68eae897aa3787e06cf04914bb8c086c6096fe5", func := "yearbook/yearlaw6.BookStands", spec := "bookStands", unfollowed := true, recurses := true, apart := false, narrowed := true }
def BookStandsUptoSaid : Prop := bookStandsUptoRow.holds Try.pinned (OpenSpec.upto bookStandsSpec)

/-- 'yearlaw5.ShelfTurns', WHERE WHAT IT READS IS OF BULK AT MOST 1048576: true; the input reads as it did. -/
def shelfTurnsUptoRow : OpenClaim := { program := "ytgbjfilkecmmgaa", sum := "880a23a92e6e6c69e3cb1cd0b68eae897aa3787e06cf04914bb8c086c6096fe5", func := "yearbook/yearlaw5.ShelfTurns", spec := "shelfTurns", unfollowed := true, recurses := true, apart := false, narrowed := true }
def ShelfTurnsUptoSaid : Prop := shelfTurnsUptoRow.holds Try.pinned (OpenSpec.upto shelfTurnsSpec)

/-- 'yearlaw5.ShelfParts', WHERE WHAT IT READS IS OF BULK AT MOST 1048576: true; the input reads as it did. -/
def shelfPartsUptoRow : OpenClaim := { program := "ytgbjfilkecmmgaa", sum := "880a23a92e6e6c69e3cb1cd0b68eae897aa3787e06cf04914bb8c086c6096fe5", func := "yearbook/yearlaw5.ShelfParts", spec := "shelfParts", unfollowed := true, recurses := true, apart := false, narrowed := true }
def ShelfPartsUptoSaid : Prop := shelfPartsUptoRow.holds Try.pinned (OpenSpec.upto shelfPartsSpec)

/-- 'yearlaw5.ShelfEntries', WHERE WHAT IT READS IS OF BULK AT MOST 1048576: true; the input reads as it did. -/
def shelfEntriesUptoRow : OpenClaim := { program := "ytgbjfilkecmmgaa", sum := "880a23a92e6e6c69e3cb1cd0b68eae897aa3787e06cf04914bb8c086c6096fe5", func := "yearbook/yearlaw5.ShelfEntries", spec := "shelfEntries", unfollowed := true, recurses := true, apart := false, narrowed := true }
def ShelfEntriesUptoSaid : Prop := shelfEntriesUptoRow.holds Try.pinned (OpenSpec.upto shelfEntriesSpec)

/-- 'yearlaw5.ShelfTells', WHERE WHAT IT READS IS OF BULK AT MOST 1048576: true; the input reads as it did. -/
def shelfTellsUptoRow : OpenClaim := { program := "ytgbjfilkecmmgaa", sum := "880a23a92e6e6c69e3cb1cd0b68eae897aa3787e06cf04914bb8c086c6096fe5", func := "yearbook/yearlaw5.ShelfTells", spec := "shelfTells", inPlace := ["math/bits.Add64"], unfollowed := true, recurses := true, apart := false, narrowed := true }
def ShelfTellsUptoSaid : Prop := shelfTellsUptoRow.holds Try.pinned (OpenSpec.upto shelfTellsSpec)

/-- 'yearlaw5.ShelfSpoilt', WHERE WHAT IT READS IS OF BULK AT MOST 1048576: true; the input reads as it did. -/
def shelfSpoiltUptoRow : OpenClaim := { program := "ytgbjfilkecmmgaa", sum := "880a23a92e6e6c69e3cb1cd0b68eae897aa3787e06cf04914bb8c086c6096fe5", func := "yearbook/yearlaw5.ShelfSpoilt", spec := "shelfSpoilt", unfollowed := true, recurses := true, apart := false, narrowed := true }
def ShelfSpoiltUptoSaid : Prop := shelfSpoiltUptoRow.holds Try.pinned (OpenSpec.upto shelfSpoiltSpec)

end Rows
end Go.Proofs.Ytgbjfilkecmmgaa
