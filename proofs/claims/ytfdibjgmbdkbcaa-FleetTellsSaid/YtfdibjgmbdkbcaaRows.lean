/-
  No cell of these rows narrows 'for every input' (looked for: loops, veiled, ifaces, maps, wideKeys, modest, calm, conditions, laid).
  DERIVED. THE GIVEN ROWS OF THIS SEAT. 10 by the template 'for every input the law returns true; each argument reads behind the call as it read before'; 0 by the template 'total and deterministic' (their statements: YtfdibjgmbdkbcaaTotals.lean).
  GIVEN WITH THE SEED: the statements are not yours to turn. If you find one false, say at which input.
  Laid BY PROGRAM, IN A SANDBOX (cutbox-rows.mjs): the forced cells as the released guide's own fill.sh prints them over the translation cfa52efb08c561e3… (all of the seat's roots in one cut). By AI agents, Wed Nov 11 2026. No macro, syntax, notation, axiom, sorry.
-/
import Derived.Test.YtfdibjgmbdkbcaaChecked
import GoSem.Claim
import GoSem.ClaimJoined
import GoSem.ClaimMapViews
import Derived.JoinedTies
import Derived.KernelRfl
namespace Go.Proofs.Ytfdibjgmbdkbcaa
/- THE CELL 'sum', in the pinned program and in every row, IS THE sha256 OF THE DUMP (.gsa) THAT YtfdibjgmbdkbcaaProg.lean LOADS. Nothing in Lean hashes anything: it is a label: what it is worth is what the hold of that sum in a sandbox is worth. -/
noncomputable def Try.pinned : Pinned := { name := "ytfdibjgmbdkbcaa", sum := "cfa52efb08c561e32a8be74a91b2c86e81ff53520a364afbad2485c0eef17c7e", checked := Try.checked }
namespace Rows
def none {H : Type} : Left H := { results := [], args := [] }

/-- 'yearlaw1.ShaTells': WHATEVER THE INPUT: true; the input reads as it did. -/
def shaTellsSpec : ChangeSpec := { name := "shaTells", fn := fun _ => fun
  | [d] => { results := [.lit (.bool true)], args := [d] }
  | _ => none }
def shaTellsRow : OpenClaim := { program := "ytfdibjgmbdkbcaa", sum := "cfa52efb08c561e32a8be74a91b2c86e81ff53520a364afbad2485c0eef17c7e", func := "yearbook/yearlaw1.ShaTells", spec := "shaTells", inPlace := ["math/bits.Add64"], plainKeys := false, apart := false }
def ShaTellsSaid : Prop := shaTellsRow.holds Try.pinned (OpenSpec.ofChange shaTellsSpec)

/-- ITS FALSE NEIGHBOUR: 'it returns false'. Refute it at one input. -/
def shaTellsWrong : ChangeSpec := { name := "shaTells", fn := fun _ => fun
  | [d] => { results := [.lit (.bool false)], args := [d] }
  | _ => none }
def ShaTellsWrongFalsely : Prop := shaTellsRow.holds Try.pinned (OpenSpec.ofChange shaTellsWrong)

/-- 'yearlaw4.PackTells': WHATEVER THE INPUT: true; the input reads as it did. -/
def packTellsSpec : ChangeSpec := { name := "packTells", fn := fun _ => fun
  | [d1, d2, d3] => { results := [.lit (.bool true)], args := [d1, d2, d3] }
  | _ => none }
def packTellsRow : OpenClaim := { program := "ytfdibjgmbdkbcaa", sum := "cfa52efb08c561e32a8be74a91b2c86e81ff53520a364afbad2485c0eef17c7e", func := "yearbook/yearlaw4.PackTells", spec := "packTells", unfollowed := true, recurses := true, plainKeys := false, apart := false }
def PackTellsSaid : Prop := packTellsRow.holds Try.pinned (OpenSpec.ofChange packTellsSpec)

/-- ITS FALSE NEIGHBOUR: 'it returns false'. Refute it at one input. -/
def packTellsWrong : ChangeSpec := { name := "packTells", fn := fun _ => fun
  | [d1, d2, d3] => { results := [.lit (.bool false)], args := [d1, d2, d3] }
  | _ => none }
def PackTellsWrongFalsely : Prop := packTellsRow.holds Try.pinned (OpenSpec.ofChange packTellsWrong)

/-- 'yearlaw2.TreeShown': WHATEVER THE INPUT: true; the input reads as it did. -/
def treeShownSpec : ChangeSpec := { name := "treeShown", fn := fun _ => fun
  | [d1, d2, d3, d4, d5, d6] => { results := [.lit (.bool true)], args := [d1, d2, d3, d4, d5, d6] }
  | _ => none }
def treeShownRow : OpenClaim := { program := "ytfdibjgmbdkbcaa", sum := "cfa52efb08c561e32a8be74a91b2c86e81ff53520a364afbad2485c0eef17c7e", func := "yearbook/yearlaw2.TreeShown", spec := "treeShown", inPlace := ["math/bits.Add64"], unfollowed := true, recurses := true, plainKeys := false, apart := false }
def TreeShownSaid : Prop := treeShownRow.holds Try.pinned (OpenSpec.ofChange treeShownSpec)

/-- ITS FALSE NEIGHBOUR: 'it returns false'. Refute it at one input. -/
def treeShownWrong : ChangeSpec := { name := "treeShown", fn := fun _ => fun
  | [d1, d2, d3, d4, d5, d6] => { results := [.lit (.bool false)], args := [d1, d2, d3, d4, d5, d6] }
  | _ => none }
def TreeShownWrongFalsely : Prop := treeShownRow.holds Try.pinned (OpenSpec.ofChange treeShownWrong)

/-- 'yearlaw2.TreeTells': WHATEVER THE INPUT: true; the input reads as it did. -/
def treeTellsSpec : ChangeSpec := { name := "treeTells", fn := fun _ => fun
  | [d1, d2, d3, d4, d5] => { results := [.lit (.bool true)], args := [d1, d2, d3, d4, d5] }
  | _ => none }
def treeTellsRow : OpenClaim := { program := "ytfdibjgmbdkbcaa", sum := "cfa52efb08c561e32a8be74a91b2c86e81ff53520a364afbad2485c0eef17c7e", func := "yearbook/yearlaw2.TreeTells", spec := "treeTells", inPlace := ["math/bits.Add64"], unfollowed := true, recurses := true, plainKeys := false, apart := false }
def TreeTellsSaid : Prop := treeTellsRow.holds Try.pinned (OpenSpec.ofChange treeTellsSpec)

/-- ITS FALSE NEIGHBOUR: 'it returns false'. Refute it at one input. -/
def treeTellsWrong : ChangeSpec := { name := "treeTells", fn := fun _ => fun
  | [d1, d2, d3, d4, d5] => { results := [.lit (.bool false)], args := [d1, d2, d3, d4, d5] }
  | _ => none }
def TreeTellsWrongFalsely : Prop := treeTellsRow.holds Try.pinned (OpenSpec.ofChange treeTellsWrong)

/-- 'yearlaw6.BookTells': WHATEVER THE INPUT: true; the input reads as it did. -/
def bookTellsSpec : ChangeSpec := { name := "bookTells", fn := fun _ => fun
  | [d1, d2, d3, d4, d5] => { results := [.lit (.bool true)], args := [d1, d2, d3, d4, d5] }
  | _ => none }
def bookTellsRow : OpenClaim := { program := "ytfdibjgmbdkbcaa", sum := "cfa52efb08c561e32a8be74a91b2c86e81ff53520a364afbad2485c0eef17c7e", func := "yearbook/yearlaw6.BookTells", spec := "bookTells", inPlace := ["math/bits.Add64"], unfollowed := true, recurses := true, plainKeys := false, apart := false }
def BookTellsSaid : Prop := bookTellsRow.holds Try.pinned (OpenSpec.ofChange bookTellsSpec)

/-- ITS FALSE NEIGHBOUR: 'it returns false'. Refute it at one input. -/
def bookTellsWrong : ChangeSpec := { name := "bookTells", fn := fun _ => fun
  | [d1, d2, d3, d4, d5] => { results := [.lit (.bool false)], args := [d1, d2, d3, d4, d5] }
  | _ => none }
def BookTellsWrongFalsely : Prop := bookTellsRow.holds Try.pinned (OpenSpec.ofChange bookTellsWrong)

/-- 'yearlaw5.ShelfTells': WHATEVER THE INPUT: true; the input reads as it did. -/
def shelfTellsSpec : ChangeSpec := { name := "shelfTells", fn := fun _ => fun
  | [d1, d2, d3, d4] => { results := [.lit (.bool true)], args := [d1, d2, d3, d4] }
  | _ => none }
def shelfTellsRow : OpenClaim := { program := "ytfdibjgmbdkbcaa", sum := "cfa52efb08c561e32a8be74a91b2c86e81ff53520a364afbad2485c0eef17c7e", func := "yearbook/yearlaw5.ShelfTells", spec := "shelfTells", inPlace := ["math/bits.Add64"], unfollowed := true, recurses := true, plainKeys := false, apart := false }
def ShelfTellsSaid : Prop := shelfTellsRow.holds Try.pinned (OpenSpec.ofChange shelfTellsSpec)

/-- ITS FALSE NEIGHBOUR: 'it returns false'. Refute it at one input. -/
def shelfTellsWrong : ChangeSpec := { name := "shelfTells", fn := fun _ => fun
  | [d1, d2, d3, d4] => { results := [.lit (.bool false)], args := [d1, d2, d3, d4] }
  | _ => none }
def ShelfTellsWrongFalsely : Prop := shelfTellsRow.holds Try.pinned (OpenSpec.ofChange shelfTellsWrong)

/-- 'yearlaw7.FleetShows': WHATEVER THE INPUT: true; the input reads as it did. -/
def fleetShowsSpec : ChangeSpec := { name := "fleetShows", fn := fun _ => fun
  | [d1, d2, d3, d4, d5, d6] => { results := [.lit (.bool true)], args := [d1, d2, d3, d4, d5, d6] }
  | _ => none }
def fleetShowsRow : OpenClaim := { program := "ytfdibjgmbdkbcaa", sum := "cfa52efb08c561e32a8be74a91b2c86e81ff53520a364afbad2485c0eef17c7e", func := "yearbook/yearlaw7.FleetShows", spec := "fleetShows", inPlace := ["math/bits.Add64"], unfollowed := true, recurses := true, plainKeys := false, apart := false }
def FleetShowsSaid : Prop := fleetShowsRow.holds Try.pinned (OpenSpec.ofChange fleetShowsSpec)

/-- ITS FALSE NEIGHBOUR: 'it returns false'. Refute it at one input. -/
def fleetShowsWrong : ChangeSpec := { name := "fleetShows", fn := fun _ => fun
  | [d1, d2, d3, d4, d5, d6] => { results := [.lit (.bool false)], args := [d1, d2, d3, d4, d5, d6] }
  | _ => none }
def FleetShowsWrongFalsely : Prop := fleetShowsRow.holds Try.pinned (OpenSpec.ofChange fleetShowsWrong)

/-- 'yearlaw7.FleetTells': WHATEVER THE INPUT: true; the input reads as it did. -/
def fleetTellsSpec : ChangeSpec := { name := "fleetTells", fn := fun _ => fun
  | [d1, d2] => { results := [.lit (.bool true)], args := [d1, d2] }
  | _ => none }
def fleetTellsRow : OpenClaim := { program := "ytfdibjgmbdkbcaa", sum := "cfa52efb08c561e32a8be74a91b2c86e81ff53520a364afbad2485c0eef17c7e", func := "yearbook/yearlaw7.FleetTells", spec := "fleetTells", inPlace := ["math/bits.Add64"], unfollowed := true, recurses := true, plainKeys := false, apart := false }
def FleetTellsSaid : Prop := fleetTellsRow.holds Try.pinned (OpenSpec.ofChange fleetTellsSpec)

/-- ITS FALSE NEIGHBOUR: 'it returns false'. Refute it at one input. -/
def fleetTellsWrong : ChangeSpec := { name := "fleetTells", fn := fun _ => fun
  | [d1, d2] => { results := [.lit (.bool false)], args := [d1, d2] }
  | _ => none }
def FleetTellsWrongFalsely : Prop := fleetTellsRow.holds Try.pinned (OpenSpec.ofChange fleetTellsWrong)

/-- 'yearlaw7.FleetOnce': WHATEVER THE INPUT: true; the input reads as it did. -/
def fleetOnceSpec : ChangeSpec := { name := "fleetOnce", fn := fun _ => fun
  | [d1, d2] => { results := [.lit (.bool true)], args := [d1, d2] }
  | _ => none }
def fleetOnceRow : OpenClaim := { program := "ytfdibjgmbdkbcaa", sum := "cfa52efb08c561e32a8be74a91b2c86e81ff53520a364afbad2485c0eef17c7e", func := "yearbook/yearlaw7.FleetOnce", spec := "fleetOnce", unfollowed := true, recurses := true, plainKeys := false, apart := false }
def FleetOnceSaid : Prop := fleetOnceRow.holds Try.pinned (OpenSpec.ofChange fleetOnceSpec)

/-- ITS FALSE NEIGHBOUR: 'it returns false'. Refute it at one input. -/
def fleetOnceWrong : ChangeSpec := { name := "fleetOnce", fn := fun _ => fun
  | [d1, d2] => { results := [.lit (.bool false)], args := [d1, d2] }
  | _ => none }
def FleetOnceWrongFalsely : Prop := fleetOnceRow.holds Try.pinned (OpenSpec.ofChange fleetOnceWrong)

/-- 'yearlaw7.FleetApart': WHATEVER THE INPUT: true; the input reads as it did. -/
def fleetApartSpec : ChangeSpec := { name := "fleetApart", fn := fun _ => fun
  | [d1, d2, d3, d4] => { results := [.lit (.bool true)], args := [d1, d2, d3, d4] }
  | _ => none }
def fleetApartRow : OpenClaim := { program := "ytfdibjgmbdkbcaa", sum := "cfa52efb08c561e32a8be74a91b2c86e81ff53520a364afbad2485c0eef17c7e", func := "yearbook/yearlaw7.FleetApart", spec := "fleetApart", unfollowed := true, recurses := true, plainKeys := false, apart := false }
def FleetApartSaid : Prop := fleetApartRow.holds Try.pinned (OpenSpec.ofChange fleetApartSpec)

/-- ITS FALSE NEIGHBOUR: 'it returns false'. Refute it at one input. -/
def fleetApartWrong : ChangeSpec := { name := "fleetApart", fn := fun _ => fun
  | [d1, d2, d3, d4] => { results := [.lit (.bool false)], args := [d1, d2, d3, d4] }
  | _ => none }
def FleetApartWrongFalsely : Prop := fleetApartRow.holds Try.pinned (OpenSpec.ofChange fleetApartWrong)

/- THE SECOND FORM. 'bulk': how many values and letters a reading holds, each counted each time it is reached (what is shared counts as often as it is met; a slice's spare places count too). A statement '..UptoSaid' is the law's where the arguments, and the package variables that the reading takes, are together of bulk at most 1048576: NARROWER than '..Said'. Prove '..Said' where nothing that the law and all that it calls make is longer than what came in: it says more and counts as full. Else prove '..UptoSaid'. A law counts once. -/
mutual
def uptoBulk {H : Type} : DataW H → Nat
  | .lit (.string bytes) => bytes.length + 1
  | .lit _ => 1
  | .nil => 1
  | .ptr d => uptoBulk d + 1
  | .slice elems spare => uptoBulkAll elems + uptoBulkAll spare + 1
  | .agg parts => uptoBulkAll parts + 1
  | .iface _ d => uptoBulk d + 1
  | .map entries => uptoBulkEntries entries + 1
  | .held _ => 1
def uptoBulkAll {H : Type} : List (DataW H) → Nat
  | [] => 0
  | d :: r => uptoBulk d + uptoBulkAll r
def uptoBulkEntries {H : Type} : List (Lit × DataW H) → Nat
  | [] => 0
  | x :: r => uptoBulkEntry x + uptoBulkEntries r
def uptoBulkEntry {H : Type} : Lit × DataW H → Nat
  | (.string bytes, d) => bytes.length + uptoBulk d + 1
  | (_, d) => uptoBulk d + 1
 end
def uptoSmall : (H : Type) → List (DataW H) → Bool := fun _ ds => decide (uptoBulkAll ds ≤ 1048576)
def OpenSpec.upto (s : _root_.Go.ChangeSpec) : _root_.Go.OpenSpec := { _root_.Go.OpenSpec.ofChange s with cond := some uptoSmall }

/-- 'yearlaw1.ShaTells', WHERE WHAT IT READS IS OF BULK AT MOST 1048576: true; the input reads as it did. -/
def shaTellsUptoRow : OpenClaim := { program := "ytfdibjgmbdkbcaa", sum := "cfa52efb08c561e32a8be74a91b2c86e81ff53520a364afbad2485c0eef17c7e", func := "yearbook/yearlaw1.ShaTells", spec := "shaTells", inPlace := ["math/bits.Add64"], plainKeys := false, apart := false, narrowed := true }
def ShaTellsUptoSaid : Prop := shaTellsUptoRow.holds Try.pinned (OpenSpec.upto shaTellsSpec)

/-- 'yearlaw4.PackTells', WHERE WHAT IT READS IS OF BULK AT MOST 1048576: true; the input reads as it did. -/
def packTellsUptoRow : OpenClaim := { program := "ytfdibjgmbdkbcaa", sum := "cfa52efb08c561e32a8be74a91b2c86e81ff53520a364afbad2485c0eef17c7e", func := "yearbook/yearlaw4.PackTells", spec := "packTells", unfollowed := true, recurses := true, plainKeys := false, apart := false, narrowed := true }
def PackTellsUptoSaid : Prop := packTellsUptoRow.holds Try.pinned (OpenSpec.upto packTellsSpec)

/-- 'yearlaw2.TreeShown', WHERE WHAT IT READS IS OF BULK AT MOST 1048576: true; the input reads as it did. -/
def treeShownUptoRow : OpenClaim := { program := "ytfdibjgmbdkbcaa", sum := "cfa52efb08c561e32a8be74a91b2c86e81ff53520a364afbad2485c0eef17c7e", func := "yearbook/yearlaw2.TreeShown", spec := "treeShown", inPlace := ["math/bits.Add64"], unfollowed := true, recurses := true, plainKeys := false, apart := false, narrowed := true }
def TreeShownUptoSaid : Prop := treeShownUptoRow.holds Try.pinned (OpenSpec.upto treeShownSpec)

/-- 'yearlaw2.TreeTells', WHERE WHAT IT READS IS OF BULK AT MOST 1048576: true; the input reads as it did. -/
def treeTellsUptoRow : OpenClaim := { program := "ytfdibjgmbdkbcaa", sum := "cfa52efb08c561e32a8be74a91b2c86e81ff53520a364afbad2485c0eef17c7e", func := "yearbook/yearlaw2.TreeTells", spec := "treeTells", inPlace := ["math/bits.Add64"], unfollowed := true, recurses := true, plainKeys := false, apart := false, narrowed := true }
def TreeTellsUptoSaid : Prop := treeTellsUptoRow.holds Try.pinned (OpenSpec.upto treeTellsSpec)

/-- 'yearlaw6.BookTells', WHERE WHAT IT READS IS OF BULK AT MOST 1048576: true; the input reads as it did. -/
def bookTellsUptoRow : OpenClaim := { program := "ytfdibjgmbdkbcaa", sum := "cfa52efb08c561e32a8be74a91b2c86e81ff53520a364afbad2485c0eef17c7e", func := "yearbook/yearlaw6.BookTells", spec := "bookTells", inPlace := ["math/bits.Add64"], unfollowed := true, recurses := true, plainKeys := false, apart := false, narrowed := true }
def BookTellsUptoSaid : Prop := bookTellsUptoRow.holds Try.pinned (OpenSpec.upto bookTellsSpec)

/-- 'yearlaw5.ShelfTells', WHERE WHAT IT READS IS OF BULK AT MOST 1048576: true; the input reads as it did. -/
def shelfTellsUptoRow : OpenClaim := { program := "ytfdibjgmbdkbcaa", sum := "cfa52efb08c561e32a8be74a91b2c86e81ff53520a364afbad2485c0eef17c7e", func := "yearbook/yearlaw5.ShelfTells", spec := "shelfTells", inPlace := ["math/bits.Add64"], unfollowed := true, recurses := true, plainKeys := false, apart := false, narrowed := true }
def ShelfTellsUptoSaid : Prop := shelfTellsUptoRow.holds Try.pinned (OpenSpec.upto shelfTellsSpec)

/-- 'yearlaw7.FleetShows', WHERE WHAT IT READS IS OF BULK AT MOST 1048576: true; the input reads as it did. -/
def fleetShowsUptoRow : OpenClaim := { program := "ytfdibjgmbdkbcaa", sum := "cfa52efb08c561e32a8be74a91b2c86e81ff53520a364afbad2485c0eef17c7e", func := "yearbook/yearlaw7.FleetShows", spec := "fleetShows", inPlace := ["math/bits.Add64"], unfollowed := true, recurses := true, plainKeys := false, apart := false, narrowed := true }
def FleetShowsUptoSaid : Prop := fleetShowsUptoRow.holds Try.pinned (OpenSpec.upto fleetShowsSpec)

/-- 'yearlaw7.FleetTells', WHERE WHAT IT READS IS OF BULK AT MOST 1048576: true; the input reads as it did. -/
def fleetTellsUptoRow : OpenClaim := { program := "ytfdibjgmbdkbcaa", sum := "cfa52efb08c561e32a8be74a91b2c86e81ff53520a364afbad2485c0eef17c7e", func := "yearbook/yearlaw7.FleetTells", spec := "fleetTells", inPlace := ["math/bits.Add64"], unfollowed := true, recurses := true, plainKeys := false, apart := false, narrowed := true }
def FleetTellsUptoSaid : Prop := fleetTellsUptoRow.holds Try.pinned (OpenSpec.upto fleetTellsSpec)

/-- 'yearlaw7.FleetOnce', WHERE WHAT IT READS IS OF BULK AT MOST 1048576: true; the input reads as it did. -/
def fleetOnceUptoRow : OpenClaim := { program := "ytfdibjgmbdkbcaa", sum := "cfa52efb08c561e32a8be74a91b2c86e81ff53520a364afbad2485c0eef17c7e", func := "yearbook/yearlaw7.FleetOnce", spec := "fleetOnce", unfollowed := true, recurses := true, plainKeys := false, apart := false, narrowed := true }
def FleetOnceUptoSaid : Prop := fleetOnceUptoRow.holds Try.pinned (OpenSpec.upto fleetOnceSpec)

/-- 'yearlaw7.FleetApart', WHERE WHAT IT READS IS OF BULK AT MOST 1048576: true; the input reads as it did. -/
def fleetApartUptoRow : OpenClaim := { program := "ytfdibjgmbdkbcaa", sum := "cfa52efb08c561e32a8be74a91b2c86e81ff53520a364afbad2485c0eef17c7e", func := "yearbook/yearlaw7.FleetApart", spec := "fleetApart", unfollowed := true, recurses := true, plainKeys := false, apart := false, narrowed := true }
def FleetApartUptoSaid : Prop := fleetApartUptoRow.holds Try.pinned (OpenSpec.upto fleetApartSpec)

end Rows
end Go.Proofs.Ytfdibjgmbdkbcaa
