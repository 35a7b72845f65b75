/-
  No cell of these rows narrows 'for every input' (looked for: loops, veiled, ifaces, maps, wideKeys, modest, calm, conditions, laid).
  DERIVED. THE GIVEN ROWS OF THIS SEAT. 11 by the template 'for every input the law returns true; each argument reads behind the call as it read before'; 0 by the template 'total and deterministic' (their statements: YtnpfmboolbhpaaaTotals.lean).
  GIVEN WITH THE SEED: the statements are not yours to turn. If you find one false, say at which input.
  Laid BY PROGRAM, IN A SANDBOX (cutbox-rows.mjs): the forced cells as the released guide's own fill.sh prints them over the translation 5de71b0c379d7040… (all of the seat's roots in one cut). By AI agents, Wed Nov 11 2026. No macro, syntax, notation, axiom, sorry.
-/
import Derived.Test.YtnpfmboolbhpaaaChecked
import GoSem.Claim
import GoSem.ClaimJoined
import GoSem.ClaimMapViews
import Derived.JoinedTies
import Derived.KernelRfl
namespace Go.Proofs.Ytnpfmboolbhpaaa
/- THE CELL 'sum', in the pinned program and in every row, IS THE sha256 OF THE DUMP (.gsa) THAT YtnpfmboolbhpaaaProg.lean LOADS. Nothing in Lean hashes anything: it is a label: what it is worth is what the hold of that sum in a sandbox is worth. -/
noncomputable def Try.pinned : Pinned := { name := "ytnpfmboolbhpaaa", sum := "5de71b0c379d7040304971970ab214590ba469827ecbba8b34e5b92759fc6a61", checked := Try.checked }
namespace Rows
def none {H : Type} : Left H := { results := [], args := [] }

/-- 'yearlaw7.FleetShows': WHATEVER THE INPUT: true; the input reads as it did. -/
def fleetShowsSpec : ChangeSpec := { name := "fleetShows", fn := fun _ => fun
  | [d1, d2, d3, d4, d5, d6] => { results := [.lit (.bool true)], args := [d1, d2, d3, d4, d5, d6] }
  | _ => none }
def fleetShowsRow : OpenClaim := { program := "ytnpfmboolbhpaaa", sum := "5de71b0c379d7040304971970ab214590ba469827ecbba8b34e5b92759fc6a61", func := "yearbook/yearlaw7.FleetShows", spec := "fleetShows", inPlace := ["math/bits.Add64"], unfollowed := true, recurses := true, plainKeys := false, apart := false }
def FleetShowsSaid : Prop := fleetShowsRow.holds Try.pinned (OpenSpec.ofChange fleetShowsSpec)

/-- ITS FALSE NEIGHBOUR: 'it returns false'. Refute it at one input. -/
def fleetShowsWrong : ChangeSpec := { name := "fleetShows", fn := fun _ => fun
  | [d1, d2, d3, d4, d5, d6] => { results := [.lit (.bool false)], args := [d1, d2, d3, d4, d5, d6] }
  | _ => none }
def FleetShowsWrongFalsely : Prop := fleetShowsRow.holds Try.pinned (OpenSpec.ofChange fleetShowsWrong)

/-- 'yearlaw7.FleetTells': WHATEVER THE INPUT: true; the input reads as it did. -/
def fleetTellsSpec : ChangeSpec := { name := "fleetTells", fn := fun _ => fun
  | [d1, d2] => { results := [.lit (.bool true)], args := [d1, d2] }
  | _ => none }
def fleetTellsRow : OpenClaim := { program := "ytnpfmboolbhpaaa", sum := "5de71b0c379d7040304971970ab214590ba469827ecbba8b34e5b92759fc6a61", func := "yearbook/yearlaw7.FleetTells", spec := "fleetTells", inPlace := ["math/bits.Add64"], unfollowed := true, recurses := true, plainKeys := false, apart := false }
def FleetTellsSaid : Prop := fleetTellsRow.holds Try.pinned (OpenSpec.ofChange fleetTellsSpec)

/-- ITS FALSE NEIGHBOUR: 'it returns false'. Refute it at one input. -/
def fleetTellsWrong : ChangeSpec := { name := "fleetTells", fn := fun _ => fun
  | [d1, d2] => { results := [.lit (.bool false)], args := [d1, d2] }
  | _ => none }
def FleetTellsWrongFalsely : Prop := fleetTellsRow.holds Try.pinned (OpenSpec.ofChange fleetTellsWrong)

/-- 'yearlaw7.FleetShown': WHATEVER THE INPUT: true; the input reads as it did. -/
def fleetShownSpec : ChangeSpec := { name := "fleetShown", fn := fun _ => fun
  | [d1, d2] => { results := [.lit (.bool true)], args := [d1, d2] }
  | _ => none }
def fleetShownRow : OpenClaim := { program := "ytnpfmboolbhpaaa", sum := "5de71b0c379d7040304971970ab214590ba469827ecbba8b34e5b92759fc6a61", func := "yearbook/yearlaw7.FleetShown", spec := "fleetShown", unfollowed := true, recurses := true, plainKeys := false, apart := false }
def FleetShownSaid : Prop := fleetShownRow.holds Try.pinned (OpenSpec.ofChange fleetShownSpec)

/-- ITS FALSE NEIGHBOUR: 'it returns false'. Refute it at one input. -/
def fleetShownWrong : ChangeSpec := { name := "fleetShown", fn := fun _ => fun
  | [d1, d2] => { results := [.lit (.bool false)], args := [d1, d2] }
  | _ => none }
def FleetShownWrongFalsely : Prop := fleetShownRow.holds Try.pinned (OpenSpec.ofChange fleetShownWrong)

/-- 'yearlaw7.FleetOnce': WHATEVER THE INPUT: true; the input reads as it did. -/
def fleetOnceSpec : ChangeSpec := { name := "fleetOnce", fn := fun _ => fun
  | [d1, d2] => { results := [.lit (.bool true)], args := [d1, d2] }
  | _ => none }
def fleetOnceRow : OpenClaim := { program := "ytnpfmboolbhpaaa", sum := "5de71b0c379d7040304971970ab214590ba469827ecbba8b34e5b92759fc6a61", func := "yearbook/yearlaw7.FleetOnce", spec := "fleetOnce", unfollowed := true, recurses := true, plainKeys := false, apart := false }
def FleetOnceSaid : Prop := fleetOnceRow.holds Try.pinned (OpenSpec.ofChange fleetOnceSpec)

/-- ITS FALSE NEIGHBOUR: 'it returns false'. Refute it at one input. -/
def fleetOnceWrong : ChangeSpec := { name := "fleetOnce", fn := fun _ => fun
  | [d1, d2] => { results := [.lit (.bool false)], args := [d1, d2] }
  | _ => none }
def FleetOnceWrongFalsely : Prop := fleetOnceRow.holds Try.pinned (OpenSpec.ofChange fleetOnceWrong)

/-- 'yearlaw7.FleetRefused': WHATEVER THE INPUT: true; the input reads as it did. -/
def fleetRefusedSpec : ChangeSpec := { name := "fleetRefused", fn := fun _ => fun
  | [d1, d2] => { results := [.lit (.bool true)], args := [d1, d2] }
  | _ => none }
def fleetRefusedRow : OpenClaim := { program := "ytnpfmboolbhpaaa", sum := "5de71b0c379d7040304971970ab214590ba469827ecbba8b34e5b92759fc6a61", func := "yearbook/yearlaw7.FleetRefused", spec := "fleetRefused", unfollowed := true, recurses := true, plainKeys := false, apart := false }
def FleetRefusedSaid : Prop := fleetRefusedRow.holds Try.pinned (OpenSpec.ofChange fleetRefusedSpec)

/-- ITS FALSE NEIGHBOUR: 'it returns false'. Refute it at one input. -/
def fleetRefusedWrong : ChangeSpec := { name := "fleetRefused", fn := fun _ => fun
  | [d1, d2] => { results := [.lit (.bool false)], args := [d1, d2] }
  | _ => none }
def FleetRefusedWrongFalsely : Prop := fleetRefusedRow.holds Try.pinned (OpenSpec.ofChange fleetRefusedWrong)

/-- 'yearlaw7.FleetPast': WHATEVER THE INPUT: true; the input reads as it did. -/
def fleetPastSpec : ChangeSpec := { name := "fleetPast", fn := fun _ => fun
  | [d1, d2, d3] => { results := [.lit (.bool true)], args := [d1, d2, d3] }
  | _ => none }
def fleetPastRow : OpenClaim := { program := "ytnpfmboolbhpaaa", sum := "5de71b0c379d7040304971970ab214590ba469827ecbba8b34e5b92759fc6a61", func := "yearbook/yearlaw7.FleetPast", spec := "fleetPast", unfollowed := true, recurses := true, plainKeys := false, apart := false }
def FleetPastSaid : Prop := fleetPastRow.holds Try.pinned (OpenSpec.ofChange fleetPastSpec)

/-- ITS FALSE NEIGHBOUR: 'it returns false'. Refute it at one input. -/
def fleetPastWrong : ChangeSpec := { name := "fleetPast", fn := fun _ => fun
  | [d1, d2, d3] => { results := [.lit (.bool false)], args := [d1, d2, d3] }
  | _ => none }
def FleetPastWrongFalsely : Prop := fleetPastRow.holds Try.pinned (OpenSpec.ofChange fleetPastWrong)

/-- 'yearlaw7.FleetEarly': WHATEVER THE INPUT: true; the input reads as it did. -/
def fleetEarlySpec : ChangeSpec := { name := "fleetEarly", fn := fun _ => fun
  | [d1, d2, d3, d4] => { results := [.lit (.bool true)], args := [d1, d2, d3, d4] }
  | _ => none }
def fleetEarlyRow : OpenClaim := { program := "ytnpfmboolbhpaaa", sum := "5de71b0c379d7040304971970ab214590ba469827ecbba8b34e5b92759fc6a61", func := "yearbook/yearlaw7.FleetEarly", spec := "fleetEarly", unfollowed := true, recurses := true, plainKeys := false, apart := false }
def FleetEarlySaid : Prop := fleetEarlyRow.holds Try.pinned (OpenSpec.ofChange fleetEarlySpec)

/-- ITS FALSE NEIGHBOUR: 'it returns false'. Refute it at one input. -/
def fleetEarlyWrong : ChangeSpec := { name := "fleetEarly", fn := fun _ => fun
  | [d1, d2, d3, d4] => { results := [.lit (.bool false)], args := [d1, d2, d3, d4] }
  | _ => none }
def FleetEarlyWrongFalsely : Prop := fleetEarlyRow.holds Try.pinned (OpenSpec.ofChange fleetEarlyWrong)

/-- 'yearlaw7.FleetApart': WHATEVER THE INPUT: true; the input reads as it did. -/
def fleetApartSpec : ChangeSpec := { name := "fleetApart", fn := fun _ => fun
  | [d1, d2, d3, d4] => { results := [.lit (.bool true)], args := [d1, d2, d3, d4] }
  | _ => none }
def fleetApartRow : OpenClaim := { program := "ytnpfmboolbhpaaa", sum := "5de71b0c379d7040304971970ab214590ba469827ecbba8b34e5b92759fc6a61", func := "yearbook/yearlaw7.FleetApart", spec := "fleetApart", unfollowed := true, recurses := true, plainKeys := false, apart := false }
def FleetApartSaid : Prop := fleetApartRow.holds Try.pinned (OpenSpec.ofChange fleetApartSpec)

/-- ITS FALSE NEIGHBOUR: 'it returns false'. Refute it at one input. -/
def fleetApartWrong : ChangeSpec := { name := "fleetApart", fn := fun _ => fun
  | [d1, d2, d3, d4] => { results := [.lit (.bool false)], args := [d1, d2, d3, d4] }
  | _ => none }
def FleetApartWrongFalsely : Prop := fleetApartRow.holds Try.pinned (OpenSpec.ofChange fleetApartWrong)

/-- 'yearlaw7.FleetBook': WHATEVER THE INPUT: true; the input reads as it did. -/
def fleetBookSpec : ChangeSpec := { name := "fleetBook", fn := fun _ => fun
  | [d1, d2, d3] => { results := [.lit (.bool true)], args := [d1, d2, d3] }
  | _ => none }
def fleetBookRow : OpenClaim := { program := "ytnpfmboolbhpaaa", sum := "5de71b0c379d7040304971970ab214590ba469827ecbba8b34e5b92759fc6a61", func := "yearbook/yearlaw7.FleetBook", spec := "fleetBook", unfollowed := true, recurses := true, plainKeys := false, apart := false }
def FleetBookSaid : Prop := fleetBookRow.holds Try.pinned (OpenSpec.ofChange fleetBookSpec)

/-- ITS FALSE NEIGHBOUR: 'it returns false'. Refute it at one input. -/
def fleetBookWrong : ChangeSpec := { name := "fleetBook", fn := fun _ => fun
  | [d1, d2, d3] => { results := [.lit (.bool false)], args := [d1, d2, d3] }
  | _ => none }
def FleetBookWrongFalsely : Prop := fleetBookRow.holds Try.pinned (OpenSpec.ofChange fleetBookWrong)

/-- 'yearlaw7.FleetKeeps': WHATEVER THE INPUT: true; the input reads as it did. -/
def fleetKeepsSpec : ChangeSpec := { name := "fleetKeeps", fn := fun _ => fun
  | [d1, d2] => { results := [.lit (.bool true)], args := [d1, d2] }
  | _ => none }
def fleetKeepsRow : OpenClaim := { program := "ytnpfmboolbhpaaa", sum := "5de71b0c379d7040304971970ab214590ba469827ecbba8b34e5b92759fc6a61", func := "yearbook/yearlaw7.FleetKeeps", spec := "fleetKeeps", unfollowed := true, recurses := true, plainKeys := false, apart := false }
def FleetKeepsSaid : Prop := fleetKeepsRow.holds Try.pinned (OpenSpec.ofChange fleetKeepsSpec)

/-- ITS FALSE NEIGHBOUR: 'it returns false'. Refute it at one input. -/
def fleetKeepsWrong : ChangeSpec := { name := "fleetKeeps", fn := fun _ => fun
  | [d1, d2] => { results := [.lit (.bool false)], args := [d1, d2] }
  | _ => none }
def FleetKeepsWrongFalsely : Prop := fleetKeepsRow.holds Try.pinned (OpenSpec.ofChange fleetKeepsWrong)

/-- 'yearlaw7.FleetFalse': WHATEVER THE INPUT: true; the input reads as it did. -/
def fleetFalseSpec : ChangeSpec := { name := "fleetFalse", fn := fun _ => fun
  | [d1, d2, d3] => { results := [.lit (.bool true)], args := [d1, d2, d3] }
  | _ => none }
def fleetFalseRow : OpenClaim := { program := "ytnpfmboolbhpaaa", sum := "5de71b0c379d7040304971970ab214590ba469827ecbba8b34e5b92759fc6a61", func := "yearbook/yearlaw7.FleetFalse", spec := "fleetFalse", unfollowed := true, recurses := true, plainKeys := false, apart := false }
def FleetFalseSaid : Prop := fleetFalseRow.holds Try.pinned (OpenSpec.ofChange fleetFalseSpec)

/-- ITS FALSE NEIGHBOUR: 'it returns false'. Refute it at one input. -/
def fleetFalseWrong : ChangeSpec := { name := "fleetFalse", fn := fun _ => fun
  | [d1, d2, d3] => { results := [.lit (.bool false)], args := [d1, d2, d3] }
  | _ => none }
def FleetFalseWrongFalsely : Prop := fleetFalseRow.holds Try.pinned (OpenSpec.ofChange fleetFalseWrong)

/- THE SECOND FORM. 'bulk': how many values and letters a reading holds, each counted each time it is reached (what is shared counts as often as it is met; a slice's spare places count too). A statement '..UptoSaid' is the law's where the arguments, and the package variables that the reading takes, are together of bulk at most 1048576: NARROWER than '..Said'. Prove '..Said' where nothing that the law and all that it calls make is longer than what came in: it says more and counts as full. Else prove '..UptoSaid'. A law counts once. -/
mutual
def uptoBulk {H : Type} : DataW H → Nat
  | .lit (.string bytes) => bytes.length + 1
  | .lit _ => 1
  | .nil => 1
  | .ptr d => uptoBulk d + 1
  | .slice elems spare => uptoBulkAll elems + uptoBulkAll spare + 1
  | .agg parts => uptoBulkAll parts + 1
  | .iface _ d => uptoBulk d + 1
  | .map entries => uptoBulkEntries entries + 1
  | .held _ => 1
def uptoBulkAll {H : Type} : List (DataW H) → Nat
  | [] => 0
  | d :: r => uptoBulk d + uptoBulkAll r
def uptoBulkEntries {H : Type} : List (Lit × DataW H) → Nat
  | [] => 0
  | x :: r => uptoBulkEntry x + uptoBulkEntries r
def uptoBulkEntry {H : Type} : Lit × DataW H → Nat
  | (.string bytes, d) => bytes.length + uptoBulk d + 1
  | (_, d) => uptoBulk d + 1
 end
def uptoSmall : (H : Type) → List (DataW H) → Bool := fun _ ds => decide (uptoBulkAll ds ≤ 1048576)
def OpenSpec.upto (s : _root_.Go.ChangeSpec) : _root_.Go.OpenSpec := { _root_.Go.OpenSpec.ofChange s with cond := some uptoSmall }

/-- 'yearlaw7.FleetShows', WHERE WHAT IT READS IS OF BULK AT MOST 1048576: true; the input reads as it did. -/
def fleetShowsUptoRow : OpenClaim := { program := "ytnpfmboolbhpaaa", sum := "5de71b0c379d7040304971970ab214590ba469827ecbba8b34e5b92759fc6a61", func := "yearbook/yearlaw7.FleetShows", spec := "fleetShows", inPlace := ["math/bits.Add64"], unfollowed := true, recurses := true, plainKeys := false, apart := false, narrowed := true }
def FleetShowsUptoSaid : Prop := fleetShowsUptoRow.holds Try.pinned (OpenSpec.upto fleetShowsSpec)

/-- 'yearlaw7.FleetTells', WHERE WHAT IT READS IS OF BULK AT MOST 1048576: true; the input reads as it did. -/
def fleetTellsUptoRow : OpenClaim := { program := "ytnpfmboolbhpaaa", sum := "5de71b0c379d7040304971970ab214590ba469827ecbba8b34e5b92759fc6a61", func := "yearbook/yearlaw7.FleetTells", spec := "fleetTells", inPlace := ["math/bits.Add64"], unfollowed := true, recurses := true, plainKeys := false, apart := false, narrowed := true }
def FleetTellsUptoSaid : Prop := fleetTellsUptoRow.holds Try.pinned (OpenSpec.upto fleetTellsSpec)

/-- 'yearlaw7.FleetShown', WHERE WHAT IT READS IS OF BULK AT MOST 1048576: true; the input reads as it did. -/
def fleetShownUptoRow : OpenClaim := { program := "ytnpfmboolbhpaaa", sum := "5de71b0c379d7040304971970ab214590ba469827ecbba8b34e5b92759fc6a61", func := "yearbook/yearlaw7.FleetShown", spec := "fleetShown", unfollowed := true, recurses := true, plainKeys := false, apart := false, narrowed := true }
def FleetShownUptoSaid : Prop := fleetShownUptoRow.holds Try.pinned (OpenSpec.upto fleetShownSpec)

/-- 'yearlaw7.FleetOnce', WHERE WHAT IT READS IS OF BULK AT MOST 1048576: true; the input reads as it did. -/
def fleetOnceUptoRow : OpenClaim := { program := "ytnpfmboolbhpaaa", sum := "5de71b0c379d7040304971970ab214590ba469827ecbba8b34e5b92759fc6a61", func := "yearbook/yearlaw7.FleetOnce", spec := "fleetOnce", unfollowed := true, recurses := true, plainKeys := false, apart := false, narrowed := true }
def FleetOnceUptoSaid : Prop := fleetOnceUptoRow.holds Try.pinned (OpenSpec.upto fleetOnceSpec)

/-- 'yearlaw7.FleetRefused', WHERE WHAT IT READS IS OF BULK AT MOST 1048576: true; the input reads as it did. -/
def fleetRefusedUptoRow : OpenClaim := { program := "ytnpfmboolbhpaaa", sum := "5de71b0c379d7040304971970ab214590ba469827ecbba8b34e5b92759fc6a61", func := "yearbook/yearlaw7.FleetRefused", spec := "fleetRefused", unfollowed := true, recurses := true, plainKeys := false, apart := false, narrowed := true }
def FleetRefusedUptoSaid : Prop := fleetRefusedUptoRow.holds Try.pinned (OpenSpec.upto fleetRefusedSpec)

/-- 'yearlaw7.FleetPast', WHERE WHAT IT READS IS OF BULK AT MOST 1048576: true; the input reads as it did. -/
def fleetPastUptoRow : OpenClaim := { program := "ytnpfmboolbhpaaa", sum := "5de71b0c379d7040304971970ab214590ba469827ecbba8b34e5b92759fc6a61", func := "yearbook/yearlaw7.FleetPast", spec := "fleetPast", unfollowed := true, recurses := true, plainKeys := false, apart := false, narrowed := true }
def FleetPastUptoSaid : Prop := fleetPastUptoRow.holds Try.pinned (OpenSpec.upto fleetPastSpec)

/-- 'yearlaw7.FleetEarly', WHERE WHAT IT READS IS OF BULK AT MOST 1048576: true; the input reads as it did. -/
def fleetEarlyUptoRow : OpenClaim := { program := "ytnpfmboolbhpaaa", sum := "5de71b0c379d7040304971970ab214590ba469827ecbba8b34e5b92759fc6a61", func := "yearbook/yearlaw7.FleetEarly", spec := "fleetEarly", unfollowed := true, recurses := true, plainKeys := false, apart := false, narrowed := true }
def FleetEarlyUptoSaid : Prop := fleetEarlyUptoRow.holds Try.pinned (OpenSpec.upto fleetEarlySpec)

/-- 'yearlaw7.FleetApart', WHERE WHAT IT READS IS OF BULK AT MOST 1048576: true; the input reads as it did. -/
def fleetApartUptoRow : OpenClaim := { program := "ytnpfmboolbhpaaa", sum := "5de71b0c379d7040304971970ab214590ba469827ecbba8b34e5b92759fc6a61", func := "yearbook/yearlaw7.FleetApart", spec := "fleetApart", unfollowed := true, recurses := true, plainKeys := false, apart := false, narrowed := true }
def FleetApartUptoSaid : Prop := fleetApartUptoRow.holds Try.pinned (OpenSpec.upto fleetApartSpec)

/-- 'yearlaw7.FleetBook', WHERE WHAT IT READS IS OF BULK AT MOST 1048576: true; the input reads as it did. -/
def fleetBookUptoRow : OpenClaim := { program := "ytnpfmboolbhpaaa", sum := "5de71b0c379d7040304971970ab214590ba469827ecbba8b34e5b92759fc6a61", func := "yearbook/yearlaw7.FleetBook", spec := "fleetBook", unfollowed := true, recurses := true, plainKeys := false, apart := false, narrowed := true }
def FleetBookUptoSaid : Prop := fleetBookUptoRow.holds Try.pinned (OpenSpec.upto fleetBookSpec)

/-- 'yearlaw7.FleetKeeps', WHERE WHAT IT READS IS OF BULK AT MOST 1048576: true; the input reads as it did. -/
def fleetKeepsUptoRow : OpenClaim := { program := "ytnpfmboolbhpaaa", sum := "5de71b0c379d7040304971970ab214590ba469827ecbba8b34e5b92759fc6a61", func := "yearbook/yearlaw7.FleetKeeps", spec := "fleetKeeps", unfollowed := true, recurses := true, plainKeys := false, apart := false, narrowed := true }
def FleetKeepsUptoSaid : Prop := fleetKeepsUptoRow.holds Try.pinned (OpenSpec.upto fleetKeepsSpec)

/-- 'yearlaw7.FleetFalse', WHERE WHAT IT READS IS OF BULK AT MOST 1048576: true; the input reads as it did. -/
def fleetFalseUptoRow : OpenClaim := { program := "ytnpfmboolbhpaaa", sum := "5de71b0c379d7040304971970ab214590ba469827ecbba8b34e5b92759fc6a61", func := "yearbook/yearlaw7.FleetFalse", spec := "fleetFalse", unfollowed := true, recurses := true, plainKeys := false, apart := false, narrowed := true }
def FleetFalseUptoSaid : Prop := fleetFalseUptoRow.holds Try.pinned (OpenSpec.upto fleetFalseSpec)

end Rows
end Go.Proofs.Ytnpfmboolbhpaaa
