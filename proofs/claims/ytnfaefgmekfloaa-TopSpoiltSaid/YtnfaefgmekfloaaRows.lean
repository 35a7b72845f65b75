/-
  No cell of these rows narrows 'for every input' (looked for: loops, veiled, ifaces, maps, wideKeys, modest, calm, conditions, laid).
  DERIVED. THE GIVEN ROWS OF THIS SEAT. 8 by the template 'for every input the law returns true; each argument reads behind the call as it read before'; 0 by the template 'total and deterministic' (their statements: YtnfaefgmekfloaaTotals.lean).
  GIVEN WITH THE SEED: the statements are not yours to turn. If you find one false, say at which input.
  Laid BY PROGRAM, IN A SANDBOX (cutbox-rows.mjs): the forced cells as the released guide's own fill.sh prints them over the translation 9971a9d098936fbd… (all of the seat's roots in one cut). By AI agents, Wed Nov 11 2026. No macro, syntax, notation, axiom, sorry.
-/
import Derived.Test.YtnfaefgmekfloaaChecked
import GoSem.Claim
import GoSem.ClaimJoined
import GoSem.ClaimMapViews
import Derived.JoinedTies
import Derived.KernelRfl
namespace Go.Proofs.Ytnfaefgmekfloaa
/- THE CELL 'sum', in the pinned program and in every row, IS THE sha256 OF THE DUMP (.gsa) THAT YtnfaefgmekfloaaProg.lean LOADS. Nothing in Lean hashes anything: it is a label: what it is worth is what the hold of that sum in a sandbox is worth. -/
noncomputable def Try.pinned : Pinned := { name := "ytnfaefgmekfloaa", sum := "9971a9d098936fbd06beb753489adf87452b2e922cf42fb8de9e8a6085603a0f", checked := Try.checked }
namespace Rows
def none {H : Type} : Left H := { results := [], args := [] }

/-- 'yeartop.TopSpoilt': WHATEVER THE INPUT: true; the input reads as it did. -/
def topSpoiltSpec : ChangeSpec := { name := "topSpoilt", fn := fun _ => fun
  | [d1, d2, d3, d4] => { results := [.lit (.bool true)], args := [d1, d2, d3, d4] }
  | _ => none }
def topSpoiltRow : OpenClaim := { program := "ytnfaefgmekfloaa", sum := "9971a9d098936fbd06beb753489adf87452b2e922cf42fb8de9e8a6085603a0f", func := "yearbook/yeartop.TopSpoilt", spec := "topSpoilt", unfollowed := true, recurses := true, plainKeys := false, apart := false }
def TopSpoiltSaid : Prop := topSpoiltRow.holds Try.pinned (OpenSpec.ofChange topSpoiltSpec)

/-- ITS FALSE NEIGHBOUR: 'it returns false'. Refute it at one input. -/
def topSpoiltWrong : ChangeSpec := { name := "topSpoilt", fn := fun _ => fun
  | [d1, d2, d3, d4] => { results := [.lit (.bool false)], args := [d1, d2, d3, d4] }
  | _ => none }
def TopSpoiltWrongFalsely : Prop := topSpoiltRow.holds Try.pinned (OpenSpec.ofChange topSpoiltWrong)

/-- 'yeartop.TopBorder': WHATEVER THE INPUT: true; the input reads as it did. -/
def topBorderSpec : ChangeSpec := { name := "topBorder", fn := fun _ => fun
  | [d1, d2, d3, d4, d5] => { results := [.lit (.bool true)], args := [d1, d2, d3, d4, d5] }
  | _ => none }
def topBorderRow : OpenClaim := { program := "ytnfaefgmekfloaa", sum := "9971a9d098936fbd06beb753489adf87452b2e922cf42fb8de9e8a6085603a0f", func := "yearbook/yeartop.TopBorder", spec := "topBorder", unfollowed := true, recurses := true, plainKeys := false, apart := false }
def TopBorderSaid : Prop := topBorderRow.holds Try.pinned (OpenSpec.ofChange topBorderSpec)

/-- ITS FALSE NEIGHBOUR: 'it returns false'. Refute it at one input. -/
def topBorderWrong : ChangeSpec := { name := "topBorder", fn := fun _ => fun
  | [d1, d2, d3, d4, d5] => { results := [.lit (.bool false)], args := [d1, d2, d3, d4, d5] }
  | _ => none }
def TopBorderWrongFalsely : Prop := topBorderRow.holds Try.pinned (OpenSpec.ofChange topBorderWrong)

/-- 'yeartop.TopSteps': WHATEVER THE INPUT: true; the input reads as it did. -/
def topStepsSpec : ChangeSpec := { name := "topSteps", fn := fun _ => fun
  | [d] => { results := [.lit (.bool true)], args := [d] }
  | _ => none }
def topStepsRow : OpenClaim := { program := "ytnfaefgmekfloaa", sum := "9971a9d098936fbd06beb753489adf87452b2e922cf42fb8de9e8a6085603a0f", func := "yearbook/yeartop.TopSteps", spec := "topSteps", unfollowed := true, recurses := true, plainKeys := false, apart := false }
def TopStepsSaid : Prop := topStepsRow.holds Try.pinned (OpenSpec.ofChange topStepsSpec)

/-- ITS FALSE NEIGHBOUR: 'it returns false'. Refute it at one input. -/
def topStepsWrong : ChangeSpec := { name := "topSteps", fn := fun _ => fun
  | [d] => { results := [.lit (.bool false)], args := [d] }
  | _ => none }
def TopStepsWrongFalsely : Prop := topStepsRow.holds Try.pinned (OpenSpec.ofChange topStepsWrong)

/-- 'yeartop.TopHeads': WHATEVER THE INPUT: true; the input reads as it did. -/
def topHeadsSpec : ChangeSpec := { name := "topHeads", fn := fun _ => fun
  | [d] => { results := [.lit (.bool true)], args := [d] }
  | _ => none }
def topHeadsRow : OpenClaim := { program := "ytnfaefgmekfloaa", sum := "9971a9d098936fbd06beb753489adf87452b2e922cf42fb8de9e8a6085603a0f", func := "yearbook/yeartop.TopHeads", spec := "topHeads", unfollowed := true, recurses := true, plainKeys := false, apart := false }
def TopHeadsSaid : Prop := topHeadsRow.holds Try.pinned (OpenSpec.ofChange topHeadsSpec)

/-- ITS FALSE NEIGHBOUR: 'it returns false'. Refute it at one input. -/
def topHeadsWrong : ChangeSpec := { name := "topHeads", fn := fun _ => fun
  | [d] => { results := [.lit (.bool false)], args := [d] }
  | _ => none }
def TopHeadsWrongFalsely : Prop := topHeadsRow.holds Try.pinned (OpenSpec.ofChange topHeadsWrong)

/-- 'yeartop.TopFull': WHATEVER THE INPUT: true; the input reads as it did. -/
def topFullSpec : ChangeSpec := { name := "topFull", fn := fun _ => fun
  | [d1, d2] => { results := [.lit (.bool true)], args := [d1, d2] }
  | _ => none }
def topFullRow : OpenClaim := { program := "ytnfaefgmekfloaa", sum := "9971a9d098936fbd06beb753489adf87452b2e922cf42fb8de9e8a6085603a0f", func := "yearbook/yeartop.TopFull", spec := "topFull", unfollowed := true, recurses := true, plainKeys := false, apart := false }
def TopFullSaid : Prop := topFullRow.holds Try.pinned (OpenSpec.ofChange topFullSpec)

/-- ITS FALSE NEIGHBOUR: 'it returns false'. Refute it at one input. -/
def topFullWrong : ChangeSpec := { name := "topFull", fn := fun _ => fun
  | [d1, d2] => { results := [.lit (.bool false)], args := [d1, d2] }
  | _ => none }
def TopFullWrongFalsely : Prop := topFullRow.holds Try.pinned (OpenSpec.ofChange topFullWrong)

/-- 'yeartop.TopYears': WHATEVER THE INPUT: true; the input reads as it did. -/
def topYearsSpec : ChangeSpec := { name := "topYears", fn := fun _ => fun
  | [d1, d2, d3] => { results := [.lit (.bool true)], args := [d1, d2, d3] }
  | _ => none }
def topYearsRow : OpenClaim := { program := "ytnfaefgmekfloaa", sum := "9971a9d098936fbd06beb753489adf87452b2e922cf42fb8de9e8a6085603a0f", func := "yearbook/yeartop.TopYears", spec := "topYears", unfollowed := true, recurses := true, plainKeys := false, apart := false }
def TopYearsSaid : Prop := topYearsRow.holds Try.pinned (OpenSpec.ofChange topYearsSpec)

/-- ITS FALSE NEIGHBOUR: 'it returns false'. Refute it at one input. -/
def topYearsWrong : ChangeSpec := { name := "topYears", fn := fun _ => fun
  | [d1, d2, d3] => { results := [.lit (.bool false)], args := [d1, d2, d3] }
  | _ => none }
def TopYearsWrongFalsely : Prop := topYearsRow.holds Try.pinned (OpenSpec.ofChange topYearsWrong)

/-- 'yearlaw7.FleetOnce': WHATEVER THE INPUT: true; the input reads as it did. -/
def fleetOnceSpec : ChangeSpec := { name := "fleetOnce", fn := fun _ => fun
  | [d1, d2] => { results := [.lit (.bool true)], args := [d1, d2] }
  | _ => none }
def fleetOnceRow : OpenClaim := { program := "ytnfaefgmekfloaa", sum := "9971a9d098936fbd06beb753489adf87452b2e922cf42fb8de9e8a6085603a0f", func := "yearbook/yearlaw7.FleetOnce", spec := "fleetOnce", unfollowed := true, recurses := true, plainKeys := false, apart := false }
def FleetOnceSaid : Prop := fleetOnceRow.holds Try.pinned (OpenSpec.ofChange fleetOnceSpec)

/-- ITS FALSE NEIGHBOUR: 'it returns false'. Refute it at one input. -/
def fleetOnceWrong : ChangeSpec := { name := "fleetOnce", fn := fun _ => fun
  | [d1, d2] => { results := [.lit (.bool false)], args := [d1, d2] }
  | _ => none }
def FleetOnceWrongFalsely : Prop := fleetOnceRow.holds Try.pinned (OpenSpec.ofChange fleetOnceWrong)

/-- 'yearlaw7.FleetBook': WHATEVER THE INPUT: true; the input reads as it did. -/
def fleetBookSpec : ChangeSpec := { name := "fleetBook", fn := fun _ => fun
  | [d1, d2, d3] => { results := [.lit (.bool true)], args := [d1, d2, d3] }
  | _ => none }
def fleetBookRow : OpenClaim := { program := "ytnfaefgmekfloaa", sum := "9971a9d098936fbd06beb753489adf87452b2e922cf42fb8de9e8a6085603a0f", func := "yearbook/yearlaw7.FleetBook", spec := "fleetBook", unfollowed := true, recurses := true, plainKeys := false, apart := false }
def FleetBookSaid : Prop := fleetBookRow.holds Try.pinned (OpenSpec.ofChange fleetBookSpec)

/-- ITS FALSE NEIGHBOUR: 'it returns false'. Refute it at one input. -/
def fleetBookWrong : ChangeSpec := { name := "fleetBook", fn := fun _ => fun
  | [d1, d2, d3] => { results := [.lit (.bool false)], args := [d1, d2, d3] }
  | _ => none }
def FleetBookWrongFalsely : Prop := fleetBookRow.holds Try.pinned (OpenSpec.ofChange fleetBookWrong)

/- THE SECOND FORM. 'bulk': how many values and letters a reading holds, each counted each time it is reached (what is shared counts as often as it is met; a slice's spare places count too). A statement '..UptoSaid' is the law's where the arguments, and the package variables that the reading takes, are together of bulk at most 1048576: NARROWER than '..Said'. Prove '..Said' where nothing that the law and all that it calls make is longer than what came in: it says more and counts as full. Else prove '..UptoSaid'. A law counts once. -/
mutual
def uptoBulk {H : Type} : DataW H → Nat
  | .lit (.string bytes) => bytes.length + 1
  | .lit _ => 1
  | .nil => 1
  | .ptr d => uptoBulk d + 1
  | .slice elems spare => uptoBulkAll elems + uptoBulkAll spare + 1
  | .agg parts => uptoBulkAll parts + 1
  | .iface _ d => uptoBulk d + 1
  | .map entries => uptoBulkEntries entries + 1
  | .held _ => 1
def uptoBulkAll {H : Type} : List (DataW H) → Nat
  | [] => 0
  | d :: r => uptoBulk d + uptoBulkAll r
def uptoBulkEntries {H : Type} : List (Lit × DataW H) → Nat
  | [] => 0
  | x :: r => uptoBulkEntry x + uptoBulkEntries r
def uptoBulkEntry {H : Type} : Lit × DataW H → Nat
  | (.string bytes, d) => bytes.length + uptoBulk d + 1
  | (_, d) => uptoBulk d + 1
 end
def uptoSmall : (H : Type) → List (DataW H) → Bool := fun _ ds => decide (uptoBulkAll ds ≤ 1048576)
def OpenSpec.upto (s : _root_.Go.ChangeSpec) : _root_.Go.OpenSpec := { _root_.Go.OpenSpec.ofChange s with cond := some uptoSmall }

/-- 'yeartop.TopSpoilt', WHERE WHAT IT READS IS OF BULK AT MOST 1048576: true; the input reads as it did. -/
def topSpoiltUptoRow : OpenClaim := { program := "ytnfaefgmekfloaa", sum := "9971a9d098936fbd06beb753489adf87452b2e922cf42fb8de9e8a6085603a0f", func := "yearbook/yeartop.TopSpoilt", spec := "topSpoilt", unfollowed := true, recurses := true, plainKeys := false, apart := false, narrowed := true }
def TopSpoiltUptoSaid : Prop := topSpoiltUptoRow.holds Try.pinned (OpenSpec.upto topSpoiltSpec)

/-- 'yeartop.TopBorder', WHERE WHAT IT READS IS OF BULK AT MOST 1048576: true; the input reads as it did. -/
def topBorderUptoRow : OpenClaim := { program := "ytnfaefgmekfloaa", sum := "9971a9d098936fbd06beb753489adf87452b2e922cf42fb8de9e8a6085603a0f", func := "yearbook/yeartop.TopBorder", spec := "topBorder", unfollowed := true, recurses := true, plainKeys := false, apart := false, narrowed := true }
def TopBorderUptoSaid : Prop := topBorderUptoRow.holds Try.pinned (OpenSpec.upto topBorderSpec)

/-- 'yeartop.TopSteps', WHERE WHAT IT READS IS OF BULK AT MOST 1048576: true; the input reads as it did. -/
def topStepsUptoRow : OpenClaim := { program := "ytnfaefgmekfloaa", sum := "9971a9d098936fbd06beb753489adf87452b2e922cf42fb8de9e8a6085603a0f", func := "yearbook/yeartop.TopSteps", spec := "topSteps", unfollowed := true, recurses := true, plainKeys := false, apart := false, narrowed := true }
def TopStepsUptoSaid : Prop := topStepsUptoRow.holds Try.pinned (OpenSpec.upto topStepsSpec)

/-- 'yeartop.TopHeads', WHERE WHAT IT READS IS OF BULK AT MOST 1048576: true; the input reads as it did. -/
def topHeadsUptoRow : OpenClaim := { program := "ytnfaefgmekfloaa", sum := "9971a9d098936fbd06beb753489adf87452b2e922cf42fb8de9e8a6085603a0f", func := "yearbook/yeartop.TopHeads", spec := "topHeads", unfollowed := true, recurses := true, plainKeys := false, apart := false, narrowed := true }
def TopHeadsUptoSaid : Prop := topHeadsUptoRow.holds Try.pinned (OpenSpec.upto topHeadsSpec)

/-- 'yeartop.TopFull', WHERE WHAT IT READS IS OF BULK AT MOST 1048576: true; the input reads as it did. -/
def topFullUptoRow : OpenClaim := { program := "ytnfaefgmekfloaa", sum := "9971a9d098936fbd06beb753489adf87452b2e922cf42fb8de9e8a6085603a0f", func := "yearbook/yeartop.TopFull", spec := "topFull", unfollowed := true, recurses := true, plainKeys := false, apart := false, narrowed := true }
def TopFullUptoSaid : Prop := topFullUptoRow.holds Try.pinned (OpenSpec.upto topFullSpec)

/-- 'yeartop.TopYears', WHERE WHAT IT READS IS OF BULK AT MOST 1048576: true; the input reads as it did. -/
def topYearsUptoRow : OpenClaim := { program := "ytnfaefgmekfloaa", sum := "9971a9d098936fbd06beb753489adf87452b2e922cf42fb8de9e8a6085603a0f", func := "yearbook/yeartop.TopYears", spec := "topYears", unfollowed := true, recurses := true, plainKeys := false, apart := false, narrowed := true }
def TopYearsUptoSaid : Prop := topYearsUptoRow.holds Try.pinned (OpenSpec.upto topYearsSpec)

/-- 'yearlaw7.FleetOnce', WHERE WHAT IT READS IS OF BULK AT MOST 1048576: true; the input reads as it did. -/
def fleetOnceUptoRow : OpenClaim := { program := "ytnfaefgmekfloaa", sum := "9971a9d098936fbd06beb753489adf87452b2e922cf42fb8de9e8a6085603a0f", func := "yearbook/yearlaw7.FleetOnce", spec := "fleetOnce", unfollowed := true, recurses := true, plainKeys := false, apart := false, narrowed := true }
def FleetOnceUptoSaid : Prop := fleetOnceUptoRow.holds Try.pinned (OpenSpec.upto fleetOnceSpec)

/-- 'yearlaw7.FleetBook', WHERE WHAT IT READS IS OF BULK AT MOST 1048576: true; the input reads as it did. -/
def fleetBookUptoRow : OpenClaim := { program := "ytnfaefgmekfloaa", sum := "9971a9d098936fbd06beb753489adf87452b2e922cf42fb8de9e8a6085603a0f", func := "yearbook/yearlaw7.FleetBook", spec := "fleetBook", unfollowed := true, recurses := true, plainKeys := false, apart := false, narrowed := true }
def FleetBookUptoSaid : Prop := fleetBookUptoRow.holds Try.pinned (OpenSpec.upto fleetBookSpec)

end Rows
end Go.Proofs.Ytnfaefgmekfloaa
