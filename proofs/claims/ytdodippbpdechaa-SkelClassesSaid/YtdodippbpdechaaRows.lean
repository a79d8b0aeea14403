/-
  No cell of these rows narrows 'for every input' (looked for: loops, veiled, ifaces, maps, wideKeys, modest, calm, conditions, laid).
  DERIVED. THE GIVEN ROWS OF THIS SEAT. 7 by the template 'for every input the law returns true; each argument reads behind the call as it read before'; 0 by the template 'total and deterministic' (their statements: YtdodippbpdechaaTotals.lean).
  GIVEN WITH THE SEED: the statements are not yours to turn. If you find one false, say at which input.
  Laid BY PROGRAM, IN A SANDBOX (cutbox-rows.mjs): the forced cells as the released guide's own fill.sh prints them over the translation c71812ae9563ca06… (all of the seat's roots in one cut). By AI agents, Wed Nov 11 2026. No macro, syntax, notation, axiom, sorry.
-/
import Derived.Test.YtdodippbpdechaaChecked
import GoSem.Claim
import GoSem.ClaimJoined
import GoSem.ClaimMapViews
import Derived.JoinedTies
import Derived.KernelRfl
namespace Go.Proofs.Ytdodippbpdechaa
/- THE CELL 'sum', in the pinned program and in every row, IS THE sha256 OF THE DUMP (.gsa) THAT YtdodippbpdechaaProg.lean LOADS. Nothing in Lean hashes anything: it is a label: what it is worth is what the hold of that sum in a sandbox is worth. -/
noncomputable def Try.pinned : Pinned := { name := "ytdodippbpdechaa", sum := "c71812ae9563ca06d307787c2b9319137b794f1e6c57c8ef0625dfd029d7723e", checked := Try.checked }
namespace Rows
def none {H : Type} : Left H := { results := [], args := [] }

/-- 'sphenoidlaw02.SkelCounts': WHATEVER THE INPUT: true; the input reads as it did. -/
def skelCountsSpec : ChangeSpec := { name := "skelCounts", fn := fun _ => fun
  | [d] => { results := [.lit (.bool true)], args := [d] }
  | _ => none }
def skelCountsRow : OpenClaim := { program := "ytdodippbpdechaa", sum := "c71812ae9563ca06d307787c2b9319137b794f1e6c57c8ef0625dfd029d7723e", func := "sphenoid/sphenoidlaw02.SkelCounts", spec := "skelCounts", unfollowed := true, recurses := true, plainKeys := false, apart := false }
def SkelCountsSaid : Prop := skelCountsRow.holds Try.pinned (OpenSpec.ofChange skelCountsSpec)

/-- ITS FALSE NEIGHBOUR: 'it returns false'. Refute it at one input. -/
def skelCountsWrong : ChangeSpec := { name := "skelCounts", fn := fun _ => fun
  | [d] => { results := [.lit (.bool false)], args := [d] }
  | _ => none }
def SkelCountsWrongFalsely : Prop := skelCountsRow.holds Try.pinned (OpenSpec.ofChange skelCountsWrong)

/-- 'sphenoidlaw02.SkelRenumbered': WHATEVER THE INPUT: true; the input reads as it did. -/
def skelRenumberedSpec : ChangeSpec := { name := "skelRenumbered", fn := fun _ => fun
  | [d1, d2, d3] => { results := [.lit (.bool true)], args := [d1, d2, d3] }
  | _ => none }
def skelRenumberedRow : OpenClaim := { program := "ytdodippbpdechaa", sum := "c71812ae9563ca06d307787c2b9319137b794f1e6c57c8ef0625dfd029d7723e", func := "sphenoid/sphenoidlaw02.SkelRenumbered", spec := "skelRenumbered", unfollowed := true, recurses := true, plainKeys := false, apart := false }
def SkelRenumberedSaid : Prop := skelRenumberedRow.holds Try.pinned (OpenSpec.ofChange skelRenumberedSpec)

/-- ITS FALSE NEIGHBOUR: 'it returns false'. Refute it at one input. -/
def skelRenumberedWrong : ChangeSpec := { name := "skelRenumbered", fn := fun _ => fun
  | [d1, d2, d3] => { results := [.lit (.bool false)], args := [d1, d2, d3] }
  | _ => none }
def SkelRenumberedWrongFalsely : Prop := skelRenumberedRow.holds Try.pinned (OpenSpec.ofChange skelRenumberedWrong)

/-- 'sphenoidlaw02.SkelDoubles': WHATEVER THE INPUT: true; the input reads as it did. -/
def skelDoublesSpec : ChangeSpec := { name := "skelDoubles", fn := fun _ => fun
  | [d1, d2] => { results := [.lit (.bool true)], args := [d1, d2] }
  | _ => none }
def skelDoublesRow : OpenClaim := { program := "ytdodippbpdechaa", sum := "c71812ae9563ca06d307787c2b9319137b794f1e6c57c8ef0625dfd029d7723e", func := "sphenoid/sphenoidlaw02.SkelDoubles", spec := "skelDoubles", unfollowed := true, recurses := true, plainKeys := false, apart := false }
def SkelDoublesSaid : Prop := skelDoublesRow.holds Try.pinned (OpenSpec.ofChange skelDoublesSpec)

/-- ITS FALSE NEIGHBOUR: 'it returns false'. Refute it at one input. -/
def skelDoublesWrong : ChangeSpec := { name := "skelDoubles", fn := fun _ => fun
  | [d1, d2] => { results := [.lit (.bool false)], args := [d1, d2] }
  | _ => none }
def SkelDoublesWrongFalsely : Prop := skelDoublesRow.holds Try.pinned (OpenSpec.ofChange skelDoublesWrong)

/-- 'sphenoidlaw02.SkelClasses': WHATEVER THE INPUT: true; the input reads as it did. -/
def skelClassesSpec : ChangeSpec := { name := "skelClasses", fn := fun _ => fun
  | [d1, d2, d3] => { results := [.lit (.bool true)], args := [d1, d2, d3] }
  | _ => none }
def skelClassesRow : OpenClaim := { program := "ytdodippbpdechaa", sum := "c71812ae9563ca06d307787c2b9319137b794f1e6c57c8ef0625dfd029d7723e", func := "sphenoid/sphenoidlaw02.SkelClasses", spec := "skelClasses", unfollowed := true, recurses := true, plainKeys := false, apart := false }
def SkelClassesSaid : Prop := skelClassesRow.holds Try.pinned (OpenSpec.ofChange skelClassesSpec)

/-- ITS FALSE NEIGHBOUR: 'it returns false'. Refute it at one input. -/
def skelClassesWrong : ChangeSpec := { name := "skelClasses", fn := fun _ => fun
  | [d1, d2, d3] => { results := [.lit (.bool false)], args := [d1, d2, d3] }
  | _ => none }
def SkelClassesWrongFalsely : Prop := skelClassesRow.holds Try.pinned (OpenSpec.ofChange skelClassesWrong)

/-- 'sphenoidlaw02.SkelTurns': WHATEVER THE INPUT: true; the input reads as it did. -/
def skelTurnsSpec : ChangeSpec := { name := "skelTurns", fn := fun _ => fun
  | [d1, d2, d3, d4] => { results := [.lit (.bool true)], args := [d1, d2, d3, d4] }
  | _ => none }
def skelTurnsRow : OpenClaim := { program := "ytdodippbpdechaa", sum := "c71812ae9563ca06d307787c2b9319137b794f1e6c57c8ef0625dfd029d7723e", func := "sphenoid/sphenoidlaw02.SkelTurns", spec := "skelTurns", unfollowed := true, recurses := true, plainKeys := false, apart := false }
def SkelTurnsSaid : Prop := skelTurnsRow.holds Try.pinned (OpenSpec.ofChange skelTurnsSpec)

/-- ITS FALSE NEIGHBOUR: 'it returns false'. Refute it at one input. -/
def skelTurnsWrong : ChangeSpec := { name := "skelTurns", fn := fun _ => fun
  | [d1, d2, d3, d4] => { results := [.lit (.bool false)], args := [d1, d2, d3, d4] }
  | _ => none }
def SkelTurnsWrongFalsely : Prop := skelTurnsRow.holds Try.pinned (OpenSpec.ofChange skelTurnsWrong)

/-- 'sphenoidlaw02.SkelRings': WHATEVER THE INPUT: true; the input reads as it did. -/
def skelRingsSpec : ChangeSpec := { name := "skelRings", fn := fun _ => fun
  | [d1, d2, d3, d4] => { results := [.lit (.bool true)], args := [d1, d2, d3, d4] }
  | _ => none }
def skelRingsRow : OpenClaim := { program := "ytdodippbpdechaa", sum := "c71812ae9563ca06d307787c2b9319137b794f1e6c57c8ef0625dfd029d7723e", func := "sphenoid/sphenoidlaw02.SkelRings", spec := "skelRings", unfollowed := true, recurses := true, plainKeys := false, apart := false }
def SkelRingsSaid : Prop := skelRingsRow.holds Try.pinned (OpenSpec.ofChange skelRingsSpec)

/-- ITS FALSE NEIGHBOUR: 'it returns false'. Refute it at one input. -/
def skelRingsWrong : ChangeSpec := { name := "skelRings", fn := fun _ => fun
  | [d1, d2, d3, d4] => { results := [.lit (.bool false)], args := [d1, d2, d3, d4] }
  | _ => none }
def SkelRingsWrongFalsely : Prop := skelRingsRow.holds Try.pinned (OpenSpec.ofChange skelRingsWrong)

/-- 'sphenoidlaw02.SkelStays': WHATEVER THE INPUT: true; the input reads as it did. -/
def skelStaysSpec : ChangeSpec := { name := "skelStays", fn := fun _ => fun
  | [d1, d2, d3, d4] => { results := [.lit (.bool true)], args := [d1, d2, d3, d4] }
  | _ => none }
def skelStaysRow : OpenClaim := { program := "ytdodippbpdechaa", sum := "c71812ae9563ca06d307787c2b9319137b794f1e6c57c8ef0625dfd029d7723e", func := "sphenoid/sphenoidlaw02.SkelStays", spec := "skelStays", unfollowed := true, recurses := true, plainKeys := false, apart := false }
def SkelStaysSaid : Prop := skelStaysRow.holds Try.pinned (OpenSpec.ofChange skelStaysSpec)

/-- ITS FALSE NEIGHBOUR: 'it returns false'. Refute it at one input. -/
def skelStaysWrong : ChangeSpec := { name := "skelStays", fn := fun _ => fun
  | [d1, d2, d3, d4] => { results := [.lit (.bool false)], args := [d1, d2, d3, d4] }
  | _ => none }
def SkelStaysWrongFalsely : Prop := skelStaysRow.holds Try.pinned (OpenSpec.ofChange skelStaysWrong)

/- THE SECOND FORM. 'bulk': how many values and letters a reading holds, each counted each time it is reached (what is shared counts as often as it is met; a slice's spare places count too). A statement '..UptoSaid' is the law's where the arguments, and the package variables that the reading takes, are together of bulk at most 1048576: NARROWER than '..Said'. Prove '..Said' where nothing that the law and all that it calls make is longer than what came in: it says more and counts as full. Else prove '..UptoSaid'. A law counts once. -/
mutual
def uptoBulk {H : Type} : DataW H → Nat
  | .lit (.string bytes) => bytes.length + 1
  | .lit _ => 1
  | .nil => 1
  | .ptr d => uptoBulk d + 1
  | .slice elems spare => uptoBulkAll elems + uptoBulkAll spare + 1
  | .agg parts => uptoBulkAll parts + 1
  | .iface _ d => uptoBulk d + 1
  | .map entries => uptoBulkEntries entries + 1
  | .held _ => 1
def uptoBulkAll {H : Type} : List (DataW H) → Nat
  | [] => 0
  | d :: r => uptoBulk d + uptoBulkAll r
def uptoBulkEntries {H : Type} : List (Lit × DataW H) → Nat
  | [] => 0
  | x :: r => uptoBulkEntry x + uptoBulkEntries r
def uptoBulkEntry {H : Type} : Lit × DataW H → Nat
  | (.string bytes, d) => bytes.length + uptoBulk d + 1
  | (_, d) => uptoBulk d + 1
 end
def uptoSmall : (H : Type) → List (DataW H) → Bool := fun _ ds => decide (uptoBulkAll ds ≤ 1048576)
def OpenSpec.upto (s : _root_.Go.ChangeSpec) : _root_.Go.OpenSpec := { _root_.Go.OpenSpec.ofChange s with cond := some uptoSmall }

/-- 'sphenoidlaw02.SkelCounts', WHERE WHAT IT READS IS OF BULK AT MOST 1048576: true; the input reads as it did. -/
def skelCountsUptoRow : OpenClaim := { program := "ytdodippbpdechaa", sum := "c71812ae9563ca06d307787c2b9319137b794f1e6c57c8ef0625dfd029d7723e", func := "sphenoid/sphenoidlaw02.SkelCounts", spec := "skelCounts", unfollowed := true, recurses := true, plainKeys := false, apart := false, narrowed := true }
def SkelCountsUptoSaid : Prop := skelCountsUptoRow.holds Try.pinned (OpenSpec.upto skelCountsSpec)

/-- 'sphenoidlaw02.SkelRenumbered', WHERE WHAT IT READS IS OF BULK AT MOST 1048576: true; the input reads as it did. -/
def skelRenumberedUptoRow : OpenClaim := { program := "ytdodippbpdechaa", sum := "c71812ae9563ca06d307787c2b9319137b794f1e6c57c8ef0625dfd029d7723e", func := "sphenoid/sphenoidlaw02.SkelRenumbered", spec := "skelRenumbered", unfollowed := true, recurses := true, plainKeys := false, apart := false, narrowed := true }
def SkelRenumberedUptoSaid : Prop := skelRenumberedUptoRow.holds Try.pinned (OpenSpec.upto skelRenumberedSpec)

/-- 'sphenoidlaw02.SkelDoubles', WHERE WHAT IT READS IS OF BULK AT MOST 1048576: true; the input reads as it did. -/
def skelDoublesUptoRow : OpenClaim := { program := "ytdodippbpdechaa", sum := "c71812ae9563ca06d307787c2b9319137b794f1e6c57c8ef0625dfd029d7723e", func := "sphenoid/sphenoidlaw02.SkelDoubles", spec := "skelDoubles", unfollowed := true, recurses := true, plainKeys := false, apart := false, narrowed := true }
def SkelDoublesUptoSaid : Prop := skelDoublesUptoRow.holds Try.pinned (OpenSpec.upto skelDoublesSpec)

/-- 'sphenoidlaw02.SkelClasses', WHERE WHAT IT READS IS OF BULK AT MOST 1048576: true; the input reads as it did. -/
def skelClassesUptoRow : OpenClaim := { program := "ytdodippbpdechaa", sum := "c71812ae9563ca06d307787c2b9319137b794f1e6c57c8ef0625dfd029d7723e", func := "sphenoid/sphenoidlaw02.SkelClasses", spec := "skelClasses", unfollowed := true, recurses := true, plainKeys := false, apart := false, narrowed := true }
def SkelClassesUptoSaid : Prop := skelClassesUptoRow.holds Try.pinned (OpenSpec.upto skelClassesSpec)

/-- 'sphenoidlaw02.SkelTurns', WHERE WHAT IT READS IS OF BULK AT MOST 1048576: true; the input reads as it did. -/
def skelTurnsUptoRow : OpenClaim := { program := "ytdodippbpdechaa", sum := "c71812ae9563ca06d307787c2b9319137b794f1e6c57c8ef0625dfd029d7723e", func := "sphenoid/sphenoidlaw02.SkelTurns", spec := "skelTurns", unfollowed := true, recurses := true, plainKeys := false, apart := false, narrowed := true }
def SkelTurnsUptoSaid : Prop := skelTurnsUptoRow.holds Try.pinned (OpenSpec.upto skelTurnsSpec)

/-- 'sphenoidlaw02.SkelRings', WHERE WHAT IT READS IS OF BULK AT MOST 1048576: true; the input reads as it did. -/
def skelRingsUptoRow : OpenClaim := { program := "ytdodippbpdechaa", sum := "c71812ae9563ca06d307787c2b9319137b794f1e6c57c8ef0625dfd029d7723e", func := "sphenoid/sphenoidlaw02.SkelRings", spec := "skelRings", unfollowed := true, recurses := true, plainKeys := false, apart := false, narrowed := true }
def SkelRingsUptoSaid : Prop := skelRingsUptoRow.holds Try.pinned (OpenSpec.upto skelRingsSpec)

/-- 'sphenoidlaw02.SkelStays', WHERE WHAT IT READS IS OF BULK AT MOST 1048576: true; the input reads as it did. -/
def skelStaysUptoRow : OpenClaim := { program := "ytdodippbpdechaa", sum := "c71812ae9563ca06d307787c2b9319137b794f1e6c57c8ef0625dfd029d7723e", func := "sphenoid/sphenoidlaw02.SkelStays", spec := "skelStays", unfollowed := true, recurses := true, plainKeys := false, apart := false, narrowed := true }
def SkelStaysUptoSaid : Prop := skelStaysUptoRow.holds Try.pinned (OpenSpec.upto skelStaysSpec)

end Rows
end Go.Proofs.Ytdodippbpdechaa
