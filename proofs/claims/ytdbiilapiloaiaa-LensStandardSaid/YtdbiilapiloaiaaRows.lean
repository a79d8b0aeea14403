/-
  No cell of these rows narrows 'for every input' (looked for: loops, veiled, ifaces, maps, wideKeys, modest, calm, conditions, laid).
  DERIVED. THE GIVEN ROWS OF THIS SEAT. 5 by the template 'for every input the law returns true; each argument reads behind the call as it read before'; 0 by the template 'total and deterministic' (their statements: YtdbiilapiloaiaaTotals.lean).
  GIVEN WITH THE SEED: the statements are not yours to turn. If you find one false, say at which input.
  Laid BY PROGRAM, IN A SANDBOX (cutbox-rows.mjs): the forced cells as the released guide's own fill.sh prints them over the translation 3d17fadffed05a89… (all of the seat's roots in one cut). By AI agents, Wed Nov 11 2026. No macro, syntax, notation, axiom, sorry.
-/
import Derived.Test.YtdbiilapiloaiaaChecked
import GoSem.Claim
import GoSem.ClaimJoined
import GoSem.ClaimMapViews
import Derived.JoinedTies
import Derived.KernelRfl
namespace Go.Proofs.Ytdbiilapiloaiaa
/- THE CELL 'sum', in the pinned program and in every row, IS THE sha256 OF THE DUMP (.gsa) THAT YtdbiilapiloaiaaProg.lean LOADS. Nothing in Lean hashes anything: it is a label: what it is worth is what the hold of that sum in a sandbox is worth. -/
noncomputable def Try.pinned : Pinned := { name := "ytdbiilapiloaiaa", sum := "3d17fadffed05a8959f997d8981a3feed937b203b04b555a0ff2d961823b8be2", checked := Try.checked }
namespace Rows
def none {H : Type} : Left H := { results := [], args := [] }

/-- 'sphenoidlaw19.LensMoves': WHATEVER THE INPUT: true; the input reads as it did. -/
def lensMovesSpec : ChangeSpec := { name := "lensMoves", fn := fun _ => fun
  | [d1, d2, d3] => { results := [.lit (.bool true)], args := [d1, d2, d3] }
  | _ => none }
def lensMovesRow : OpenClaim := { program := "ytdbiilapiloaiaa", sum := "3d17fadffed05a8959f997d8981a3feed937b203b04b555a0ff2d961823b8be2", func := "sphenoid/sphenoidlaw19.LensMoves", spec := "lensMoves", unfollowed := true, recurses := true, plainKeys := false, apart := false }
def LensMovesSaid : Prop := lensMovesRow.holds Try.pinned (OpenSpec.ofChange lensMovesSpec)

/-- ITS FALSE NEIGHBOUR: 'it returns false'. Refute it at one input. -/
def lensMovesWrong : ChangeSpec := { name := "lensMoves", fn := fun _ => fun
  | [d1, d2, d3] => { results := [.lit (.bool false)], args := [d1, d2, d3] }
  | _ => none }
def LensMovesWrongFalsely : Prop := lensMovesRow.holds Try.pinned (OpenSpec.ofChange lensMovesWrong)

/-- 'sphenoidlaw19.LensStandard': WHATEVER THE INPUT: true; the input reads as it did. -/
def lensStandardSpec : ChangeSpec := { name := "lensStandard", fn := fun _ => fun
  | [d1, d2, d3] => { results := [.lit (.bool true)], args := [d1, d2, d3] }
  | _ => none }
def lensStandardRow : OpenClaim := { program := "ytdbiilapiloaiaa", sum := "3d17fadffed05a8959f997d8981a3feed937b203b04b555a0ff2d961823b8be2", func := "sphenoid/sphenoidlaw19.LensStandard", spec := "lensStandard", unfollowed := true, recurses := true, plainKeys := false, apart := false }
def LensStandardSaid : Prop := lensStandardRow.holds Try.pinned (OpenSpec.ofChange lensStandardSpec)

/-- ITS FALSE NEIGHBOUR: 'it returns false'. Refute it at one input. -/
def lensStandardWrong : ChangeSpec := { name := "lensStandard", fn := fun _ => fun
  | [d1, d2, d3] => { results := [.lit (.bool false)], args := [d1, d2, d3] }
  | _ => none }
def LensStandardWrongFalsely : Prop := lensStandardRow.holds Try.pinned (OpenSpec.ofChange lensStandardWrong)

/-- 'sphenoidlaw19.LensMakes': WHATEVER THE INPUT: true; the input reads as it did. -/
def lensMakesSpec : ChangeSpec := { name := "lensMakes", fn := fun _ => fun
  | [d1, d2, d3, d4] => { results := [.lit (.bool true)], args := [d1, d2, d3, d4] }
  | _ => none }
def lensMakesRow : OpenClaim := { program := "ytdbiilapiloaiaa", sum := "3d17fadffed05a8959f997d8981a3feed937b203b04b555a0ff2d961823b8be2", func := "sphenoid/sphenoidlaw19.LensMakes", spec := "lensMakes", unfollowed := true, recurses := true, plainKeys := false, apart := false }
def LensMakesSaid : Prop := lensMakesRow.holds Try.pinned (OpenSpec.ofChange lensMakesSpec)

/-- ITS FALSE NEIGHBOUR: 'it returns false'. Refute it at one input. -/
def lensMakesWrong : ChangeSpec := { name := "lensMakes", fn := fun _ => fun
  | [d1, d2, d3, d4] => { results := [.lit (.bool false)], args := [d1, d2, d3, d4] }
  | _ => none }
def LensMakesWrongFalsely : Prop := lensMakesRow.holds Try.pinned (OpenSpec.ofChange lensMakesWrong)

/-- 'sphenoidlaw19.LensStays': WHATEVER THE INPUT: true; the input reads as it did. -/
def lensStaysSpec : ChangeSpec := { name := "lensStays", fn := fun _ => fun
  | [d1, d2] => { results := [.lit (.bool true)], args := [d1, d2] }
  | _ => none }
def lensStaysRow : OpenClaim := { program := "ytdbiilapiloaiaa", sum := "3d17fadffed05a8959f997d8981a3feed937b203b04b555a0ff2d961823b8be2", func := "sphenoid/sphenoidlaw19.LensStays", spec := "lensStays", unfollowed := true, recurses := true, plainKeys := false, apart := false }
def LensStaysSaid : Prop := lensStaysRow.holds Try.pinned (OpenSpec.ofChange lensStaysSpec)

/-- ITS FALSE NEIGHBOUR: 'it returns false'. Refute it at one input. -/
def lensStaysWrong : ChangeSpec := { name := "lensStays", fn := fun _ => fun
  | [d1, d2] => { results := [.lit (.bool false)], args := [d1, d2] }
  | _ => none }
def LensStaysWrongFalsely : Prop := lensStaysRow.holds Try.pinned (OpenSpec.ofChange lensStaysWrong)

/-- 'sphenoidlaw19.LensFound': WHATEVER THE INPUT: true; the input reads as it did. -/
def lensFoundSpec : ChangeSpec := { name := "lensFound", fn := fun _ => fun
  | [d1, d2, d3, d4, d5] => { results := [.lit (.bool true)], args := [d1, d2, d3, d4, d5] }
  | _ => none }
def lensFoundRow : OpenClaim := { program := "ytdbiilapiloaiaa", sum := "3d17fadffed05a8959f997d8981a3feed937b203b04b555a0ff2d961823b8be2", func := "sphenoid/sphenoidlaw19.LensFound", spec := "lensFound", unfollowed := true, recurses := true, plainKeys := false, apart := false }
def LensFoundSaid : Prop := lensFoundRow.holds Try.pinned (OpenSpec.ofChange lensFoundSpec)

/-- ITS FALSE NEIGHBOUR: 'it returns false'. Refute it at one input. -/
def lensFoundWrong : ChangeSpec := { name := "lensFound", fn := fun _ => fun
  | [d1, d2, d3, d4, d5] => { results := [.lit (.bool false)], args := [d1, d2, d3, d4, d5] }
  | _ => none }
def LensFoundWrongFalsely : Prop := lensFoundRow.holds Try.pinned (OpenSpec.ofChange lensFoundWrong)

/- THE SECOND FORM. 'bulk': how many values and letters a reading holds, each counted each time it is reached (what is shared counts as often as it is met; a slice's spare places count too). A statement '..UptoSaid' is the law's where the arguments, and the package variables that the reading takes, are together of bulk at most 1048576: NARROWER than '..Said'. Prove '..Said' where nothing that the law and all that it calls make is longer than what came in: it says more and counts as full. Else prove '..UptoSaid'. A law counts once. -/
mutual
def uptoBulk {H : Type} : DataW H → Nat
  | .lit (.string bytes) => bytes.length + 1
  | .lit _ => 1
  | .nil => 1
  | .ptr d => uptoBulk d + 1
  | .slice elems spare => uptoBulkAll elems + uptoBulkAll spare + 1
  | .agg parts => uptoBulkAll parts + 1
  | .iface _ d => uptoBulk d + 1
  | .map entries => uptoBulkEntries entries + 1
  | .held _ => 1
def uptoBulkAll {H : Type} : List (DataW H) → Nat
  | [] => 0
  | d :: r => uptoBulk d + uptoBulkAll r
def uptoBulkEntries {H : Type} : List (Lit × DataW H) → Nat
  | [] => 0
  | x :: r => uptoBulkEntry x + uptoBulkEntries r
def uptoBulkEntry {H : Type} : Lit × DataW H → Nat
  | (.string bytes, d) => bytes.length + uptoBulk d + 1
  | (_, d) => uptoBulk d + 1
 end
def uptoSmall : (H : Type) → List (DataW H) → Bool := fun _ ds => decide (uptoBulkAll ds ≤ 1048576)
def OpenSpec.upto (s : _root_.Go.ChangeSpec) : _root_.Go.OpenSpec := { _root_.Go.OpenSpec.ofChange s with cond := some uptoSmall }

/-- 'sphenoidlaw19.LensMoves', WHERE WHAT IT READS IS OF BULK AT MOST 1048576: true; the input reads as it did. -/
def lensMovesUptoRow : OpenClaim := { program := "ytdbiilapiloaiaa", sum := "3d17fadffed05a8959f997d8981a3feed937b203b04b555a0ff2d961823b8be2", func := "sphenoid/sphenoidlaw19.LensMoves", spec := "lensMoves", unfollowed := true, recurses := true, plainKeys := false, apart := false, narrowed := true }
def LensMovesUptoSaid : Prop := lensMovesUptoRow.holds Try.pinned (OpenSpec.upto lensMovesSpec)

/-- 'sphenoidlaw19.LensStandard', WHERE WHAT IT READS IS OF BULK AT MOST 1048576: true; the input reads as it did. -/
def lensStandardUptoRow : OpenClaim := { program := "ytdbiilapiloaiaa", sum := "3d17fadffed05a8959f997d8981a3feed937b203b04b555a0ff2d961823b8be2", func := "sphenoid/sphenoidlaw19.LensStandard", spec := "lensStandard", unfollowed := true, recurses := true, plainKeys := false, apart := false, narrowed := true }
def LensStandardUptoSaid : Prop := lensStandardUptoRow.holds Try.pinned (OpenSpec.upto lensStandardSpec)

/-- 'sphenoidlaw19.LensMakes', WHERE WHAT IT READS IS OF BULK AT MOST 1048576: true; the input reads as it did. -/
def lensMakesUptoRow : OpenClaim := { program := "ytdbiilapiloaiaa", sum := "3d17fadffed05a8959f997d8981a3feed937b203b04b555a0ff2d961823b8be2", func := "sphenoid/sphenoidlaw19.LensMakes", spec := "lensMakes", unfollowed := true, recurses := true, plainKeys := false, apart := false, narrowed := true }
def LensMakesUptoSaid : Prop := lensMakesUptoRow.holds Try.pinned (OpenSpec.upto lensMakesSpec)

/-- 'sphenoidlaw19.LensStays', WHERE WHAT IT READS IS OF BULK AT MOST 1048576: true; the input reads as it did. -/
def lensStaysUptoRow : OpenClaim := { program := "ytdbiilapiloaiaa", sum := "3d17fadffed05a8959f997d8981a3feed937b203b04b555a0ff2d961823b8be2", func := "sphenoid/sphenoidlaw19.LensStays", spec := "lensStays", unfollowed := true, recurses := true, plainKeys := false, apart := false, narrowed := true }
def LensStaysUptoSaid : Prop := lensStaysUptoRow.holds Try.pinned (OpenSpec.upto lensStaysSpec)

/-- 'sphenoidlaw19.LensFound', WHERE WHAT IT READS IS OF BULK AT MOST 1048576: true; the input reads as it did. -/
def lensFoundUptoRow : OpenClaim := { program := "ytdbiilapiloaiaa", sum := "3d17fadffed05a8959f997d8981a3feed937b203b04b555a0ff2d961823b8be2", func := "sphenoid/sphenoidlaw19.LensFound", spec := "lensFound", unfollowed := true, recurses := true, plainKeys := false, apart := false, narrowed := true }
def LensFoundUptoSaid : Prop := lensFoundUptoRow.holds Try.pinned (OpenSpec.upto lensFoundSpec)

end Rows
end Go.Proofs.Ytdbiilapiloaiaa
