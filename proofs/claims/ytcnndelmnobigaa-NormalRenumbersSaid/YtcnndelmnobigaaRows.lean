/-
  No cell of these rows narrows 'for every input' (looked for: loops, veiled, ifaces, maps, wideKeys, modest, calm, conditions, laid).
  DERIVED. THE GIVEN ROWS OF THIS SEAT. 8 by the template 'for every input the law returns true; each argument reads behind the call as it read before'; 0 by the template 'total and deterministic' (their statements: YtcnndelmnobigaaTotals.lean).
  GIVEN WITH THE SEED: the statements are not yours to turn. If you find one false, say at which input.
  Laid BY PROGRAM, IN A SANDBOX (cutbox-rows.mjs): the forced cells as the released guide's own fill.sh prints them over the translation 67edbe2ec7042a01… (all of the seat's roots in one cut). By AI agents, Wed Nov 11 2026. No macro, syntax, notation, axiom, sorry.
-/
import Derived.Test.YtcnndelmnobigaaChecked
import GoSem.Claim
import GoSem.ClaimJoined
import GoSem.ClaimMapViews
import Derived.JoinedTies
import Derived.KernelRfl
namespace Go.Proofs.Ytcnndelmnobigaa
/- THE CELL 'sum', in the pinned program and in every row, IS THE sha256 OF THE DUMP (.gsa) THAT YtcnndelmnobigaaProg.lean LOADS. Nothing in Lean hashes anything: it is a label: what it is worth is what the hold of that sum in a sandbox is worth. -/
noncomputable def Try.pinned : Pinned := { name := "ytcnndelmnobigaa", sum := "67edbe2ec7042a012c2b7803236be915ebf0d0e4b9a3ef111097207aa68d44f8", checked := Try.checked }
namespace Rows
def none {H : Type} : Left H := { results := [], args := [] }

/-- 'sphenoidlaw13.NormalLinks': WHATEVER THE INPUT: true; the input reads as it did. -/
def normalLinksSpec : ChangeSpec := { name := "normalLinks", fn := fun _ => fun
  | [d] => { results := [.lit (.bool true)], args := [d] }
  | _ => none }
def normalLinksRow : OpenClaim := { program := "ytcnndelmnobigaa", sum := "67edbe2ec7042a012c2b7803236be915ebf0d0e4b9a3ef111097207aa68d44f8", func := "sphenoid/sphenoidlaw13.NormalLinks", spec := "normalLinks", unfollowed := true, recurses := true, apart := false }
def NormalLinksSaid : Prop := normalLinksRow.holds Try.pinned (OpenSpec.ofChange normalLinksSpec)

/-- ITS FALSE NEIGHBOUR: 'it returns false'. Refute it at one input. -/
def normalLinksWrong : ChangeSpec := { name := "normalLinks", fn := fun _ => fun
  | [d] => { results := [.lit (.bool false)], args := [d] }
  | _ => none }
def NormalLinksWrongFalsely : Prop := normalLinksRow.holds Try.pinned (OpenSpec.ofChange normalLinksWrong)

/-- 'sphenoidlaw13.NormalRenumbers': WHATEVER THE INPUT: true; the input reads as it did. -/
def normalRenumbersSpec : ChangeSpec := { name := "normalRenumbers", fn := fun _ => fun
  | [d1, d2, d3, d4] => { results := [.lit (.bool true)], args := [d1, d2, d3, d4] }
  | _ => none }
def normalRenumbersRow : OpenClaim := { program := "ytcnndelmnobigaa", sum := "67edbe2ec7042a012c2b7803236be915ebf0d0e4b9a3ef111097207aa68d44f8", func := "sphenoid/sphenoidlaw13.NormalRenumbers", spec := "normalRenumbers", unfollowed := true, recurses := true, apart := false }
def NormalRenumbersSaid : Prop := normalRenumbersRow.holds Try.pinned (OpenSpec.ofChange normalRenumbersSpec)

/-- ITS FALSE NEIGHBOUR: 'it returns false'. Refute it at one input. -/
def normalRenumbersWrong : ChangeSpec := { name := "normalRenumbers", fn := fun _ => fun
  | [d1, d2, d3, d4] => { results := [.lit (.bool false)], args := [d1, d2, d3, d4] }
  | _ => none }
def NormalRenumbersWrongFalsely : Prop := normalRenumbersRow.holds Try.pinned (OpenSpec.ofChange normalRenumbersWrong)

/-- 'sphenoidlaw13.NormalParts': WHATEVER THE INPUT: true; the input reads as it did. -/
def normalPartsSpec : ChangeSpec := { name := "normalParts", fn := fun _ => fun
  | [d1, d2] => { results := [.lit (.bool true)], args := [d1, d2] }
  | _ => none }
def normalPartsRow : OpenClaim := { program := "ytcnndelmnobigaa", sum := "67edbe2ec7042a012c2b7803236be915ebf0d0e4b9a3ef111097207aa68d44f8", func := "sphenoid/sphenoidlaw13.NormalParts", spec := "normalParts", unfollowed := true, recurses := true, apart := false }
def NormalPartsSaid : Prop := normalPartsRow.holds Try.pinned (OpenSpec.ofChange normalPartsSpec)

/-- ITS FALSE NEIGHBOUR: 'it returns false'. Refute it at one input. -/
def normalPartsWrong : ChangeSpec := { name := "normalParts", fn := fun _ => fun
  | [d1, d2] => { results := [.lit (.bool false)], args := [d1, d2] }
  | _ => none }
def NormalPartsWrongFalsely : Prop := normalPartsRow.holds Try.pinned (OpenSpec.ofChange normalPartsWrong)

/-- 'sphenoidlaw13.NormalBasics': WHATEVER THE INPUT: true; the input reads as it did. -/
def normalBasicsSpec : ChangeSpec := { name := "normalBasics", fn := fun _ => fun
  | [d1, d2] => { results := [.lit (.bool true)], args := [d1, d2] }
  | _ => none }
def normalBasicsRow : OpenClaim := { program := "ytcnndelmnobigaa", sum := "67edbe2ec7042a012c2b7803236be915ebf0d0e4b9a3ef111097207aa68d44f8", func := "sphenoid/sphenoidlaw13.NormalBasics", spec := "normalBasics", unfollowed := true, recurses := true, apart := false }
def NormalBasicsSaid : Prop := normalBasicsRow.holds Try.pinned (OpenSpec.ofChange normalBasicsSpec)

/-- ITS FALSE NEIGHBOUR: 'it returns false'. Refute it at one input. -/
def normalBasicsWrong : ChangeSpec := { name := "normalBasics", fn := fun _ => fun
  | [d1, d2] => { results := [.lit (.bool false)], args := [d1, d2] }
  | _ => none }
def NormalBasicsWrongFalsely : Prop := normalBasicsRow.holds Try.pinned (OpenSpec.ofChange normalBasicsWrong)

/-- 'sphenoidlaw13.NormalEquations': WHATEVER THE INPUT: true; the input reads as it did. -/
def normalEquationsSpec : ChangeSpec := { name := "normalEquations", fn := fun _ => fun
  | [d1, d2] => { results := [.lit (.bool true)], args := [d1, d2] }
  | _ => none }
def normalEquationsRow : OpenClaim := { program := "ytcnndelmnobigaa", sum := "67edbe2ec7042a012c2b7803236be915ebf0d0e4b9a3ef111097207aa68d44f8", func := "sphenoid/sphenoidlaw13.NormalEquations", spec := "normalEquations", unfollowed := true, recurses := true, apart := false }
def NormalEquationsSaid : Prop := normalEquationsRow.holds Try.pinned (OpenSpec.ofChange normalEquationsSpec)

/-- ITS FALSE NEIGHBOUR: 'it returns false'. Refute it at one input. -/
def normalEquationsWrong : ChangeSpec := { name := "normalEquations", fn := fun _ => fun
  | [d1, d2] => { results := [.lit (.bool false)], args := [d1, d2] }
  | _ => none }
def NormalEquationsWrongFalsely : Prop := normalEquationsRow.holds Try.pinned (OpenSpec.ofChange normalEquationsWrong)

/-- 'sphenoidlaw13.NormalSums': WHATEVER THE INPUT: true; the input reads as it did. -/
def normalSumsSpec : ChangeSpec := { name := "normalSums", fn := fun _ => fun
  | [d1, d2, d3] => { results := [.lit (.bool true)], args := [d1, d2, d3] }
  | _ => none }
def normalSumsRow : OpenClaim := { program := "ytcnndelmnobigaa", sum := "67edbe2ec7042a012c2b7803236be915ebf0d0e4b9a3ef111097207aa68d44f8", func := "sphenoid/sphenoidlaw13.NormalSums", spec := "normalSums", unfollowed := true, recurses := true, apart := false }
def NormalSumsSaid : Prop := normalSumsRow.holds Try.pinned (OpenSpec.ofChange normalSumsSpec)

/-- ITS FALSE NEIGHBOUR: 'it returns false'. Refute it at one input. -/
def normalSumsWrong : ChangeSpec := { name := "normalSums", fn := fun _ => fun
  | [d1, d2, d3] => { results := [.lit (.bool false)], args := [d1, d2, d3] }
  | _ => none }
def NormalSumsWrongFalsely : Prop := normalSumsRow.holds Try.pinned (OpenSpec.ofChange normalSumsWrong)

/-- 'sphenoidlaw13.NormalMakes': WHATEVER THE INPUT: true; the input reads as it did. -/
def normalMakesSpec : ChangeSpec := { name := "normalMakes", fn := fun _ => fun
  | [d1, d2, d3, d4] => { results := [.lit (.bool true)], args := [d1, d2, d3, d4] }
  | _ => none }
def normalMakesRow : OpenClaim := { program := "ytcnndelmnobigaa", sum := "67edbe2ec7042a012c2b7803236be915ebf0d0e4b9a3ef111097207aa68d44f8", func := "sphenoid/sphenoidlaw13.NormalMakes", spec := "normalMakes", unfollowed := true, recurses := true, apart := false }
def NormalMakesSaid : Prop := normalMakesRow.holds Try.pinned (OpenSpec.ofChange normalMakesSpec)

/-- ITS FALSE NEIGHBOUR: 'it returns false'. Refute it at one input. -/
def normalMakesWrong : ChangeSpec := { name := "normalMakes", fn := fun _ => fun
  | [d1, d2, d3, d4] => { results := [.lit (.bool false)], args := [d1, d2, d3, d4] }
  | _ => none }
def NormalMakesWrongFalsely : Prop := normalMakesRow.holds Try.pinned (OpenSpec.ofChange normalMakesWrong)

/-- 'sphenoidlaw13.NormalStays': WHATEVER THE INPUT: true; the input reads as it did. -/
def normalStaysSpec : ChangeSpec := { name := "normalStays", fn := fun _ => fun
  | [d1, d2, d3, d4] => { results := [.lit (.bool true)], args := [d1, d2, d3, d4] }
  | _ => none }
def normalStaysRow : OpenClaim := { program := "ytcnndelmnobigaa", sum := "67edbe2ec7042a012c2b7803236be915ebf0d0e4b9a3ef111097207aa68d44f8", func := "sphenoid/sphenoidlaw13.NormalStays", spec := "normalStays", unfollowed := true, recurses := true, apart := false }
def NormalStaysSaid : Prop := normalStaysRow.holds Try.pinned (OpenSpec.ofChange normalStaysSpec)

/-- ITS FALSE NEIGHBOUR: 'it returns false'. Refute it at one input. -/
def normalStaysWrong : ChangeSpec := { name := "normalStays", fn := fun _ => fun
  | [d1, d2, d3, d4] => { results := [.lit (.bool false)], args := [d1, d2, d3, d4] }
  | _ => none }
def NormalStaysWrongFalsely : Prop := normalStaysRow.holds Try.pinned (OpenSpec.ofChange normalStaysWrong)

/- THE SECOND FORM. 'bulk': how many values and letters a reading holds, each counted each time it is reached (what is shared counts as often as it is met; a slice's spare places count too). A statement '..UptoSaid' is the law's where the arguments, and the package variables that the reading takes, are together of bulk at most 1048576: NARROWER than '..Said'. Prove '..Said' where nothing that the law and all that it calls make is longer than what came in: it says more and counts as full. Else prove '..UptoSaid'. A law counts once. -/
mutual
def uptoBulk {H : Type} : DataW H → Nat
  | .lit (.string bytes) => bytes.length + 1
  | .lit _ => 1
  | .nil => 1
  | .ptr d => uptoBulk d + 1
  | .slice elems spare => uptoBulkAll elems + uptoBulkAll spare + 1
  | .agg parts => uptoBulkAll parts + 1
  | .iface _ d => uptoBulk d + 1
  | .map entries => uptoBulkEntries entries + 1
  | .held _ => 1
def uptoBulkAll {H : Type} : List (DataW H) → Nat
  | [] => 0
  | d :: r => uptoBulk d + uptoBulkAll r
def uptoBulkEntries {H : Type} : List (Lit × DataW H) → Nat
  | [] => 0
  | x :: r => uptoBulkEntry x + uptoBulkEntries r
def uptoBulkEntry {H : Type} : Lit × DataW H → Nat
  | (.string bytes, d) => bytes.length + uptoBulk d + 1
  | (_, d) => uptoBulk d + 1
 end
def uptoSmall : (H : Type) → List (DataW H) → Bool := fun _ ds => decide (uptoBulkAll ds ≤ 1048576)
def OpenSpec.upto (s : _root_.Go.ChangeSpec) : _root_.Go.OpenSpec := { _root_.Go.OpenSpec.ofChange s with cond := some uptoSmall }

/-- 'sphenoidlaw13.NormalLinks', WHERE WHAT IT READS IS OF BULK AT MOST 1048576: true; the input reads as it did. -/
def normalLinksUptoRow : OpenClaim := { program := "ytcnndelmnobigaa", sum := "67edbe2ec7042a012c2b7803236be915ebf0d0e4b9a3ef111097207aa68d44f8", func := "sphenoid/sphenoidlaw13.NormalLinks", spec := "normalLinks", unfollowed := true, recurses := true, apart := false, narrowed := true }
def NormalLinksUptoSaid : Prop := normalLinksUptoRow.holds Try.pinned (OpenSpec.upto normalLinksSpec)

/-- 'sphenoidlaw13.NormalRenumbers', WHERE WHAT IT READS IS OF BULK AT MOST 1048576: true; the input reads as it did. -/
def normalRenumbersUptoRow : OpenClaim := { program := "ytcnndelmnobigaa", sum := "67edbe2ec7042a012c2b7803236be915ebf0d0e4b9a3ef111097207aa68d44f8", func := "sphenoid/sphenoidlaw13.NormalRenumbers", spec := "normalRenumbers", unfollowed := true, recurses := true, apart := false, narrowed := true }
def NormalRenumbersUptoSaid : Prop := normalRenumbersUptoRow.holds Try.pinned (OpenSpec.upto normalRenumbersSpec)

/-- 'sphenoidlaw13.NormalParts', WHERE WHAT IT READS IS OF BULK AT MOST 1048576: true; the input reads as it did. -/
def normalPartsUptoRow : OpenClaim := { program := "ytcnndelmnobigaa", sum := "67edbe2ec7042a012c2b7803236be915ebf0d0e4b9a3ef111097207aa68d44f8", func := "sphenoid/sphenoidlaw13.NormalParts", spec := "normalParts", unfollowed := true, recurses := true, apart := false, narrowed := true }
def NormalPartsUptoSaid : Prop := normalPartsUptoRow.holds Try.pinned (OpenSpec.upto normalPartsSpec)

/-- 'sphenoidlaw13.NormalBasics', WHERE WHAT IT READS IS OF BULK AT MOST 1048576: true; the input reads as it did. -/
def normalBasicsUptoRow : OpenClaim := { program := "ytcnndelmnobigaa", sum := "67edbe2ec7042a012c2b7803236be915ebf0d0e4b9a3ef111097207aa68d44f8", func := "sphenoid/sphenoidlaw13.NormalBasics", spec := "normalBasics", unfollowed := true, recurses := true, apart := false, narrowed := true }
def NormalBasicsUptoSaid : Prop := normalBasicsUptoRow.holds Try.pinned (OpenSpec.upto normalBasicsSpec)

/-- 'sphenoidlaw13.NormalEquations', WHERE WHAT IT READS IS OF BULK AT MOST 1048576: true; the input reads as it did. -/
def normalEquationsUptoRow : OpenClaim := { program := "ytcnndelmnobigaa", sum := "67edbe2ec7042a012c2b7803236be915ebf0d0e4b9a3ef111097207aa68d44f8", func := "sphenoid/sphenoidlaw13.NormalEquations", spec := "normalEquations", unfollowed := true, recurses := true, apart := false, narrowed := true }
def NormalEquationsUptoSaid : Prop := normalEquationsUptoRow.holds Try.pinned (OpenSpec.upto normalEquationsSpec)

/-- 'sphenoidlaw13.NormalSums', WHERE WHAT IT READS IS OF BULK AT MOST 1048576: true; the input reads as it did. -/
def normalSumsUptoRow : OpenClaim := { program := "ytcnndelmnobigaa", sum := "67edbe2ec7042a012c2b7803236be915ebf0d0e4b9a3ef111097207aa68d44f8", func := "sphenoid/sphenoidlaw13.NormalSums", spec := "normalSums", unfollowed := true, recurses := true, apart := false, narrowed := true }
def NormalSumsUptoSaid : Prop := normalSumsUptoRow.holds Try.pinned (OpenSpec.upto normalSumsSpec)

/-- 'sphenoidlaw13.NormalMakes', WHERE WHAT IT READS IS OF BULK AT MOST 1048576: true; the input reads as it did. -/
def normalMakesUptoRow : OpenClaim := { program := "ytcnndelmnobigaa", sum := "67edbe2ec7042a012c2b7803236be915ebf0d0e4b9a3ef111097207aa68d44f8", func := "sphenoid/sphenoidlaw13.NormalMakes", spec := "normalMakes", unfollowed := true, recurses := true, apart := false, narrowed := true }
def NormalMakesUptoSaid : Prop := normalMakesUptoRow.holds Try.pinned (OpenSpec.upto normalMakesSpec)

/-- 'sphenoidlaw13.NormalStays', WHERE WHAT IT READS IS OF BULK AT MOST 1048576: true; the input reads as it did. -/
def normalStaysUptoRow : OpenClaim := { program := "ytcnndelmnobigaa", sum := "67edbe2ec7042a012c2b7803236be915ebf0d0e4b9a3ef111097207aa68d44f8", func := "sphenoid/sphenoidlaw13.NormalStays", spec := "normalStays", unfollowed := true, recurses := true, apart := false, narrowed := true }
def NormalStaysUptoSaid : Prop := normalStaysUptoRow.holds Try.pinned (OpenSpec.upto normalStaysSpec)

end Rows
end Go.Proofs.Ytcnndelmnobigaa
