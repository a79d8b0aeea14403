/-
  No cell of these rows narrows 'for every input' (looked for: loops, veiled, ifaces, maps, wideKeys, modest, calm, conditions, laid).
  DERIVED. THE GIVEN ROWS OF THIS SEAT. 7 by the template 'for every input the law returns true; each argument reads behind the call as it read before'; 0 by the template 'total and deterministic' (their statements: YtemkjcpfgmbibaaTotals.lean).
  GIVEN WITH THE SEED: the statements are not yours to turn. If you find one false, say at which input.
  Laid BY PROGRAM, IN A SANDBOX (cutbox-rows.mjs): the forced cells as the released guide's own fill.sh prints them over the translation d6127712a926c25a… (all of the seat's roots in one cut). By AI agents, Wed Nov 11 2026. No macro, syntax, notation, axiom, sorry.
-/
import Derived.Test.YtemkjcpfgmbibaaChecked
import GoSem.Claim
import GoSem.ClaimJoined
import GoSem.ClaimMapViews
import Derived.JoinedTies
import Derived.KernelRfl
namespace Go.Proofs.Ytemkjcpfgmbibaa
/- THE CELL 'sum', in the pinned program and in every row, IS THE sha256 OF THE DUMP (.gsa) THAT YtemkjcpfgmbibaaProg.lean LOADS. Nothing in Lean hashes anything: it is a label: what it is worth is what the hold of that sum in a sandbox is worth. -/
noncomputable def Try.pinned : Pinned := { name := "ytemkjcpfgmbibaa", sum := "d6127712a926c25a01845731488f347d7e4a65d06582c035c65104359a46acbb", checked := Try.checked }
namespace Rows
def none {H : Type} : Left H := { results := [], args := [] }

/-- 'sphenoidlaw03.IsoLists': WHATEVER THE INPUT: true; the input reads as it did. -/
def isoListsSpec : ChangeSpec := { name := "isoLists", fn := fun _ => fun
  | [d1, d2] => { results := [.lit (.bool true)], args := [d1, d2] }
  | _ => none }
def isoListsRow : OpenClaim := { program := "ytemkjcpfgmbibaa", sum := "d6127712a926c25a01845731488f347d7e4a65d06582c035c65104359a46acbb", func := "sphenoid/sphenoidlaw03.IsoLists", spec := "isoLists", unfollowed := true, recurses := true, apart := false }
def IsoListsSaid : Prop := isoListsRow.holds Try.pinned (OpenSpec.ofChange isoListsSpec)

/-- ITS FALSE NEIGHBOUR: 'it returns false'. Refute it at one input. -/
def isoListsWrong : ChangeSpec := { name := "isoLists", fn := fun _ => fun
  | [d1, d2] => { results := [.lit (.bool false)], args := [d1, d2] }
  | _ => none }
def IsoListsWrongFalsely : Prop := isoListsRow.holds Try.pinned (OpenSpec.ofChange isoListsWrong)

/-- 'sphenoidlaw03.IsoChecks': WHATEVER THE INPUT: true; the input reads as it did. -/
def isoChecksSpec : ChangeSpec := { name := "isoChecks", fn := fun _ => fun
  | [d1, d2, d3] => { results := [.lit (.bool true)], args := [d1, d2, d3] }
  | _ => none }
def isoChecksRow : OpenClaim := { program := "ytemkjcpfgmbibaa", sum := "d6127712a926c25a01845731488f347d7e4a65d06582c035c65104359a46acbb", func := "sphenoid/sphenoidlaw03.IsoChecks", spec := "isoChecks", unfollowed := true, recurses := true, apart := false }
def IsoChecksSaid : Prop := isoChecksRow.holds Try.pinned (OpenSpec.ofChange isoChecksSpec)

/-- ITS FALSE NEIGHBOUR: 'it returns false'. Refute it at one input. -/
def isoChecksWrong : ChangeSpec := { name := "isoChecks", fn := fun _ => fun
  | [d1, d2, d3] => { results := [.lit (.bool false)], args := [d1, d2, d3] }
  | _ => none }
def IsoChecksWrongFalsely : Prop := isoChecksRow.holds Try.pinned (OpenSpec.ofChange isoChecksWrong)

/-- 'sphenoidlaw03.IsoAlgebra': WHATEVER THE INPUT: true; the input reads as it did. -/
def isoAlgebraSpec : ChangeSpec := { name := "isoAlgebra", fn := fun _ => fun
  | [d1, d2, d3, d4] => { results := [.lit (.bool true)], args := [d1, d2, d3, d4] }
  | _ => none }
def isoAlgebraRow : OpenClaim := { program := "ytemkjcpfgmbibaa", sum := "d6127712a926c25a01845731488f347d7e4a65d06582c035c65104359a46acbb", func := "sphenoid/sphenoidlaw03.IsoAlgebra", spec := "isoAlgebra", unfollowed := true, recurses := true, apart := false }
def IsoAlgebraSaid : Prop := isoAlgebraRow.holds Try.pinned (OpenSpec.ofChange isoAlgebraSpec)

/-- ITS FALSE NEIGHBOUR: 'it returns false'. Refute it at one input. -/
def isoAlgebraWrong : ChangeSpec := { name := "isoAlgebra", fn := fun _ => fun
  | [d1, d2, d3, d4] => { results := [.lit (.bool false)], args := [d1, d2, d3, d4] }
  | _ => none }
def IsoAlgebraWrongFalsely : Prop := isoAlgebraRow.holds Try.pinned (OpenSpec.ofChange isoAlgebraWrong)

/-- 'sphenoidlaw03.IsoCanonical': WHATEVER THE INPUT: true; the input reads as it did. -/
def isoCanonicalSpec : ChangeSpec := { name := "isoCanonical", fn := fun _ => fun
  | [d] => { results := [.lit (.bool true)], args := [d] }
  | _ => none }
def isoCanonicalRow : OpenClaim := { program := "ytemkjcpfgmbibaa", sum := "d6127712a926c25a01845731488f347d7e4a65d06582c035c65104359a46acbb", func := "sphenoid/sphenoidlaw03.IsoCanonical", spec := "isoCanonical", unfollowed := true, recurses := true, apart := false }
def IsoCanonicalSaid : Prop := isoCanonicalRow.holds Try.pinned (OpenSpec.ofChange isoCanonicalSpec)

/-- ITS FALSE NEIGHBOUR: 'it returns false'. Refute it at one input. -/
def isoCanonicalWrong : ChangeSpec := { name := "isoCanonical", fn := fun _ => fun
  | [d] => { results := [.lit (.bool false)], args := [d] }
  | _ => none }
def IsoCanonicalWrongFalsely : Prop := isoCanonicalRow.holds Try.pinned (OpenSpec.ofChange isoCanonicalWrong)

/-- 'sphenoidlaw03.IsoRenumbers': WHATEVER THE INPUT: true; the input reads as it did. -/
def isoRenumbersSpec : ChangeSpec := { name := "isoRenumbers", fn := fun _ => fun
  | [d1, d2] => { results := [.lit (.bool true)], args := [d1, d2] }
  | _ => none }
def isoRenumbersRow : OpenClaim := { program := "ytemkjcpfgmbibaa", sum := "d6127712a926c25a01845731488f347d7e4a65d06582c035c65104359a46acbb", func := "sphenoid/sphenoidlaw03.IsoRenumbers", spec := "isoRenumbers", unfollowed := true, recurses := true, apart := false }
def IsoRenumbersSaid : Prop := isoRenumbersRow.holds Try.pinned (OpenSpec.ofChange isoRenumbersSpec)

/-- ITS FALSE NEIGHBOUR: 'it returns false'. Refute it at one input. -/
def isoRenumbersWrong : ChangeSpec := { name := "isoRenumbers", fn := fun _ => fun
  | [d1, d2] => { results := [.lit (.bool false)], args := [d1, d2] }
  | _ => none }
def IsoRenumbersWrongFalsely : Prop := isoRenumbersRow.holds Try.pinned (OpenSpec.ofChange isoRenumbersWrong)

/-- 'sphenoidlaw03.IsoFinds': WHATEVER THE INPUT: true; the input reads as it did. -/
def isoFindsSpec : ChangeSpec := { name := "isoFinds", fn := fun _ => fun
  | [d1, d2] => { results := [.lit (.bool true)], args := [d1, d2] }
  | _ => none }
def isoFindsRow : OpenClaim := { program := "ytemkjcpfgmbibaa", sum := "d6127712a926c25a01845731488f347d7e4a65d06582c035c65104359a46acbb", func := "sphenoid/sphenoidlaw03.IsoFinds", spec := "isoFinds", unfollowed := true, recurses := true, apart := false }
def IsoFindsSaid : Prop := isoFindsRow.holds Try.pinned (OpenSpec.ofChange isoFindsSpec)

/-- ITS FALSE NEIGHBOUR: 'it returns false'. Refute it at one input. -/
def isoFindsWrong : ChangeSpec := { name := "isoFinds", fn := fun _ => fun
  | [d1, d2] => { results := [.lit (.bool false)], args := [d1, d2] }
  | _ => none }
def IsoFindsWrongFalsely : Prop := isoFindsRow.holds Try.pinned (OpenSpec.ofChange isoFindsWrong)

/-- 'sphenoidlaw03.IsoStays': WHATEVER THE INPUT: true; the input reads as it did. -/
def isoStaysSpec : ChangeSpec := { name := "isoStays", fn := fun _ => fun
  | [d1, d2, d3, d4] => { results := [.lit (.bool true)], args := [d1, d2, d3, d4] }
  | _ => none }
def isoStaysRow : OpenClaim := { program := "ytemkjcpfgmbibaa", sum := "d6127712a926c25a01845731488f347d7e4a65d06582c035c65104359a46acbb", func := "sphenoid/sphenoidlaw03.IsoStays", spec := "isoStays", unfollowed := true, recurses := true, apart := false }
def IsoStaysSaid : Prop := isoStaysRow.holds Try.pinned (OpenSpec.ofChange isoStaysSpec)

/-- ITS FALSE NEIGHBOUR: 'it returns false'. Refute it at one input. -/
def isoStaysWrong : ChangeSpec := { name := "isoStays", fn := fun _ => fun
  | [d1, d2, d3, d4] => { results := [.lit (.bool false)], args := [d1, d2, d3, d4] }
  | _ => none }
def IsoStaysWrongFalsely : Prop := isoStaysRow.holds Try.pinned (OpenSpec.ofChange isoStaysWrong)

/- THE SECOND FORM. 'bulk': how many values and letters a reading holds, each counted each time it is reached (what is shared counts as often as it is met; a slice's spare places count too). A statement '..UptoSaid' is the law's where the arguments, and the package variables that the reading takes, are together of bulk at most 1048576: NARROWER than '..Said'. Prove '..Said' where nothing that the law and all that it calls make is longer than what came in: it says more and counts as full. Else prove '..UptoSaid'. A law counts once. -/
mutual
def uptoBulk {H : Type} : DataW H → Nat
  | .lit (.string bytes) => bytes.length + 1
  | .lit _ => 1
  | .nil => 1
  | .ptr d => uptoBulk d + 1
  | .slice elems spare => uptoBulkAll elems + uptoBulkAll spare + 1
  | .agg parts => uptoBulkAll parts + 1
  | .iface _ d => uptoBulk d + 1
  | .map entries => uptoBulkEntries entries + 1
  | .held _ => 1
def uptoBulkAll {H : Type} : List (DataW H) → Nat
  | [] => 0
  | d :: r => uptoBulk d + uptoBulkAll r
def uptoBulkEntries {H : Type} : List (Lit × DataW H) → Nat
  | [] => 0
  | x :: r => uptoBulkEntry x + uptoBulkEntries r
def uptoBulkEntry {H : Type} : Lit × DataW H → Nat
  | (.string bytes, d) => bytes.length + uptoBulk d + 1
  | (_, d) => uptoBulk d + 1
 end
def uptoSmall : (H : Type) → List (DataW H) → Bool := fun _ ds => decide (uptoBulkAll ds ≤ 1048576)
def OpenSpec.upto (s : _root_.Go.ChangeSpec) : _root_.Go.OpenSpec := { _root_.Go.OpenSpec.ofChange s with cond := some uptoSmall }

/-- 'sphenoidlaw03.IsoLists', WHERE WHAT IT READS IS OF BULK AT MOST 1048576: true; the input reads as it did. -/
def isoListsUptoRow : OpenClaim := { program := "ytemkjcpfgmbibaa", sum := "d6127712a926c25a01845731488f347d7e4a65d06582c035c65104359a46acbb", func := "sphenoid/sphenoidlaw03.IsoLists", spec := "isoLists", unfollowed := true, recurses := true, apart := false, narrowed := true }
def IsoListsUptoSaid : Prop := isoListsUptoRow.holds Try.pinned (OpenSpec.upto isoListsSpec)

/-- 'sphenoidlaw03.IsoChecks', WHERE WHAT IT READS IS OF BULK AT MOST 1048576: true; the input reads as it did. -/
def isoChecksUptoRow : OpenClaim := { program := "ytemkjcpfgmbibaa", sum := "d6127712a926c25a01845731488f347d7e4a65d06582c035c65104359a46acbb", func := "sphenoid/sphenoidlaw03.IsoChecks", spec := "isoChecks", unfollowed := true, recurses := true, apart := false, narrowed := true }
def IsoChecksUptoSaid : Prop := isoChecksUptoRow.holds Try.pinned (OpenSpec.upto isoChecksSpec)

/-- 'sphenoidlaw03.IsoAlgebra', WHERE WHAT IT READS IS OF BULK AT MOST 1048576: true; the input reads as it did. -/
def isoAlgebraUptoRow : OpenClaim := { program := "ytemkjcpfgmbibaa", sum := "d6127712a926c25a01845731488f347d7e4a65d06582c035c65104359a46acbb", func := "sphenoid/sphenoidlaw03.IsoAlgebra", spec := "isoAlgebra", unfollowed := true, recurses := true, apart := false, narrowed := true }
def IsoAlgebraUptoSaid : Prop := isoAlgebraUptoRow.holds Try.pinned (OpenSpec.upto isoAlgebraSpec)

/-- 'sphenoidlaw03.IsoCanonical', WHERE WHAT IT READS IS OF BULK AT MOST 1048576: true; the input reads as it did. -/
def isoCanonicalUptoRow : OpenClaim := { program := "ytemkjcpfgmbibaa", sum := "d6127712a926c25a01845731488f347d7e4a65d06582c035c65104359a46acbb", func := "sphenoid/sphenoidlaw03.IsoCanonical", spec := "isoCanonical", unfollowed := true, recurses := true, apart := false, narrowed := true }
def IsoCanonicalUptoSaid : Prop := isoCanonicalUptoRow.holds Try.pinned (OpenSpec.upto isoCanonicalSpec)

/-- 'sphenoidlaw03.IsoRenumbers', WHERE WHAT IT READS IS OF BULK AT MOST 1048576: true; the input reads as it did. -/
def isoRenumbersUptoRow : OpenClaim := { program := "ytemkjcpfgmbibaa", sum := "d6127712a926c25a01845731488f347d7e4a65d06582c035c65104359a46acbb", func := "sphenoid/sphenoidlaw03.IsoRenumbers", spec := "isoRenumbers", unfollowed := true, recurses := true, apart := false, narrowed := true }
def IsoRenumbersUptoSaid : Prop := isoRenumbersUptoRow.holds Try.pinned (OpenSpec.upto isoRenumbersSpec)

/-- 'sphenoidlaw03.IsoFinds', WHERE WHAT IT READS IS OF BULK AT MOST 1048576: true; the input reads as it did. -/
def isoFindsUptoRow : OpenClaim := { program := "ytemkjcpfgmbibaa", sum := "d6127712a926c25a01845731488f347d7e4a65d06582c035c65104359a46acbb", func := "sphenoid/sphenoidlaw03.IsoFinds", spec := "isoFinds", unfollowed := true, recurses := true, apart := false, narrowed := true }
def IsoFindsUptoSaid : Prop := isoFindsUptoRow.holds Try.pinned (OpenSpec.upto isoFindsSpec)

/-- 'sphenoidlaw03.IsoStays', WHERE WHAT IT READS IS OF BULK AT MOST 1048576: true; the input reads as it did. -/
def isoStaysUptoRow : OpenClaim := { program := "ytemkjcpfgmbibaa", sum := "d6127712a926c25a01845731488f347d7e4a65d06582c035c65104359a46acbb", func := "sphenoid/sphenoidlaw03.IsoStays", spec := "isoStays", unfollowed := true, recurses := true, apart := false, narrowed := true }
def IsoStaysUptoSaid : Prop := isoStaysUptoRow.holds Try.pinned (OpenSpec.upto isoStaysSpec)

end Rows
end Go.Proofs.Ytemkjcpfgmbibaa
