/- The skeletons of the functions, and the book. Printed by a program. -/
import Derived.Test.YtdbiilapiloaiaaChecked
import Derived.KernelRfl
import Derived.Test.YtdbiilapiloaiaaAbEval
import Derived.Test.YtdbiilapiloaiaaAbGc
set_option linter.all false
namespace Go.Proofs.Ytdbiilapiloaiaa.Base
open Go Go.Ab Go.Proofs
set_option maxRecDepth 100000
set_option linter.unusedVariables false
variable {H : Type} [HeapC H]
noncomputable abbrev P := Try.prog
noncomputable def f72_b : Code := bodyOf Try.f72
noncomputable def f72_c72000 : ACode := (.seq (.region 3 (opsAt f72_b [1, 1, 0, 1, 0, 0, 0]) false) (.seq (.cond (.tmp 8) .skip (.exit 0)) (.seq (.block 1 (.seq (.region 4 (opsAt f72_b [1, 1, 0, 1, 0, 0, 1, 1, 0, 0, 0]) false) (.seq (.seq (.region 5 (opsAt f72_b [1, 1, 0, 1, 0, 0, 1, 1, 0, 0, 1, 0, 0]) false) (.cond (.tmp 15) (.seq (.region 6 (opsAt f72_b [1, 1, 0, 1, 0, 0, 1, 1, 0, 0, 1, 0, 1, 0, 0]) false) .ret) .skip)) (.region 7 (opsAt f72_b [1, 1, 0, 1, 0, 0, 1, 1, 0, 0, 1, 1]) false)))) (.region 8 (opsAt f72_b [1, 1, 0, 1, 0, 0, 1, 1, 1]) false))))
noncomputable def f72_k72000 (rd : Option Nat) : Key := .lp 72000 [2, 3, 6, 7] [] f72_c72000 23 rd
noncomputable def f72_c : ACode := (.seq (.region 0 (opsAt f72_b [0]) false) (.seq (.region 1 (opsAt f72_b [1, 0]) false) (.seq (.seq (.region 2 (opsAt f72_b [1, 1, 0, 0]) false) (.block 0 (.loop 72000 [2, 3, 6, 7] [] [(.exit 0), .ret] f72_c72000))) (.seq (.region 9 (opsAt f72_b [1, 1, 1, 0]) false) .ret))))
noncomputable def f72_f : AFun := { code := f72_c, nt := 23, res := Try.f72.results.toList, fr := [] }
noncomputable def f73_b : Code := bodyOf Try.f73
noncomputable def f73_c73000 : ACode := (.seq (.region 3 (opsAt f73_b [1, 1, 0, 1, 0, 0, 0]) false) (.seq (.cond (.tmp 8) .skip (.exit 0)) (.seq (.block 1 (.seq (.region 4 (opsAt f73_b [1, 1, 0, 1, 0, 0, 1, 1, 0, 0, 0]) false) (.region 5 (opsAt f73_b [1, 1, 0, 1, 0, 0, 1, 1, 0, 0, 1]) false))) (.region 6 (opsAt f73_b [1, 1, 0, 1, 0, 0, 1, 1, 1]) false))))
noncomputable def f73_k73000 (rd : Option Nat) : Key := .lp 73000 [2, 3, 6, 7] [] f73_c73000 16 rd
noncomputable def f73_c : ACode := (.seq (.region 0 (opsAt f73_b [0]) false) (.seq (.region 1 (opsAt f73_b [1, 0]) false) (.seq (.seq (.region 2 (opsAt f73_b [1, 1, 0, 0]) false) (.block 0 (.loop 73000 [2, 3, 6, 7] [] [(.exit 0)] f73_c73000))) (.seq (.region 7 (opsAt f73_b [1, 1, 1, 0]) false) .ret))))
noncomputable def f73_f : AFun := { code := f73_c, nt := 16, res := Try.f73.results.toList, fr := [] }
noncomputable def f110_b : Code := bodyOf Try.f110
noncomputable def f110_c : ACode := (.seq (.region 0 (opsAt f110_b [0]) false) (.seq (.region 1 (opsAt f110_b [1, 0]) true) .ret))
noncomputable def f110_f : AFun := { code := f110_c, nt := 22, res := Try.f110.results.toList, fr := [] }
noncomputable def bkT : BT AFun := (.node 73 f73_f (.node 72 f72_f .leaf .leaf) (.node 110 f110_f .leaf .leaf))
noncomputable def bk (f : FuncId) : Option AFun := bkT.look f
theorem bk_72 : bk 72 = some f72_f := by kernel_rfl
theorem ok_72 : EntOK P 72 f72_f := ⟨Try.f72, f72_b, Try.func72, rfl, by kernel_rfl, by kernel_rfl, rfl, rfl⟩
theorem bk_73 : bk 73 = some f73_f := by kernel_rfl
theorem ok_73 : EntOK P 73 f73_f := ⟨Try.f73, f73_b, Try.func73, rfl, by kernel_rfl, by kernel_rfl, rfl, rfl⟩
theorem bk_110 : bk 110 = some f110_f := by kernel_rfl
theorem ok_110 : EntOK P 110 f110_f := ⟨Try.f110, f110_b, Try.func110, rfl, by kernel_rfl, by kernel_rfl, rfl, rfl⟩
theorem bk_ok : BookOK P bk := fun f a e => BT.look_all (Q := EntOK P) (t := bkT) (And.intro ok_73 (And.intro (And.intro ok_72 (And.intro trivial trivial)) (And.intro ok_110 (And.intro trivial trivial)))) e
theorem mixed : P.follows .mixedOrders = true := by kernel_rfl
def selF : List Nat := []
def selL : List Nat := [72000, 73000]
def nmem (x : Nat) : List Nat → Bool
  | [] => false
  | y :: ys => cond (Nat.beq x y) true (nmem x ys)
def sel : Key → Bool
  | .fn f => !(nmem f selF)
  | .lp j _ _ _ _ _ => nmem j selL
  | .rnd .. => false
noncomputable def ext : Fo FH := fun f args h c => match args with
  | [] => cond (nmem f []) (some { e := .ret, vs := [.bool true], h := h, c := c, df := [] }) none
  | _ => none
noncomputable abbrev G : Orc FH := runG P bk sel ext
end Go.Proofs.Ytdbiilapiloaiaa.Base
