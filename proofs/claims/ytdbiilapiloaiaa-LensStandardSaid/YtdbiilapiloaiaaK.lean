/- The skeletons of the functions, and the book. Printed by a program. -/
import Derived.Test.YtdbiilapiloaiaaChecked
import Derived.KernelRfl
import Derived.Test.YtdbiilapiloaiaaAbEval
import Derived.Test.YtdbiilapiloaiaaAbGc
set_option linter.all false
namespace Go.Proofs.Ytdbiilapiloaiaa
open Go Go.Ab Go.Proofs
set_option maxRecDepth 100000
set_option linter.unusedVariables false
variable {H : Type} [HeapC H]
noncomputable abbrev P := Try.prog
noncomputable def f4_b : Code := bodyOf Try.f4
noncomputable def f4_c : ACode := (.seq (.region 0 (opsAt f4_b [0]) false) (.seq (.seq (.region 1 (opsAt f4_b [1, 0, 0]) false) (.cond (.tmp 16) (.seq (.region 2 (opsAt f4_b [1, 0, 1, 0, 0]) false) .ret) .skip)) (.seq (.seq (.region 3 (opsAt f4_b [1, 1, 0, 0]) false) (.cond (.tmp 38) (.seq (.region 4 (opsAt f4_b [1, 1, 0, 1, 0, 0]) false) .ret) .skip)) (.seq (.region 5 (opsAt f4_b [1, 1, 1, 0]) false) (.seq (.seq (.region 6 (opsAt f4_b [1, 1, 1, 1, 0, 0]) false) (.cond (.tmp 46) (.seq (.region 7 (opsAt f4_b [1, 1, 1, 1, 0, 1, 0, 0]) false) .ret) .skip)) (.seq (.region 8 (opsAt f4_b [1, 1, 1, 1, 1, 0]) false) (.seq (.region 9 (opsAt f4_b [1, 1, 1, 1, 1, 1, 0]) false) (.seq (.seq (.region 10 (opsAt f4_b [1, 1, 1, 1, 1, 1, 1, 0, 0]) false) (.cond (.tmp 77) (.seq (.region 11 (opsAt f4_b [1, 1, 1, 1, 1, 1, 1, 0, 1, 0, 0]) false) .ret) .skip)) (.seq (.region 12 (opsAt f4_b [1, 1, 1, 1, 1, 1, 1, 1, 0]) false) (.seq (.seq (.region 13 (opsAt f4_b [1, 1, 1, 1, 1, 1, 1, 1, 1, 0, 0]) false) (.cond (.tmp 89) (.seq (.region 14 (opsAt f4_b [1, 1, 1, 1, 1, 1, 1, 1, 1, 0, 1, 0, 0]) false) .ret) .skip)) (.seq (.region 15 (opsAt f4_b [1, 1, 1, 1, 1, 1, 1, 1, 1, 1, 0]) false) (.seq (.region 16 (opsAt f4_b [1, 1, 1, 1, 1, 1, 1, 1, 1, 1, 1, 0]) false) .ret))))))))))))
noncomputable def f4_f : AFun := { code := f4_c, nt := 134, res := Try.f4.results.toList, fr := [] }
noncomputable def f8_b : Code := bodyOf Try.f8
noncomputable def f8_c : ACode := (.seq (.region 0 (opsAt f8_b [0]) false) (.seq (.region 1 (opsAt f8_b [1, 0]) false) (.seq (.region 2 (opsAt f8_b [1, 1, 0]) false) (.seq (.seq (.region 3 (opsAt f8_b [1, 1, 1, 0, 0]) false) (.cond (.tmp 52) (.seq (.region 4 (opsAt f8_b [1, 1, 1, 0, 1, 0, 0]) false) .ret) .skip)) (.seq (.region 5 (opsAt f8_b [1, 1, 1, 1, 0]) false) (.seq (.region 6 (opsAt f8_b [1, 1, 1, 1, 1, 0]) false) (.seq (.region 7 (opsAt f8_b [1, 1, 1, 1, 1, 1, 0]) false) (.seq (.region 8 (opsAt f8_b [1, 1, 1, 1, 1, 1, 1, 0]) false) (.seq (.region 9 (opsAt f8_b [1, 1, 1, 1, 1, 1, 1, 1, 0]) false) .ret)))))))))
noncomputable def f8_f : AFun := { code := f8_c, nt := 113, res := Try.f8.results.toList, fr := [] }
noncomputable def f10_b : Code := bodyOf Try.f10
noncomputable def f10_c : ACode := (.seq (.region 0 (opsAt f10_b [0]) false) (.seq (.seq (.region 1 (opsAt f10_b [1, 0, 0]) false) (.cond (.tmp 6) (.seq (.region 2 (opsAt f10_b [1, 0, 1, 0, 0]) false) .ret) .skip)) (.seq (.region 3 (opsAt f10_b [1, 1, 0]) false) .ret)))
noncomputable def f10_f : AFun := { code := f10_c, nt := 10, res := Try.f10.results.toList, fr := [] }
noncomputable def f13_b : Code := bodyOf Try.f13
noncomputable def f13_c : ACode := (.seq (.region 0 (opsAt f13_b [0]) false) (.seq (.seq (.region 1 (opsAt f13_b [1, 0, 0]) false) (.cond (.tmp 7) (.seq (.region 2 (opsAt f13_b [1, 0, 1, 0, 0]) false) .ret) .skip)) (.seq (.region 3 (opsAt f13_b [1, 1, 0]) false) (.seq (.seq (.region 4 (opsAt f13_b [1, 1, 1, 0, 0]) false) (.cond (.tmp 15) (.seq (.region 5 (opsAt f13_b [1, 1, 1, 0, 1, 0, 0]) false) .ret) .skip)) (.seq (.region 6 (opsAt f13_b [1, 1, 1, 1, 0]) false) .ret)))))
noncomputable def f13_f : AFun := { code := f13_c, nt := 18, res := Try.f13.results.toList, fr := [] }
noncomputable def f14_b : Code := bodyOf Try.f14
noncomputable def f14_c : ACode := (.seq (.region 0 (opsAt f14_b [0]) false) (.seq (.seq (.region 1 (opsAt f14_b [1, 0, 0]) false) (.cond (.tmp 22) (.seq (.region 2 (opsAt f14_b [1, 0, 1, 0, 0]) false) .ret) .skip)) (.seq (.seq (.region 3 (opsAt f14_b [1, 1, 0, 0]) false) (.seq (.region 4 (opsAt f14_b [1, 1, 0, 1, 0]) false) (.cond (.tmp 31) (.seq (.region 5 (opsAt f14_b [1, 1, 0, 1, 1, 0, 0]) false) .ret) .skip))) (.seq (.region 6 (opsAt f14_b [1, 1, 1, 0]) false) .ret))))
noncomputable def f14_f : AFun := { code := f14_c, nt := 35, res := Try.f14.results.toList, fr := [] }
noncomputable def f17_b : Code := bodyOf Try.f17
noncomputable def f17_c17000 : ACode := (.seq (.seq (.region 4 (opsAt f17_b [1, 1, 0, 1, 0, 0, 0, 0]) false) (.cond (.tmp 17) .skip (.exit 0))) (.seq (.block 1 (.seq (.region 6 (opsAt f17_b [1, 1, 0, 1, 0, 0, 1, 0, 0, 0]) true) (.cond (.tmp 30) (.seq (.region 7 (opsAt f17_b [1, 1, 0, 1, 0, 0, 1, 0, 0, 1, 0, 0]) false) .ret) .skip))) (.region 5 (opsAt f17_b [1, 1, 0, 1, 0, 0, 1, 1]) false)))
noncomputable def f17_k17000 (rd : Option Nat) : Key := .lp 17000 [2, 3, 4, 5] [] f17_c17000 31 rd
noncomputable def f17_c : ACode := (.seq (.region 0 (opsAt f17_b [0]) false) (.seq (.seq (.region 1 (opsAt f17_b [1, 0, 0]) false) (.cond (.tmp 12) (.seq (.region 2 (opsAt f17_b [1, 0, 1, 0, 0]) false) .ret) .skip)) (.seq (.seq (.region 3 (opsAt f17_b [1, 1, 0, 0]) false) (.block 0 (.loop 17000 [2, 3, 4, 5] [] [(.exit 0), .ret] f17_c17000))) (.seq (.region 8 (opsAt f17_b [1, 1, 1, 0]) false) .ret))))
noncomputable def f17_f : AFun := { code := f17_c, nt := 31, res := Try.f17.results.toList, fr := [] }
noncomputable def f20_b : Code := bodyOf Try.f20
noncomputable def f20_c : ACode := (.seq (.region 0 (opsAt f20_b [0]) false) (.seq (.seq (.region 1 (opsAt f20_b [1, 0, 0]) false) (.cond (.tmp 9) (.seq (.region 2 (opsAt f20_b [1, 0, 1, 0, 0]) false) .ret) .skip)) (.seq (.region 3 (opsAt f20_b [1, 1, 0]) false) (.seq (.region 4 (opsAt f20_b [1, 1, 1, 0]) true) .ret))))
noncomputable def f20_f : AFun := { code := f20_c, nt := 18, res := Try.f20.results.toList, fr := [] }
noncomputable def f24_b : Code := bodyOf Try.f24
noncomputable def f24_a24000 : ACode := (.region 12 (opsAt f24_b [1, 1, 1, 1, 1, 1, 0, 1, 0, 0]) false)
noncomputable def f24_c24000 : ACode := (.block 1 (.seq (.region 13 (opsAt f24_b [1, 1, 1, 1, 1, 1, 0, 1, 0, 1, 0, 0]) false) (.seq (.region 14 (opsAt f24_b [1, 1, 1, 1, 1, 1, 0, 1, 0, 1, 0, 1, 0]) false) (.cond (.tmp 57) (.seq (.region 15 (opsAt f24_b [1, 1, 1, 1, 1, 1, 0, 1, 0, 1, 0, 1, 1, 0, 0]) false) .ret) .skip))))
noncomputable def f24_c : ACode := (.seq (.region 0 (opsAt f24_b [0]) false) (.seq (.seq (.region 1 (opsAt f24_b [1, 0, 0]) false) (.seq (.region 2 (opsAt f24_b [1, 0, 1, 0]) false) (.cond (.tmp 15) (.seq (.region 3 (opsAt f24_b [1, 0, 1, 1, 0, 0]) false) .ret) .skip))) (.seq (.seq (.region 4 (opsAt f24_b [1, 1, 0, 0]) false) (.cond (.tmp 21) (.seq (.region 5 (opsAt f24_b [1, 1, 0, 1, 0, 0]) false) .ret) .skip)) (.seq (.seq (.region 6 (opsAt f24_b [1, 1, 1, 0, 0]) false) (.cond (.tmp 26) (.seq (.region 7 (opsAt f24_b [1, 1, 1, 0, 1, 0, 0]) false) .ret) .skip)) (.seq (.region 8 (opsAt f24_b [1, 1, 1, 1, 0]) false) (.seq (.seq (.region 9 (opsAt f24_b [1, 1, 1, 1, 1, 0, 0]) false) (.cond (.tmp 35) (.seq (.region 10 (opsAt f24_b [1, 1, 1, 1, 1, 0, 1, 0, 0]) false) .ret) .skip)) (.seq (.seq (.region 11 (opsAt f24_b [1, 1, 1, 1, 1, 1, 0, 0]) false) (.block 0 (.rangeFunc 24000 [2, 3, 5] [] [.normal, .ret] (.tmp 42) #[43] f24_a24000 f24_c24000))) (.seq (.region 16 (opsAt f24_b [1, 1, 1, 1, 1, 1, 1, 0]) false) .ret))))))))
noncomputable def f24_f : AFun := { code := f24_c, nt := 60, res := Try.f24.results.toList, fr := [] }
noncomputable def f25_b : Code := bodyOf Try.f25
noncomputable def f25_c : ACode := (.seq (.region 0 (opsAt f25_b [0]) false) (.seq (.region 1 (opsAt f25_b [1, 0]) false) .ret))
noncomputable def f25_f : AFun := { code := f25_c, nt := 17, res := Try.f25.results.toList, fr := [] }
noncomputable def f28_b : Code := bodyOf Try.f28
noncomputable def f28_c28002 : ACode := (.seq (.seq (.region 28 (opsAt f28_b [1, 1, 1, 1, 1, 1, 1, 1, 0, 1, 0, 0, 1, 0, 0, 1, 0, 1, 0, 0, 1, 0, 0, 1, 1, 1, 1, 1, 0, 1, 0, 0, 0, 0]) false) (.cond (.tmp 92) .skip (.exit 4))) (.seq (.block 5 (.seq (.region 30 (opsAt f28_b [1, 1, 1, 1, 1, 1, 1, 1, 0, 1, 0, 0, 1, 0, 0, 1, 0, 1, 0, 0, 1, 0, 0, 1, 1, 1, 1, 1, 0, 1, 0, 0, 1, 0, 0, 0]) false) (.seq (.seq (.region 31 (opsAt f28_b [1, 1, 1, 1, 1, 1, 1, 1, 0, 1, 0, 0, 1, 0, 0, 1, 0, 1, 0, 0, 1, 0, 0, 1, 1, 1, 1, 1, 0, 1, 0, 0, 1, 0, 0, 1, 0, 0]) false) (.cond (.tmp 107) (.seq (.region 32 (opsAt f28_b [1, 1, 1, 1, 1, 1, 1, 1, 0, 1, 0, 0, 1, 0, 0, 1, 0, 1, 0, 0, 1, 0, 0, 1, 1, 1, 1, 1, 0, 1, 0, 0, 1, 0, 0, 1, 0, 1, 0, 0]) false) .ret) .skip)) (.region 33 (opsAt f28_b [1, 1, 1, 1, 1, 1, 1, 1, 0, 1, 0, 0, 1, 0, 0, 1, 0, 1, 0, 0, 1, 0, 0, 1, 1, 1, 1, 1, 0, 1, 0, 0, 1, 0, 0, 1, 1]) false)))) (.region 29 (opsAt f28_b [1, 1, 1, 1, 1, 1, 1, 1, 0, 1, 0, 0, 1, 0, 0, 1, 0, 1, 0, 0, 1, 0, 0, 1, 1, 1, 1, 1, 0, 1, 0, 0, 1, 1]) false)))
noncomputable def f28_k28002 (rd : Option Nat) : Key := .lp 28002 [2, 3, 4, 5, 7, 8, 9, 10, 11, 14] [] f28_c28002 135 rd
noncomputable def f28_c28001 : ACode := (.seq (.seq (.region 16 (opsAt f28_b [1, 1, 1, 1, 1, 1, 1, 1, 0, 1, 0, 0, 1, 0, 0, 1, 0, 1, 0, 0, 0, 0]) false) (.cond (.tmp 42) .skip (.exit 2))) (.seq (.join [(.ret, [2, 3, 4, 5, 7, 8, 9, 10, 11]), (.normal, [2, 3, 4, 5, 7, 8, 9, 10, 11])] (.block 3 (.seq (.seq (.region 18 (opsAt f28_b [1, 1, 1, 1, 1, 1, 1, 1, 0, 1, 0, 0, 1, 0, 0, 1, 0, 1, 0, 0, 1, 0, 0, 0, 0]) false) (.cond (.tmp 48) (.seq (.region 19 (opsAt f28_b [1, 1, 1, 1, 1, 1, 1, 1, 0, 1, 0, 0, 1, 0, 0, 1, 0, 1, 0, 0, 1, 0, 0, 0, 1, 0, 0]) false) .ret) .skip)) (.seq (.seq (.region 20 (opsAt f28_b [1, 1, 1, 1, 1, 1, 1, 1, 0, 1, 0, 0, 1, 0, 0, 1, 0, 1, 0, 0, 1, 0, 0, 1, 0, 0]) false) (.cond (.tmp 54) (.seq (.region 21 (opsAt f28_b [1, 1, 1, 1, 1, 1, 1, 1, 0, 1, 0, 0, 1, 0, 0, 1, 0, 1, 0, 0, 1, 0, 0, 1, 0, 1, 0, 0]) false) (.seq (.region 22 (opsAt f28_b [1, 1, 1, 1, 1, 1, 1, 1, 0, 1, 0, 0, 1, 0, 0, 1, 0, 1, 0, 0, 1, 0, 0, 1, 0, 1, 0, 1, 0]) false) (.exit 3))) .skip)) (.seq (.region 23 (opsAt f28_b [1, 1, 1, 1, 1, 1, 1, 1, 0, 1, 0, 0, 1, 0, 0, 1, 0, 1, 0, 0, 1, 0, 0, 1, 1, 0]) false) (.seq (.seq (.region 24 (opsAt f28_b [1, 1, 1, 1, 1, 1, 1, 1, 0, 1, 0, 0, 1, 0, 0, 1, 0, 1, 0, 0, 1, 0, 0, 1, 1, 1, 0, 0]) false) (.cond (.tmp 85) (.seq (.region 25 (opsAt f28_b [1, 1, 1, 1, 1, 1, 1, 1, 0, 1, 0, 0, 1, 0, 0, 1, 0, 1, 0, 0, 1, 0, 0, 1, 1, 1, 0, 1, 0, 0]) false) .ret) .skip)) (.seq (.region 26 (opsAt f28_b [1, 1, 1, 1, 1, 1, 1, 1, 0, 1, 0, 0, 1, 0, 0, 1, 0, 1, 0, 0, 1, 0, 0, 1, 1, 1, 1, 0]) false) (.seq (.seq (.region 27 (opsAt f28_b [1, 1, 1, 1, 1, 1, 1, 1, 0, 1, 0, 0, 1, 0, 0, 1, 0, 1, 0, 0, 1, 0, 0, 1, 1, 1, 1, 1, 0, 0]) false) (.block 4 (.loop 28002 [2, 3, 4, 5, 7, 8, 9, 10, 11, 14] [] [(.exit 4), .ret] f28_c28002))) (.region 34 (opsAt f28_b [1, 1, 1, 1, 1, 1, 1, 1, 0, 1, 0, 0, 1, 0, 0, 1, 0, 1, 0, 0, 1, 0, 0, 1, 1, 1, 1, 1, 1]) false))))))))) (.region 17 (opsAt f28_b [1, 1, 1, 1, 1, 1, 1, 1, 0, 1, 0, 0, 1, 0, 0, 1, 0, 1, 0, 0, 1, 1]) false)))
noncomputable def f28_k28001 (rd : Option Nat) : Key := .lp 28001 [2, 3, 4, 5, 7, 8, 9, 10, 11] [] f28_c28001 135 rd
noncomputable def f28_c28000 : ACode := (.seq (.seq (.region 12 (opsAt f28_b [1, 1, 1, 1, 1, 1, 1, 1, 0, 1, 0, 0, 0, 0]) false) (.cond (.tmp 38) .skip (.exit 0))) (.seq (.block 1 (.seq (.region 14 (opsAt f28_b [1, 1, 1, 1, 1, 1, 1, 1, 0, 1, 0, 0, 1, 0, 0, 0]) false) (.seq (.seq (.region 15 (opsAt f28_b [1, 1, 1, 1, 1, 1, 1, 1, 0, 1, 0, 0, 1, 0, 0, 1, 0, 0]) false) (.block 2 (.loop 28001 [2, 3, 4, 5, 7, 8, 9, 10, 11] [] [(.exit 2), .ret] f28_c28001))) (.region 35 (opsAt f28_b [1, 1, 1, 1, 1, 1, 1, 1, 0, 1, 0, 0, 1, 0, 0, 1, 1]) false)))) (.region 13 (opsAt f28_b [1, 1, 1, 1, 1, 1, 1, 1, 0, 1, 0, 0, 1, 1]) false)))
noncomputable def f28_k28000 (rd : Option Nat) : Key := .lp 28000 [2, 3, 4, 5, 7, 8, 9] [] f28_c28000 135 rd
noncomputable def f28_c : ACode := (.seq (.region 0 (opsAt f28_b [0]) false) (.seq (.seq (.region 1 (opsAt f28_b [1, 0, 0]) false) (.cond (.tmp 18) (.seq (.region 2 (opsAt f28_b [1, 0, 1, 0, 0]) false) .ret) .skip)) (.seq (.region 3 (opsAt f28_b [1, 1, 0]) false) (.seq (.seq (.region 4 (opsAt f28_b [1, 1, 1, 0, 0]) false) (.cond (.tmp 24) (.seq (.region 5 (opsAt f28_b [1, 1, 1, 0, 1, 0, 0]) false) .ret) .skip)) (.seq (.region 6 (opsAt f28_b [1, 1, 1, 1, 0]) false) (.seq (.seq (.region 7 (opsAt f28_b [1, 1, 1, 1, 1, 0, 0]) false) (.cond (.tmp 34) (.seq (.region 8 (opsAt f28_b [1, 1, 1, 1, 1, 0, 1, 0, 0]) false) .ret) .skip)) (.seq (.region 9 (opsAt f28_b [1, 1, 1, 1, 1, 1, 0]) false) (.seq (.region 10 (opsAt f28_b [1, 1, 1, 1, 1, 1, 1, 0]) false) (.seq (.seq (.region 11 (opsAt f28_b [1, 1, 1, 1, 1, 1, 1, 1, 0, 0]) false) (.block 0 (.loop 28000 [2, 3, 4, 5, 7, 8, 9] [] [(.exit 0), .ret] f28_c28000))) (.seq (.seq (.region 36 (opsAt f28_b [1, 1, 1, 1, 1, 1, 1, 1, 1, 0, 0]) false) (.cond (.tmp 128) (.seq (.region 37 (opsAt f28_b [1, 1, 1, 1, 1, 1, 1, 1, 1, 0, 1, 0, 0]) false) .ret) .skip)) (.seq (.seq (.region 38 (opsAt f28_b [1, 1, 1, 1, 1, 1, 1, 1, 1, 1, 0, 0]) false) (.cond (.tmp 132) (.seq (.region 39 (opsAt f28_b [1, 1, 1, 1, 1, 1, 1, 1, 1, 1, 0, 1, 0, 0]) false) .ret) .skip)) (.seq (.region 40 (opsAt f28_b [1, 1, 1, 1, 1, 1, 1, 1, 1, 1, 1, 0]) false) .ret))))))))))))
noncomputable def f28_f : AFun := { code := f28_c, nt := 135, res := Try.f28.results.toList, fr := [] }
noncomputable def f29_b : Code := bodyOf Try.f29
noncomputable def f29_c : ACode := (.seq (.region 0 (opsAt f29_b [0]) false) (.seq (.region 1 (opsAt f29_b [1, 0]) false) (.seq (.region 2 (opsAt f29_b [1, 1, 0]) false) .ret)))
noncomputable def f29_f : AFun := { code := f29_c, nt := 32, res := Try.f29.results.toList, fr := [] }
noncomputable def f30_b : Code := bodyOf Try.f30
noncomputable def f30_c30000 : ACode := (.seq (.region 2 (opsAt f30_b [1, 0, 1, 0, 0, 0]) false) (.seq (.cond (.tmp 13) .skip (.exit 0)) (.seq (.block 1 (.seq (.region 3 (opsAt f30_b [1, 0, 1, 0, 0, 1, 1, 0, 0, 0]) false) (.seq (.region 4 (opsAt f30_b [1, 0, 1, 0, 0, 1, 1, 0, 0, 1, 0]) false) (.cond (.tmp 21) (.seq (.region 5 (opsAt f30_b [1, 0, 1, 0, 0, 1, 1, 0, 0, 1, 1, 0, 0]) false) .ret) .skip)))) (.region 6 (opsAt f30_b [1, 0, 1, 0, 0, 1, 1, 1]) false))))
noncomputable def f30_k30000 (rd : Option Nat) : Key := .lp 30000 [1, 2, 10, 11, 12] [] f30_c30000 27 rd
noncomputable def f30_c : ACode := (.seq (.region 0 (opsAt f30_b [0]) false) (.seq (.seq (.region 1 (opsAt f30_b [1, 0, 0]) false) (.block 0 (.loop 30000 [1, 2, 10, 11, 12] [] [(.exit 0), .ret] f30_c30000))) (.seq (.region 7 (opsAt f30_b [1, 1, 0]) false) .ret)))
noncomputable def f30_f : AFun := { code := f30_c, nt := 27, res := Try.f30.results.toList, fr := [] }
noncomputable def f31_b : Code := bodyOf Try.f31
noncomputable def f31_c : ACode := (.seq (.region 0 (opsAt f31_b [0]) false) (.seq (.region 1 (opsAt f31_b [1, 0]) false) (.seq (.region 2 (opsAt f31_b [1, 1, 0]) false) (.seq (.region 3 (opsAt f31_b [1, 1, 1, 0]) true) (.seq (.region 4 (opsAt f31_b [1, 1, 1, 1, 0]) false) .ret)))))
noncomputable def f31_f : AFun := { code := f31_c, nt := 26, res := Try.f31.results.toList, fr := [] }
noncomputable def f32_b : Code := bodyOf Try.f32
noncomputable def f32_c32001 : ACode := (.seq (.seq (.region 8 (opsAt f32_b [1, 1, 1, 0, 1, 0, 0, 1, 0, 0, 1, 0, 0, 0, 0]) false) (.cond (.tmp 18) .skip (.exit 2))) (.seq (.join [(.normal, [1, 2, 3, 4, 5]), (.ret, [1, 2, 3, 4, 5])] (.block 3 (.seq (.region 10 (opsAt f32_b [1, 1, 1, 0, 1, 0, 0, 1, 0, 0, 1, 0, 0, 1, 0, 0, 0]) false) (.seq (.seq (.region 11 (opsAt f32_b [1, 1, 1, 0, 1, 0, 0, 1, 0, 0, 1, 0, 0, 1, 0, 0, 1, 0, 0]) false) (.cond (.tmp 36) (.exit 3) .skip)) (.seq (.seq (.region 12 (opsAt f32_b [1, 1, 1, 0, 1, 0, 0, 1, 0, 0, 1, 0, 0, 1, 0, 0, 1, 1, 0, 0]) false) (.cond (.tmp 65) (.seq (.region 13 (opsAt f32_b [1, 1, 1, 0, 1, 0, 0, 1, 0, 0, 1, 0, 0, 1, 0, 0, 1, 1, 0, 1, 0, 0]) false) .ret) .skip)) (.seq (.region 14 (opsAt f32_b [1, 1, 1, 0, 1, 0, 0, 1, 0, 0, 1, 0, 0, 1, 0, 0, 1, 1, 1, 0]) true) (.cond (.tmp 82) (.seq (.region 15 (opsAt f32_b [1, 1, 1, 0, 1, 0, 0, 1, 0, 0, 1, 0, 0, 1, 0, 0, 1, 1, 1, 1, 0, 0]) false) .ret) .skip))))))) (.region 9 (opsAt f32_b [1, 1, 1, 0, 1, 0, 0, 1, 0, 0, 1, 0, 0, 1, 1]) false)))
noncomputable def f32_k32001 (rd : Option Nat) : Key := .lp 32001 [1, 2, 3, 4, 5] [] f32_c32001 83 rd
noncomputable def f32_c32000 : ACode := (.seq (.seq (.region 5 (opsAt f32_b [1, 1, 1, 0, 1, 0, 0, 0, 0]) false) (.cond (.tmp 14) .skip (.exit 0))) (.seq (.block 1 (.seq (.region 7 (opsAt f32_b [1, 1, 1, 0, 1, 0, 0, 1, 0, 0, 0]) false) (.block 2 (.loop 32001 [1, 2, 3, 4, 5] [] [(.exit 2), .ret] f32_c32001)))) (.region 6 (opsAt f32_b [1, 1, 1, 0, 1, 0, 0, 1, 1]) false)))
noncomputable def f32_k32000 (rd : Option Nat) : Key := .lp 32000 [1, 2, 3, 4] [] f32_c32000 83 rd
noncomputable def f32_c : ACode := (.seq (.region 0 (opsAt f32_b [0]) false) (.seq (.region 1 (opsAt f32_b [1, 0]) false) (.seq (.seq (.region 2 (opsAt f32_b [1, 1, 0, 0]) false) (.cond (.tmp 11) (.seq (.region 3 (opsAt f32_b [1, 1, 0, 1, 0, 0]) false) .ret) .skip)) (.seq (.seq (.region 4 (opsAt f32_b [1, 1, 1, 0, 0]) false) (.block 0 (.loop 32000 [1, 2, 3, 4] [] [(.exit 0), .ret] f32_c32000))) (.seq (.region 16 (opsAt f32_b [1, 1, 1, 1, 0]) false) .ret)))))
noncomputable def f32_f : AFun := { code := f32_c, nt := 83, res := Try.f32.results.toList, fr := [] }
noncomputable def f37_b : Code := bodyOf Try.f37
noncomputable def f37_c37000 : ACode := (.seq (.region 3 (opsAt f37_b [1, 1, 0, 1, 0, 0, 0]) false) (.seq (.cond (.tmp 11) .skip (.exit 0)) (.seq (.block 1 (.seq (.region 4 (opsAt f37_b [1, 1, 0, 1, 0, 0, 1, 1, 0, 0, 0]) false) (.region 5 (opsAt f37_b [1, 1, 0, 1, 0, 0, 1, 1, 0, 0, 1]) false))) (.region 6 (opsAt f37_b [1, 1, 0, 1, 0, 0, 1, 1, 1]) false))))
noncomputable def f37_k37000 (rd : Option Nat) : Key := .lp 37000 [1, 2, 3, 8, 9, 10] [] f37_c37000 23 rd
noncomputable def f37_c : ACode := (.seq (.region 0 (opsAt f37_b [0]) false) (.seq (.region 1 (opsAt f37_b [1, 0]) false) (.seq (.seq (.region 2 (opsAt f37_b [1, 1, 0, 0]) false) (.block 0 (.loop 37000 [1, 2, 3, 8, 9, 10] [] [(.exit 0)] f37_c37000))) (.seq (.region 7 (opsAt f37_b [1, 1, 1, 0]) false) .ret))))
noncomputable def f37_f : AFun := { code := f37_c, nt := 23, res := Try.f37.results.toList, fr := [] }
noncomputable def f38_b : Code := bodyOf Try.f38
noncomputable def f38_c : ACode := (.seq (.region 0 (opsAt f38_b [0]) false) (.seq (.region 1 (opsAt f38_b [1, 0]) false) (.seq (.region 2 (opsAt f38_b [1, 1, 0]) false) (.seq (.region 3 (opsAt f38_b [1, 1, 1, 0]) false) .ret))))
noncomputable def f38_f : AFun := { code := f38_c, nt := 33, res := Try.f38.results.toList, fr := [] }
noncomputable def f39_b : Code := bodyOf Try.f39
noncomputable def f39_c : ACode := (.seq (.region 0 (opsAt f39_b [0]) false) (.seq (.seq (.region 1 (opsAt f39_b [1, 0, 0]) false) (.cond (.tmp 10) (.seq (.seq (.region 2 (opsAt f39_b [1, 0, 1, 0, 0, 0]) false) (.cond (.tmp 12) (.seq (.region 3 (opsAt f39_b [1, 0, 1, 0, 0, 1, 0, 0]) false) .ret) .skip)) (.seq (.region 4 (opsAt f39_b [1, 0, 1, 0, 1, 0]) false) .ret)) .skip)) (.seq (.region 5 (opsAt f39_b [1, 1, 0]) false) (.seq (.region 6 (opsAt f39_b [1, 1, 1, 0]) true) .ret))))
noncomputable def f39_f : AFun := { code := f39_c, nt := 34, res := Try.f39.results.toList, fr := [] }
noncomputable def f40_b : Code := bodyOf Try.f40
noncomputable def f40_c : ACode := (.seq (.region 0 (opsAt f40_b [0]) false) (.seq (.seq (.region 1 (opsAt f40_b [1, 0, 0]) false) (.cond (.tmp 11) (.seq (.region 2 (opsAt f40_b [1, 0, 1, 0, 0]) false) .ret) .skip)) (.seq (.region 3 (opsAt f40_b [1, 1, 0]) false) (.seq (.region 4 (opsAt f40_b [1, 1, 1, 0]) false) (.seq (.region 5 (opsAt f40_b [1, 1, 1, 1, 0]) false) (.seq (.region 6 (opsAt f40_b [1, 1, 1, 1, 1, 0]) false) .ret))))))
noncomputable def f40_f : AFun := { code := f40_c, nt := 36, res := Try.f40.results.toList, fr := [] }
noncomputable def f42_b : Code := bodyOf Try.f42
noncomputable def f42_c42000 : ACode := (.seq (.region 3 (opsAt f42_b [1, 1, 0, 1, 0, 0, 0]) false) (.seq (.cond (.tmp 11) .skip (.exit 0)) (.seq (.block 1 (.seq (.region 4 (opsAt f42_b [1, 1, 0, 1, 0, 0, 1, 1, 0, 0, 0]) false) (.seq (.region 5 (opsAt f42_b [1, 1, 0, 1, 0, 0, 1, 1, 0, 0, 1, 0]) false) (.region 6 (opsAt f42_b [1, 1, 0, 1, 0, 0, 1, 1, 0, 0, 1, 1]) false)))) (.region 7 (opsAt f42_b [1, 1, 0, 1, 0, 0, 1, 1, 1]) false))))
noncomputable def f42_k42000 (rd : Option Nat) : Key := .lp 42000 [3, 8, 9, 10] [] f42_c42000 21 rd
noncomputable def f42_c : ACode := (.seq (.region 0 (opsAt f42_b [0]) false) (.seq (.region 1 (opsAt f42_b [1, 0]) false) (.seq (.seq (.region 2 (opsAt f42_b [1, 1, 0, 0]) false) (.block 0 (.loop 42000 [3, 8, 9, 10] [] [(.exit 0)] f42_c42000))) (.seq (.region 8 (opsAt f42_b [1, 1, 1, 0]) false) .ret))))
noncomputable def f42_f : AFun := { code := f42_c, nt := 21, res := Try.f42.results.toList, fr := [] }
noncomputable def f48_b : Code := bodyOf Try.f48
noncomputable def f48_a48000 : ACode := (.seq (.region 5 (opsAt f48_b [1, 1, 1, 0, 1, 0, 0, 0]) false) (.region 6 (opsAt f48_b [1, 1, 1, 0, 1, 0, 0, 1]) false))
noncomputable def f48_c48000 : ACode := (.join [(.normal, []), (.ret, [])] (.block 1 (.seq (.seq (.region 7 (opsAt f48_b [1, 1, 1, 0, 1, 0, 1, 0, 0, 0]) false) (.cond (.tmp 17) (.exit 1) .skip)) (.seq (.seq (.region 8 (opsAt f48_b [1, 1, 1, 0, 1, 0, 1, 0, 1, 0, 0]) true) (.cond (.tmp 51) (.seq (.region 9 (opsAt f48_b [1, 1, 1, 0, 1, 0, 1, 0, 1, 0, 1, 0, 0]) false) .ret) .skip)) (.seq (.region 10 (opsAt f48_b [1, 1, 1, 0, 1, 0, 1, 0, 1, 1, 0]) true) (.cond (.tmp 70) (.seq (.region 11 (opsAt f48_b [1, 1, 1, 0, 1, 0, 1, 0, 1, 1, 1, 0, 0]) false) .ret) .skip))))))
noncomputable def f48_c : ACode := (.seq (.region 0 (opsAt f48_b [0]) false) (.seq (.seq (.region 1 (opsAt f48_b [1, 0, 0]) false) (.cond (.tmp 9) (.seq (.region 2 (opsAt f48_b [1, 0, 1, 0, 0]) false) .ret) .skip)) (.seq (.region 3 (opsAt f48_b [1, 1, 0]) false) (.seq (.seq (.region 4 (opsAt f48_b [1, 1, 1, 0, 0]) false) (.block 0 (.rangeFunc 48000 [1, 2, 3] [] [.normal, .ret] (.tmp 12) #[13, 14] f48_a48000 f48_c48000))) (.seq (.region 12 (opsAt f48_b [1, 1, 1, 1, 0]) false) .ret)))))
noncomputable def f48_f : AFun := { code := f48_c, nt := 71, res := Try.f48.results.toList, fr := [] }
noncomputable def f49_b : Code := bodyOf Try.f49
noncomputable def f49_c : ACode := (.seq (.region 0 (opsAt f49_b [0]) false) (.seq (.seq (.region 1 (opsAt f49_b [1, 0, 0]) false) (.seq (.region 2 (opsAt f49_b [1, 0, 1, 0]) false) (.cond (.tmp 12) (.seq (.region 3 (opsAt f49_b [1, 0, 1, 1, 0, 0]) false) .ret) .skip))) (.seq (.region 4 (opsAt f49_b [1, 1, 0]) false) (.seq (.region 5 (opsAt f49_b [1, 1, 1, 0]) true) .ret))))
noncomputable def f49_f : AFun := { code := f49_c, nt := 23, res := Try.f49.results.toList, fr := [] }
noncomputable def f50_b : Code := bodyOf Try.f50
noncomputable def f50_c : ACode := (.seq (.region 0 (opsAt f50_b [0]) false) (.seq (.region 1 (opsAt f50_b [1, 0]) false) .ret))
noncomputable def f50_f : AFun := { code := f50_c, nt := 4, res := Try.f50.results.toList, fr := [] }
noncomputable def f51_b : Code := bodyOf Try.f51
noncomputable def f51_c : ACode := (.seq (.region 0 (opsAt f51_b [0]) false) (.seq (.region 1 (opsAt f51_b [1, 0]) false) .ret))
noncomputable def f51_f : AFun := { code := f51_c, nt := 10, res := Try.f51.results.toList, fr := [] }
noncomputable def f52_b : Code := bodyOf Try.f52
noncomputable def f52_c52000 : ACode := (.seq (.seq (.region 4 (opsAt f52_b [1, 1, 0, 1, 0, 0, 0, 0]) false) (.cond (.tmp 14) .skip (.exit 0))) (.seq (.block 1 (.seq (.region 6 (opsAt f52_b [1, 1, 0, 1, 0, 0, 1, 0, 0, 0]) true) (.cond (.tmp 25) (.seq (.region 7 (opsAt f52_b [1, 1, 0, 1, 0, 0, 1, 0, 0, 1, 0, 0]) false) .ret) .skip))) (.region 5 (opsAt f52_b [1, 1, 0, 1, 0, 0, 1, 1]) false)))
noncomputable def f52_k52000 (rd : Option Nat) : Key := .lp 52000 [0, 1, 4, 5] [] f52_c52000 26 rd
noncomputable def f52_c : ACode := (.seq (.region 0 (opsAt f52_b [0]) false) (.seq (.seq (.region 1 (opsAt f52_b [1, 0, 0]) false) (.cond (.tmp 10) (.seq (.region 2 (opsAt f52_b [1, 0, 1, 0, 0]) false) .ret) .skip)) (.seq (.seq (.region 3 (opsAt f52_b [1, 1, 0, 0]) false) (.block 0 (.loop 52000 [0, 1, 4, 5] [] [(.exit 0), .ret] f52_c52000))) (.seq (.region 8 (opsAt f52_b [1, 1, 1, 0]) false) .ret))))
noncomputable def f52_f : AFun := { code := f52_c, nt := 26, res := Try.f52.results.toList, fr := [] }
noncomputable def f53_b : Code := bodyOf Try.f53
noncomputable def f53_c53000 : ACode := (.seq (.region 2 (opsAt f53_b [1, 0, 1, 0, 0, 0]) false) (.seq (.cond (.tmp 7) .skip (.exit 0)) (.seq (.block 1 (.region 3 (opsAt f53_b [1, 0, 1, 0, 0, 1, 1, 0, 0]) false)) (.region 4 (opsAt f53_b [1, 0, 1, 0, 0, 1, 1, 1]) false))))
noncomputable def f53_k53000 (rd : Option Nat) : Key := .lp 53000 [2, 4, 5, 6] [] f53_c53000 19 rd
noncomputable def f53_c : ACode := (.seq (.region 0 (opsAt f53_b [0]) false) (.seq (.seq (.region 1 (opsAt f53_b [1, 0, 0]) false) (.block 0 (.loop 53000 [2, 4, 5, 6] [] [(.exit 0)] f53_c53000))) (.seq (.region 5 (opsAt f53_b [1, 1, 0]) false) .ret)))
noncomputable def f53_f : AFun := { code := f53_c, nt := 19, res := Try.f53.results.toList, fr := [] }
noncomputable def f55_b : Code := bodyOf Try.f55
noncomputable def f55_c : ACode := (.seq (.region 0 (opsAt f55_b [0]) false) (.seq (.region 1 (opsAt f55_b [1, 0]) false) .ret))
noncomputable def f55_f : AFun := { code := f55_c, nt := 13, res := Try.f55.results.toList, fr := [] }
noncomputable def f59_b : Code := bodyOf Try.f59
noncomputable def f59_c59000 : ACode := (.seq (.seq (.region 5 (opsAt f59_b [1, 1, 1, 0, 1, 0, 0, 0, 0]) false) (.cond (.tmp 10) .skip (.exit 0))) (.seq (.block 1 (.region 7 (opsAt f59_b [1, 1, 1, 0, 1, 0, 0, 1, 0, 0]) false)) (.region 6 (opsAt f59_b [1, 1, 1, 0, 1, 0, 0, 1, 1]) false)))
noncomputable def f59_k59000 (rd : Option Nat) : Key := .lp 59000 [1, 2, 3, 4] [] f59_c59000 19 rd
noncomputable def f59_c : ACode := (.seq (.region 0 (opsAt f59_b [0]) false) (.seq (.region 1 (opsAt f59_b [1, 0]) false) (.seq (.seq (.region 2 (opsAt f59_b [1, 1, 0, 0]) false) (.cond (.tmp 7) (.seq (.region 3 (opsAt f59_b [1, 1, 0, 1, 0, 0]) false) .ret) .skip)) (.seq (.seq (.region 4 (opsAt f59_b [1, 1, 1, 0, 0]) false) (.block 0 (.loop 59000 [1, 2, 3, 4] [] [(.exit 0)] f59_c59000))) (.seq (.region 8 (opsAt f59_b [1, 1, 1, 1, 0]) false) .ret)))))
noncomputable def f59_f : AFun := { code := f59_c, nt := 19, res := Try.f59.results.toList, fr := [] }
noncomputable def f60_b : Code := bodyOf Try.f60
noncomputable def f60_c60000 : ACode := (.seq (.seq (.region 4 (opsAt f60_b [1, 1, 1, 0, 1, 0, 0, 0, 0]) false) (.cond (.tmp 10) .skip (.exit 0))) (.seq (.block 1 (.seq (.region 6 (opsAt f60_b [1, 1, 1, 0, 1, 0, 0, 1, 0, 0, 0]) false) (.seq (.seq (.region 7 (opsAt f60_b [1, 1, 1, 0, 1, 0, 0, 1, 0, 0, 1, 0, 0]) false) (.join [(.normal, [0, 3, 4, 5, 6])] (.cond (.tmp 28) (.region 8 (opsAt f60_b [1, 1, 1, 0, 1, 0, 0, 1, 0, 0, 1, 0, 1, 0]) false) .skip))) (.seq (.region 9 (opsAt f60_b [1, 1, 1, 0, 1, 0, 0, 1, 0, 0, 1, 1, 0]) false) (.join [(.normal, [0, 3, 4, 5])] (.cond (.tmp 34) (.seq (.region 10 (opsAt f60_b [1, 1, 1, 0, 1, 0, 0, 1, 0, 0, 1, 1, 1, 0, 0]) false) (.region 11 (opsAt f60_b [1, 1, 1, 0, 1, 0, 0, 1, 0, 0, 1, 1, 1, 0, 1]) false)) .skip)))))) (.region 5 (opsAt f60_b [1, 1, 1, 0, 1, 0, 0, 1, 1]) false)))
noncomputable def f60_k60000 (rd : Option Nat) : Key := .lp 60000 [0, 3, 4, 5] [] f60_c60000 43 rd
noncomputable def f60_c : ACode := (.seq (.region 0 (opsAt f60_b [0]) false) (.seq (.region 1 (opsAt f60_b [1, 0]) false) (.seq (.region 2 (opsAt f60_b [1, 1, 0]) false) (.seq (.seq (.region 3 (opsAt f60_b [1, 1, 1, 0, 0]) false) (.block 0 (.loop 60000 [0, 3, 4, 5] [] [(.exit 0)] f60_c60000))) (.seq (.region 12 (opsAt f60_b [1, 1, 1, 1, 0]) false) .ret)))))
noncomputable def f60_f : AFun := { code := f60_c, nt := 43, res := Try.f60.results.toList, fr := [] }
noncomputable def f61_b : Code := bodyOf Try.f61
noncomputable def f61_c61000 : ACode := (.seq (.seq (.region 5 (opsAt f61_b [1, 1, 1, 0, 1, 0, 0, 0, 0]) false) (.cond (.tmp 27) .skip (.exit 0))) (.seq (.block 1 (.seq (.seq (.region 7 (opsAt f61_b [1, 1, 1, 0, 1, 0, 0, 1, 0, 0, 0, 0]) false) (.cond (.tmp 39) (.seq (.region 8 (opsAt f61_b [1, 1, 1, 0, 1, 0, 0, 1, 0, 0, 0, 1, 0, 0]) false) .ret) .skip)) (.region 9 (opsAt f61_b [1, 1, 1, 0, 1, 0, 0, 1, 0, 0, 1]) false))) (.region 6 (opsAt f61_b [1, 1, 1, 0, 1, 0, 0, 1, 1]) false)))
noncomputable def f61_k61000 (rd : Option Nat) : Key := .lp 61000 [0, 2, 3, 4, 5] [] f61_c61000 51 rd
noncomputable def f61_c : ACode := (.seq (.region 0 (opsAt f61_b [0]) false) (.seq (.seq (.region 1 (opsAt f61_b [1, 0, 0]) false) (.cond (.tmp 23) (.seq (.region 2 (opsAt f61_b [1, 0, 1, 0, 0]) false) .ret) .skip)) (.seq (.region 3 (opsAt f61_b [1, 1, 0]) false) (.seq (.seq (.region 4 (opsAt f61_b [1, 1, 1, 0, 0]) false) (.block 0 (.loop 61000 [0, 2, 3, 4, 5] [] [(.exit 0), .ret] f61_c61000))) (.seq (.region 10 (opsAt f61_b [1, 1, 1, 1, 0]) false) .ret)))))
noncomputable def f61_f : AFun := { code := f61_c, nt := 51, res := Try.f61.results.toList, fr := [] }
noncomputable def f62_b : Code := bodyOf Try.f62
noncomputable def f62_c62000 : ACode := (.seq (.region 1 (opsAt f62_b [1, 0, 0, 0]) false) (.seq (.cond (.tmp 6) .skip (.exit 0)) (.seq (.block 1 (.region 2 (opsAt f62_b [1, 0, 0, 1, 1, 0, 0]) false)) (.region 3 (opsAt f62_b [1, 0, 0, 1, 1, 1]) false))))
noncomputable def f62_k62000 (rd : Option Nat) : Key := .lp 62000 [0, 4, 5] [] f62_c62000 16 rd
noncomputable def f62_c : ACode := (.seq (.region 0 (opsAt f62_b [0]) false) (.block 0 (.loop 62000 [0, 4, 5] [] [(.exit 0)] f62_c62000)))
noncomputable def f62_f : AFun := { code := f62_c, nt := 16, res := Try.f62.results.toList, fr := [] }
noncomputable def f63_b : Code := bodyOf Try.f63
noncomputable def f63_c63000 : ACode := (.seq (.region 3 (opsAt f63_b [1, 1, 0, 1, 0, 0, 0]) false) (.seq (.cond (.tmp 12) .skip (.exit 0)) (.seq (.block 1 (.seq (.region 4 (opsAt f63_b [1, 1, 0, 1, 0, 0, 1, 1, 0, 0, 0]) false) (.region 5 (opsAt f63_b [1, 1, 0, 1, 0, 0, 1, 1, 0, 0, 1]) false))) (.region 6 (opsAt f63_b [1, 1, 0, 1, 0, 0, 1, 1, 1]) false))))
noncomputable def f63_k63000 (rd : Option Nat) : Key := .lp 63000 [0, 4, 5, 6, 10, 11] [] f63_c63000 58 rd
noncomputable def f63_c : ACode := (.seq (.region 0 (opsAt f63_b [0]) false) (.seq (.region 1 (opsAt f63_b [1, 0]) false) (.seq (.seq (.region 2 (opsAt f63_b [1, 1, 0, 0]) false) (.block 0 (.loop 63000 [0, 4, 5, 6, 10, 11] [] [(.exit 0)] f63_c63000))) (.seq (.region 7 (opsAt f63_b [1, 1, 1, 0]) true) (.seq (.region 8 (opsAt f63_b [1, 1, 1, 1, 0]) true) (.region 9 (opsAt f63_b [1, 1, 1, 1, 1]) true))))))
noncomputable def f63_f : AFun := { code := f63_c, nt := 58, res := Try.f63.results.toList, fr := [] }
noncomputable def f64_b : Code := bodyOf Try.f64
noncomputable def f64_c64000 : ACode := (.seq (.seq (.region 3 (opsAt f64_b [1, 1, 0, 1, 0, 0, 0, 0]) false) (.cond (.tmp 6) .skip (.exit 0))) (.seq (.block 1 (.seq (.seq (.region 5 (opsAt f64_b [1, 1, 0, 1, 0, 0, 1, 0, 0, 0, 0]) false) (.cond (.tmp 25) (.seq (.region 6 (opsAt f64_b [1, 1, 0, 1, 0, 0, 1, 0, 0, 0, 1, 0, 0]) false) .ret) .skip)) (.region 7 (opsAt f64_b [1, 1, 0, 1, 0, 0, 1, 0, 0, 1]) false))) (.region 4 (opsAt f64_b [1, 1, 0, 1, 0, 0, 1, 1]) false)))
noncomputable def f64_k64000 (rd : Option Nat) : Key := .lp 64000 [1, 2, 3, 4] [] f64_c64000 30 rd
noncomputable def f64_c : ACode := (.seq (.region 0 (opsAt f64_b [0]) false) (.seq (.region 1 (opsAt f64_b [1, 0]) false) (.seq (.seq (.region 2 (opsAt f64_b [1, 1, 0, 0]) false) (.block 0 (.loop 64000 [1, 2, 3, 4] [] [(.exit 0), .ret] f64_c64000))) (.seq (.region 8 (opsAt f64_b [1, 1, 1, 0]) false) .ret))))
noncomputable def f64_f : AFun := { code := f64_c, nt := 30, res := Try.f64.results.toList, fr := [] }
noncomputable def f67_b : Code := bodyOf Try.f67
noncomputable def f67_c : ACode := (.seq (.region 0 (opsAt f67_b [0]) false) (.seq (.region 1 (opsAt f67_b [1, 0]) false) .ret))
noncomputable def f67_f : AFun := { code := f67_c, nt := 12, res := Try.f67.results.toList, fr := [] }
noncomputable def f69_b : Code := bodyOf Try.f69
noncomputable def f69_c : ACode := (.seq (.region 0 (opsAt f69_b [0]) false) (.seq (.region 1 (opsAt f69_b [1, 0]) false) (.seq (.region 2 (opsAt f69_b [1, 1, 0]) false) (.seq (.region 3 (opsAt f69_b [1, 1, 1, 0]) false) (.seq (.region 4 (opsAt f69_b [1, 1, 1, 1, 0]) false) (.seq (.region 5 (opsAt f69_b [1, 1, 1, 1, 1, 0]) false) .ret))))))
noncomputable def f69_f : AFun := { code := f69_c, nt := 29, res := Try.f69.results.toList, fr := [] }
noncomputable def f70_b : Code := bodyOf Try.f70
noncomputable def f70_c : ACode := (.seq (.region 0 (opsAt f70_b [0]) false) (.seq (.region 1 (opsAt f70_b [1, 0]) false) (.seq (.region 2 (opsAt f70_b [1, 1, 0]) false) (.seq (.region 3 (opsAt f70_b [1, 1, 1, 0]) false) (.region 4 (opsAt f70_b [1, 1, 1, 1]) false)))))
noncomputable def f70_f : AFun := { code := f70_c, nt := 55, res := Try.f70.results.toList, fr := [] }
noncomputable def f71_b : Code := bodyOf Try.f71
noncomputable def f71_c : ACode := (.seq (.region 0 (opsAt f71_b [0]) false) (.seq (.region 1 (opsAt f71_b [1, 0]) false) .ret))
noncomputable def f71_f : AFun := { code := f71_c, nt := 4, res := Try.f71.results.toList, fr := [] }
noncomputable def f72_b : Code := bodyOf Try.f72
noncomputable def f72_c72000 : ACode := (.seq (.region 3 (opsAt f72_b [1, 1, 0, 1, 0, 0, 0]) false) (.seq (.cond (.tmp 8) .skip (.exit 0)) (.seq (.block 1 (.seq (.region 4 (opsAt f72_b [1, 1, 0, 1, 0, 0, 1, 1, 0, 0, 0]) false) (.seq (.seq (.region 5 (opsAt f72_b [1, 1, 0, 1, 0, 0, 1, 1, 0, 0, 1, 0, 0]) false) (.cond (.tmp 15) (.seq (.region 6 (opsAt f72_b [1, 1, 0, 1, 0, 0, 1, 1, 0, 0, 1, 0, 1, 0, 0]) false) .ret) .skip)) (.region 7 (opsAt f72_b [1, 1, 0, 1, 0, 0, 1, 1, 0, 0, 1, 1]) false)))) (.region 8 (opsAt f72_b [1, 1, 0, 1, 0, 0, 1, 1, 1]) false))))
noncomputable def f72_k72000 (rd : Option Nat) : Key := .lp 72000 [2, 3, 6, 7] [] f72_c72000 23 rd
noncomputable def f72_c : ACode := (.seq (.region 0 (opsAt f72_b [0]) false) (.seq (.region 1 (opsAt f72_b [1, 0]) false) (.seq (.seq (.region 2 (opsAt f72_b [1, 1, 0, 0]) false) (.block 0 (.loop 72000 [2, 3, 6, 7] [] [(.exit 0), .ret] f72_c72000))) (.seq (.region 9 (opsAt f72_b [1, 1, 1, 0]) false) .ret))))
noncomputable def f72_f : AFun := { code := f72_c, nt := 23, res := Try.f72.results.toList, fr := [] }
noncomputable def f73_b : Code := bodyOf Try.f73
noncomputable def f73_c73000 : ACode := (.seq (.region 3 (opsAt f73_b [1, 1, 0, 1, 0, 0, 0]) false) (.seq (.cond (.tmp 8) .skip (.exit 0)) (.seq (.block 1 (.seq (.region 4 (opsAt f73_b [1, 1, 0, 1, 0, 0, 1, 1, 0, 0, 0]) false) (.region 5 (opsAt f73_b [1, 1, 0, 1, 0, 0, 1, 1, 0, 0, 1]) false))) (.region 6 (opsAt f73_b [1, 1, 0, 1, 0, 0, 1, 1, 1]) false))))
noncomputable def f73_k73000 (rd : Option Nat) : Key := .lp 73000 [2, 3, 6, 7] [] f73_c73000 16 rd
noncomputable def f73_c : ACode := (.seq (.region 0 (opsAt f73_b [0]) false) (.seq (.region 1 (opsAt f73_b [1, 0]) false) (.seq (.seq (.region 2 (opsAt f73_b [1, 1, 0, 0]) false) (.block 0 (.loop 73000 [2, 3, 6, 7] [] [(.exit 0)] f73_c73000))) (.seq (.region 7 (opsAt f73_b [1, 1, 1, 0]) false) .ret))))
noncomputable def f73_f : AFun := { code := f73_c, nt := 16, res := Try.f73.results.toList, fr := [] }
noncomputable def f74_b : Code := bodyOf Try.f74
noncomputable def f74_c74000 : ACode := (.seq (.region 2 (opsAt f74_b [1, 0, 1, 0, 0, 0]) false) (.seq (.cond (.tmp 9) .skip (.exit 0)) (.seq (.block 1 (.seq (.region 3 (opsAt f74_b [1, 0, 1, 0, 0, 1, 1, 0, 0, 0]) false) (.seq (.region 4 (opsAt f74_b [1, 0, 1, 0, 0, 1, 1, 0, 0, 1, 0]) false) (.seq (.region 5 (opsAt f74_b [1, 0, 1, 0, 0, 1, 1, 0, 0, 1, 1, 0]) false) (.cond (.tmp 15) (.seq (.region 6 (opsAt f74_b [1, 0, 1, 0, 0, 1, 1, 0, 0, 1, 1, 1, 0, 0]) false) .ret) .skip))))) (.region 7 (opsAt f74_b [1, 0, 1, 0, 0, 1, 1, 1]) false))))
noncomputable def f74_k74000 (rd : Option Nat) : Key := .lp 74000 [2, 6, 7, 8] [] f74_c74000 18 rd
noncomputable def f74_c : ACode := (.seq (.region 0 (opsAt f74_b [0]) false) (.seq (.seq (.region 1 (opsAt f74_b [1, 0, 0]) false) (.block 0 (.loop 74000 [2, 6, 7, 8] [] [(.exit 0), .ret] f74_c74000))) (.seq (.region 8 (opsAt f74_b [1, 1, 0]) false) .ret)))
noncomputable def f74_f : AFun := { code := f74_c, nt := 18, res := Try.f74.results.toList, fr := [] }
noncomputable def f75_b : Code := bodyOf Try.f75
noncomputable def f75_c75002 : ACode := (.seq (.region 11 (opsAt f75_b [1, 1, 1, 0, 1, 0, 0, 1, 1, 0, 0, 1, 1, 0, 1, 0, 0, 1, 1, 0, 0, 1, 0, 1, 0, 0, 0]) false) (.seq (.cond (.tmp 32) .skip (.exit 4)) (.seq (.block 5 (.seq (.region 12 (opsAt f75_b [1, 1, 1, 0, 1, 0, 0, 1, 1, 0, 0, 1, 1, 0, 1, 0, 0, 1, 1, 0, 0, 1, 0, 1, 0, 0, 1, 1, 0, 0, 0]) false) (.seq (.region 13 (opsAt f75_b [1, 1, 1, 0, 1, 0, 0, 1, 1, 0, 0, 1, 1, 0, 1, 0, 0, 1, 1, 0, 0, 1, 0, 1, 0, 0, 1, 1, 0, 0, 1, 0]) false) (.join [(.normal, [2, 3, 4, 5, 7, 8, 10, 13, 14, 15, 25, 26, 27, 31])] (.cond (.tmp 38) (.region 14 (opsAt f75_b [1, 1, 1, 0, 1, 0, 0, 1, 1, 0, 0, 1, 1, 0, 1, 0, 0, 1, 1, 0, 0, 1, 0, 1, 0, 0, 1, 1, 0, 0, 1, 1, 0]) false) .skip))))) (.region 15 (opsAt f75_b [1, 1, 1, 0, 1, 0, 0, 1, 1, 0, 0, 1, 1, 0, 1, 0, 0, 1, 1, 0, 0, 1, 0, 1, 0, 0, 1, 1, 1]) false))))
noncomputable def f75_k75002 (rd : Option Nat) : Key := .lp 75002 [2, 3, 4, 5, 7, 8, 10, 13, 14, 15, 25, 26, 27, 31] [] f75_c75002 76 rd
noncomputable def f75_c75001 : ACode := (.seq (.region 8 (opsAt f75_b [1, 1, 1, 0, 1, 0, 0, 1, 1, 0, 0, 1, 1, 0, 1, 0, 0, 0]) false) (.seq (.cond (.tmp 28) .skip (.exit 2)) (.seq (.block 3 (.seq (.region 9 (opsAt f75_b [1, 1, 1, 0, 1, 0, 0, 1, 1, 0, 0, 1, 1, 0, 1, 0, 0, 1, 1, 0, 0, 0]) false) (.seq (.seq (.region 10 (opsAt f75_b [1, 1, 1, 0, 1, 0, 0, 1, 1, 0, 0, 1, 1, 0, 1, 0, 0, 1, 1, 0, 0, 1, 0, 0]) false) (.block 4 (.loop 75002 [2, 3, 4, 5, 7, 8, 10, 13, 14, 15, 25, 26, 27, 31] [] [(.exit 4)] f75_c75002))) (.region 16 (opsAt f75_b [1, 1, 1, 0, 1, 0, 0, 1, 1, 0, 0, 1, 1, 0, 1, 0, 0, 1, 1, 0, 0, 1, 1]) false)))) (.region 17 (opsAt f75_b [1, 1, 1, 0, 1, 0, 0, 1, 1, 0, 0, 1, 1, 0, 1, 0, 0, 1, 1, 1]) false))))
noncomputable def f75_k75001 (rd : Option Nat) : Key := .lp 75001 [2, 3, 4, 5, 7, 8, 13, 14, 15, 25, 26, 27] [] f75_c75001 76 rd
noncomputable def f75_c75000 : ACode := (.seq (.region 4 (opsAt f75_b [1, 1, 1, 0, 1, 0, 0, 0]) false) (.seq (.cond (.tmp 16) .skip (.exit 0)) (.seq (.block 1 (.seq (.region 5 (opsAt f75_b [1, 1, 1, 0, 1, 0, 0, 1, 1, 0, 0, 0]) false) (.seq (.region 6 (opsAt f75_b [1, 1, 1, 0, 1, 0, 0, 1, 1, 0, 0, 1, 0]) false) (.seq (.seq (.region 7 (opsAt f75_b [1, 1, 1, 0, 1, 0, 0, 1, 1, 0, 0, 1, 1, 0, 0]) false) (.block 2 (.loop 75001 [2, 3, 4, 5, 7, 8, 13, 14, 15, 25, 26, 27] [] [(.exit 2)] f75_c75001))) (.seq (.region 18 (opsAt f75_b [1, 1, 1, 0, 1, 0, 0, 1, 1, 0, 0, 1, 1, 1, 0]) true) (.region 19 (opsAt f75_b [1, 1, 1, 0, 1, 0, 0, 1, 1, 0, 0, 1, 1, 1, 1]) true)))))) (.region 20 (opsAt f75_b [1, 1, 1, 0, 1, 0, 0, 1, 1, 1]) false))))
noncomputable def f75_k75000 (rd : Option Nat) : Key := .lp 75000 [2, 3, 4, 5, 13, 14, 15] [] f75_c75000 76 rd
noncomputable def f75_c : ACode := (.seq (.region 0 (opsAt f75_b [0]) false) (.seq (.region 1 (opsAt f75_b [1, 0]) false) (.seq (.region 2 (opsAt f75_b [1, 1, 0]) false) (.seq (.seq (.region 3 (opsAt f75_b [1, 1, 1, 0, 0]) false) (.block 0 (.loop 75000 [2, 3, 4, 5, 13, 14, 15] [] [(.exit 0)] f75_c75000))) (.seq (.region 21 (opsAt f75_b [1, 1, 1, 1, 0]) true) .ret)))))
noncomputable def f75_f : AFun := { code := f75_c, nt := 76, res := Try.f75.results.toList, fr := [] }
noncomputable def f76_b : Code := bodyOf Try.f76
noncomputable def f76_c76000 : ACode := (.seq (.region 2 (opsAt f76_b [1, 0, 1, 0, 0, 0]) false) (.seq (.cond (.tmp 10) .skip (.exit 0)) (.seq (.block 1 (.region 3 (opsAt f76_b [1, 0, 1, 0, 0, 1, 1, 0, 0]) false)) (.region 4 (opsAt f76_b [1, 0, 1, 0, 0, 1, 1, 1]) false))))
noncomputable def f76_k76000 (rd : Option Nat) : Key := .lp 76000 [0, 1, 3, 8, 9] [] f76_c76000 45 rd
noncomputable def f76_c76002 : ACode := (.seq (.seq (.region 10 (opsAt f76_b [1, 1, 1, 0, 0, 1, 1, 0, 0, 1, 1, 0, 1, 0, 0, 0, 0]) false) (.cond (.tmp 25) .skip (.exit 4))) (.seq (.block 5 (.region 12 (opsAt f76_b [1, 1, 1, 0, 0, 1, 1, 0, 0, 1, 1, 0, 1, 0, 0, 1, 0, 0]) false)) (.region 11 (opsAt f76_b [1, 1, 1, 0, 0, 1, 1, 0, 0, 1, 1, 0, 1, 0, 0, 1, 1]) false)))
noncomputable def f76_k76002 (rd : Option Nat) : Key := .lp 76002 [0, 1, 5, 6, 7, 14, 15] [] f76_c76002 45 rd
noncomputable def f76_c76001 : ACode := (.seq (.region 6 (opsAt f76_b [1, 1, 1, 0, 0, 0]) false) (.seq (.cond (.tmp 16) .skip (.exit 2)) (.seq (.block 3 (.seq (.region 7 (opsAt f76_b [1, 1, 1, 0, 0, 1, 1, 0, 0, 0]) false) (.seq (.region 8 (opsAt f76_b [1, 1, 1, 0, 0, 1, 1, 0, 0, 1, 0]) false) (.seq (.seq (.region 9 (opsAt f76_b [1, 1, 1, 0, 0, 1, 1, 0, 0, 1, 1, 0, 0]) false) (.block 4 (.loop 76002 [0, 1, 5, 6, 7, 14, 15] [] [(.exit 4)] f76_c76002))) (.seq (.region 13 (opsAt f76_b [1, 1, 1, 0, 0, 1, 1, 0, 0, 1, 1, 1, 0]) false) (.seq (.region 14 (opsAt f76_b [1, 1, 1, 0, 0, 1, 1, 0, 0, 1, 1, 1, 1, 0]) false) (.cond (.tmp 43) .ret .skip))))))) (.region 15 (opsAt f76_b [1, 1, 1, 0, 0, 1, 1, 1]) false))))
noncomputable def f76_k76001 (rd : Option Nat) : Key := .lp 76001 [0, 1, 14, 15] [] f76_c76001 45 rd
noncomputable def f76_c : ACode := (.seq (.region 0 (opsAt f76_b [0]) false) (.seq (.seq (.region 1 (opsAt f76_b [1, 0, 0]) false) (.block 0 (.loop 76000 [0, 1, 3, 8, 9] [] [(.exit 0)] f76_c76000))) (.seq (.region 5 (opsAt f76_b [1, 1, 0]) false) (.block 2 (.loop 76001 [0, 1, 14, 15] [] [(.exit 2), .ret] f76_c76001)))))
noncomputable def f76_f : AFun := { code := f76_c, nt := 45, res := Try.f76.results.toList, fr := [] }
noncomputable def f77_b : Code := bodyOf Try.f77
noncomputable def f77_c77000 : ACode := (.seq (.seq (.region 1 (opsAt f77_b [1, 0, 0, 0, 0]) false) (.cond (.tmp 9) .skip (.exit 0))) (.seq (.block 1 (.region 3 (opsAt f77_b [1, 0, 0, 1, 0, 0]) true)) (.region 2 (opsAt f77_b [1, 0, 0, 1, 1]) false)))
noncomputable def f77_k77000 (rd : Option Nat) : Key := .lp 77000 [0, 2, 3] [] f77_c77000 28 rd
noncomputable def f77_c : ACode := (.seq (.region 0 (opsAt f77_b [0]) false) (.block 0 (.loop 77000 [0, 2, 3] [] [(.exit 0)] f77_c77000)))
noncomputable def f77_f : AFun := { code := f77_c, nt := 28, res := Try.f77.results.toList, fr := [] }
noncomputable def f78_b : Code := bodyOf Try.f78
noncomputable def f78_c78000 : ACode := (.seq (.region 4 (opsAt f78_b [1, 1, 0, 1, 0, 0, 0]) false) (.seq (.cond (.tmp 14) .skip (.exit 0)) (.seq (.block 1 (.seq (.region 5 (opsAt f78_b [1, 1, 0, 1, 0, 0, 1, 1, 0, 0, 0]) false) (.seq (.region 6 (opsAt f78_b [1, 1, 0, 1, 0, 0, 1, 1, 0, 0, 1, 0]) true) (.cond (.tmp 24) (.seq (.region 7 (opsAt f78_b [1, 1, 0, 1, 0, 0, 1, 1, 0, 0, 1, 1, 0, 0]) false) .ret) .skip)))) (.region 8 (opsAt f78_b [1, 1, 0, 1, 0, 0, 1, 1, 1]) false))))
noncomputable def f78_k78000 (rd : Option Nat) : Key := .lp 78000 [0, 1, 4, 12, 13] [] f78_c78000 26 rd
noncomputable def f78_c : ACode := (.seq (.region 0 (opsAt f78_b [0]) false) (.seq (.seq (.region 1 (opsAt f78_b [1, 0, 0]) false) (.cond (.tmp 10) (.seq (.region 2 (opsAt f78_b [1, 0, 1, 0, 0]) false) .ret) .skip)) (.seq (.seq (.region 3 (opsAt f78_b [1, 1, 0, 0]) false) (.block 0 (.loop 78000 [0, 1, 4, 12, 13] [] [(.exit 0), .ret] f78_c78000))) (.seq (.region 9 (opsAt f78_b [1, 1, 1, 0]) false) .ret))))
noncomputable def f78_f : AFun := { code := f78_c, nt := 26, res := Try.f78.results.toList, fr := [] }
noncomputable def f79_b : Code := bodyOf Try.f79
noncomputable def f79_c : ACode := (.seq (.region 0 (opsAt f79_b [0]) false) (.seq (.region 1 (opsAt f79_b [1, 0]) true) (.seq (.region 2 (opsAt f79_b [1, 1, 0]) false) (.seq (.region 3 (opsAt f79_b [1, 1, 1, 0]) false) (.seq (.region 4 (opsAt f79_b [1, 1, 1, 1, 0]) false) .ret)))))
noncomputable def f79_f : AFun := { code := f79_c, nt := 30, res := Try.f79.results.toList, fr := [] }
noncomputable def f80_b : Code := bodyOf Try.f80
noncomputable def f80_c : ACode := (.seq (.region 0 (opsAt f80_b [0]) false) (.seq (.region 1 (opsAt f80_b [1, 0]) false) .ret))
noncomputable def f80_f : AFun := { code := f80_c, nt := 15, res := Try.f80.results.toList, fr := [] }
noncomputable def f81_b : Code := bodyOf Try.f81
noncomputable def f81_c : ACode := (.seq (.region 0 (opsAt f81_b [0]) false) (.seq (.seq (.region 1 (opsAt f81_b [1, 0, 0]) false) (.cond (.tmp 5) (.seq (.region 2 (opsAt f81_b [1, 0, 1, 0, 0]) false) .ret) .skip)) (.seq (.region 3 (opsAt f81_b [1, 1, 0]) false) .ret)))
noncomputable def f81_f : AFun := { code := f81_c, nt := 9, res := Try.f81.results.toList, fr := [] }
noncomputable def f86_b : Code := bodyOf Try.f86
noncomputable def f86_c86001 : ACode := (.seq (.region 4 (opsAt f86_b [1, 0, 0, 1, 1, 0, 0, 1, 1, 0, 0, 0]) false) (.seq (.cond (.tmp 18) .skip (.exit 2)) (.seq (.block 3 (.seq (.region 5 (opsAt f86_b [1, 0, 0, 1, 1, 0, 0, 1, 1, 0, 0, 1, 1, 0, 0, 0]) false) (.seq (.region 6 (opsAt f86_b [1, 0, 0, 1, 1, 0, 0, 1, 1, 0, 0, 1, 1, 0, 0, 1, 0]) false) (.cond (.tmp 27) .ret .skip)))) (.region 7 (opsAt f86_b [1, 0, 0, 1, 1, 0, 0, 1, 1, 0, 0, 1, 1, 1]) false))))
noncomputable def f86_k86001 (rd : Option Nat) : Key := .lp 86001 [0, 1, 3, 8, 9, 16, 17] [] f86_c86001 30 rd
noncomputable def f86_c86000 : ACode := (.seq (.region 1 (opsAt f86_b [1, 0, 0, 0]) false) (.seq (.cond (.tmp 10) .skip (.exit 0)) (.seq (.block 1 (.seq (.region 2 (opsAt f86_b [1, 0, 0, 1, 1, 0, 0, 0]) false) (.seq (.region 3 (opsAt f86_b [1, 0, 0, 1, 1, 0, 0, 1, 0]) false) (.block 2 (.loop 86001 [0, 1, 3, 8, 9, 16, 17] [] [(.exit 2), .ret] f86_c86001))))) (.region 8 (opsAt f86_b [1, 0, 0, 1, 1, 1]) false))))
noncomputable def f86_k86000 (rd : Option Nat) : Key := .lp 86000 [0, 1, 8, 9] [] f86_c86000 30 rd
noncomputable def f86_c : ACode := (.seq (.region 0 (opsAt f86_b [0]) false) (.block 0 (.loop 86000 [0, 1, 8, 9] [] [(.exit 0), .ret] f86_c86000)))
noncomputable def f86_f : AFun := { code := f86_c, nt := 30, res := Try.f86.results.toList, fr := [] }
noncomputable def f87_b : Code := bodyOf Try.f87
noncomputable def f87_a87001 : ACode := (.region 9 (opsAt f87_b [1, 1, 1, 0, 1, 0, 0, 1, 1, 0, 0, 1, 1, 1, 0, 0]) false)
noncomputable def f87_c87001 : ACode := (.block 3 (.seq (.region 10 (opsAt f87_b [1, 1, 1, 0, 1, 0, 0, 1, 1, 0, 0, 1, 1, 1, 0, 1, 0, 0]) true) (.seq (.region 11 (opsAt f87_b [1, 1, 1, 0, 1, 0, 0, 1, 1, 0, 0, 1, 1, 1, 0, 1, 0, 1, 0]) false) (.join [(.normal, [])] (.cond (.tmp 40) (.region 12 (opsAt f87_b [1, 1, 1, 0, 1, 0, 0, 1, 1, 0, 0, 1, 1, 1, 0, 1, 0, 1, 1, 0]) false) .skip)))))
noncomputable def f87_c87000 : ACode := (.seq (.region 4 (opsAt f87_b [1, 1, 1, 0, 1, 0, 0, 0]) false) (.seq (.cond (.tmp 18) .skip (.exit 0)) (.seq (.block 1 (.seq (.region 5 (opsAt f87_b [1, 1, 1, 0, 1, 0, 0, 1, 1, 0, 0, 0]) false) (.seq (.seq (.region 6 (opsAt f87_b [1, 1, 1, 0, 1, 0, 0, 1, 1, 0, 0, 1, 0, 0]) false) (.join [(.normal, [1, 5, 6, 7, 15, 16, 17])] (.cond (.tmp 25) (.region 7 (opsAt f87_b [1, 1, 1, 0, 1, 0, 0, 1, 1, 0, 0, 1, 0, 1, 0]) false) .skip))) (.seq (.region 8 (opsAt f87_b [1, 1, 1, 0, 1, 0, 0, 1, 1, 0, 0, 1, 1, 0]) false) (.block 2 (.rangeFunc 87001 [1, 5, 6, 7] [] [.normal] (.tmp 29) #[30] f87_a87001 f87_c87001)))))) (.region 13 (opsAt f87_b [1, 1, 1, 0, 1, 0, 0, 1, 1, 1]) false))))
noncomputable def f87_k87000 (rd : Option Nat) : Key := .lp 87000 [1, 5, 15, 16, 17] [] f87_c87000 49 rd
noncomputable def f87_c : ACode := (.seq (.region 0 (opsAt f87_b [0]) false) (.seq (.region 1 (opsAt f87_b [1, 0]) false) (.seq (.region 2 (opsAt f87_b [1, 1, 0]) false) (.seq (.seq (.region 3 (opsAt f87_b [1, 1, 1, 0, 0]) false) (.block 0 (.loop 87000 [1, 5, 15, 16, 17] [] [(.exit 0)] f87_c87000))) (.seq (.region 14 (opsAt f87_b [1, 1, 1, 1, 0]) false) (.seq (.region 15 (opsAt f87_b [1, 1, 1, 1, 1, 0]) false) .ret))))))
noncomputable def f87_f : AFun := { code := f87_c, nt := 49, res := Try.f87.results.toList, fr := [] }
noncomputable def f95_b : Code := bodyOf Try.f95
noncomputable def f95_c : ACode := (.seq (.region 0 (opsAt f95_b [0]) false) (.seq (.seq (.region 1 (opsAt f95_b [1, 0, 0]) false) (.seq (.region 2 (opsAt f95_b [1, 0, 1, 0]) false) (.cond (.tmp 10) (.seq (.region 3 (opsAt f95_b [1, 0, 1, 1, 0, 0]) false) .ret) .skip))) (.seq (.region 4 (opsAt f95_b [1, 1, 0]) false) (.seq (.region 5 (opsAt f95_b [1, 1, 1, 0]) false) .ret))))
noncomputable def f95_f : AFun := { code := f95_c, nt := 18, res := Try.f95.results.toList, fr := [] }
noncomputable def f96_b : Code := bodyOf Try.f96
noncomputable def f96_c : ACode := (.seq (.region 0 (opsAt f96_b [0]) false) (.seq (.region 1 (opsAt f96_b [1, 0]) false) .ret))
noncomputable def f96_f : AFun := { code := f96_c, nt := 1, res := Try.f96.results.toList, fr := [] }
noncomputable def f97_b : Code := bodyOf Try.f97
noncomputable def f97_c97000 : ACode := (.seq (.seq (.region 5 (opsAt f97_b [1, 1, 1, 1, 0, 1, 0, 0, 0, 0]) false) (.cond (.tmp 31) .skip (.exit 0))) (.seq (.block 1 (.seq (.region 7 (opsAt f97_b [1, 1, 1, 1, 0, 1, 0, 0, 1, 0, 0, 0]) false) (.seq (.seq (.region 8 (opsAt f97_b [1, 1, 1, 1, 0, 1, 0, 0, 1, 0, 0, 1, 0, 0]) false) (.join [(.ret, [3, 8, 9, 10, 11]), (.normal, [3, 8, 9, 10, 11, 12])] (.cond (.tmp 38) (.seq (.region 9 (opsAt f97_b [1, 1, 1, 1, 0, 1, 0, 0, 1, 0, 0, 1, 0, 1, 0, 0]) true) (.block 2 (.seq (.region 10 (opsAt f97_b [1, 1, 1, 1, 0, 1, 0, 0, 1, 0, 0, 1, 0, 1, 0, 1, 0, 0]) false) (.cond (.tmp 48) (.seq (.region 11 (opsAt f97_b [1, 1, 1, 1, 0, 1, 0, 0, 1, 0, 0, 1, 0, 1, 0, 1, 0, 1, 0, 0]) false) .ret) (.seq (.region 12 (opsAt f97_b [1, 1, 1, 1, 0, 1, 0, 0, 1, 0, 0, 1, 0, 1, 0, 1, 0, 1, 1, 0]) false) (.join [(.normal, [3, 8, 9, 10, 11, 12])] (.cond (.tmp 51) (.region 13 (opsAt f97_b [1, 1, 1, 1, 0, 1, 0, 0, 1, 0, 0, 1, 0, 1, 0, 1, 0, 1, 1, 1, 0]) false) .skip))))))) .skip))) (.region 14 (opsAt f97_b [1, 1, 1, 1, 0, 1, 0, 0, 1, 0, 0, 1, 1]) true)))) (.region 6 (opsAt f97_b [1, 1, 1, 1, 0, 1, 0, 0, 1, 1]) false)))
noncomputable def f97_k97000 (rd : Option Nat) : Key := .lp 97000 [3, 8, 9, 10, 11] [] f97_c97000 67 rd
noncomputable def f97_c : ACode := (.seq (.region 0 (opsAt f97_b [0]) false) (.seq (.region 1 (opsAt f97_b [1, 0]) false) (.seq (.region 2 (opsAt f97_b [1, 1, 0]) false) (.seq (.region 3 (opsAt f97_b [1, 1, 1, 0]) false) (.seq (.seq (.region 4 (opsAt f97_b [1, 1, 1, 1, 0, 0]) false) (.block 0 (.loop 97000 [3, 8, 9, 10, 11] [] [(.exit 0), .ret] f97_c97000))) (.seq (.seq (.region 15 (opsAt f97_b [1, 1, 1, 1, 1, 0, 0]) false) (.cond (.tmp 65) (.seq (.region 16 (opsAt f97_b [1, 1, 1, 1, 1, 0, 1, 0, 0]) false) .ret) .skip)) (.seq (.region 17 (opsAt f97_b [1, 1, 1, 1, 1, 1, 0]) false) .ret)))))))
noncomputable def f97_f : AFun := { code := f97_c, nt := 67, res := Try.f97.results.toList, fr := [] }
noncomputable def f98_b : Code := bodyOf Try.f98
noncomputable def f98_c : ACode := (.region 0 (opsAt f98_b []) false)
noncomputable def f98_f : AFun := { code := f98_c, nt := 9, res := Try.f98.results.toList, fr := [] }
noncomputable def f99_b : Code := bodyOf Try.f99
noncomputable def f99_c : ACode := (.seq (.region 0 (opsAt f99_b [0]) false) (.seq (.seq (.region 1 (opsAt f99_b [1, 0, 0]) true) (.cond (.tmp 15) (.seq (.region 2 (opsAt f99_b [1, 0, 1, 0, 0]) true) .ret) .skip)) (.seq (.region 3 (opsAt f99_b [1, 1, 0]) true) .ret)))
noncomputable def f99_f : AFun := { code := f99_c, nt := 36, res := Try.f99.results.toList, fr := [] }
noncomputable def f100_b : Code := bodyOf Try.f100
noncomputable def f100_c100000 : ACode := (.seq (.region 2 (opsAt f100_b [1, 0, 1, 0, 0, 0]) false) (.seq (.cond (.tmp 14) .skip (.exit 0)) (.seq (.block 1 (.seq (.region 3 (opsAt f100_b [1, 0, 1, 0, 0, 1, 1, 0, 0, 0]) false) (.seq (.seq (.region 4 (opsAt f100_b [1, 0, 1, 0, 0, 1, 1, 0, 0, 1, 0, 0]) false) (.cond (.tmp 21) (.seq (.region 5 (opsAt f100_b [1, 0, 1, 0, 0, 1, 1, 0, 0, 1, 0, 1, 0, 0]) false) .ret) .skip)) (.seq (.region 6 (opsAt f100_b [1, 0, 1, 0, 0, 1, 1, 0, 0, 1, 1, 0]) false) (.seq (.region 7 (opsAt f100_b [1, 0, 1, 0, 0, 1, 1, 0, 0, 1, 1, 1, 0]) false) (.seq (.region 8 (opsAt f100_b [1, 0, 1, 0, 0, 1, 1, 0, 0, 1, 1, 1, 1, 0]) false) (.cond (.tmp 31) (.seq (.region 9 (opsAt f100_b [1, 0, 1, 0, 0, 1, 1, 0, 0, 1, 1, 1, 1, 1, 0, 0]) false) .ret) .skip))))))) (.region 10 (opsAt f100_b [1, 0, 1, 0, 0, 1, 1, 1]) false))))
noncomputable def f100_k100000 (rd : Option Nat) : Key := .lp 100000 [0, 1, 2, 6, 11, 12, 13] [] f100_c100000 39 rd
noncomputable def f100_c : ACode := (.seq (.region 0 (opsAt f100_b [0]) false) (.seq (.seq (.region 1 (opsAt f100_b [1, 0, 0]) false) (.block 0 (.loop 100000 [0, 1, 2, 6, 11, 12, 13] [] [(.exit 0), .ret] f100_c100000))) (.seq (.seq (.region 11 (opsAt f100_b [1, 1, 0, 0]) false) (.cond (.tmp 38) (.seq (.region 12 (opsAt f100_b [1, 1, 0, 1, 0, 0]) false) .ret) .skip)) (.seq (.region 13 (opsAt f100_b [1, 1, 1, 0]) false) .ret))))
noncomputable def f100_f : AFun := { code := f100_c, nt := 39, res := Try.f100.results.toList, fr := [] }
noncomputable def f101_b : Code := bodyOf Try.f101
noncomputable def f101_c101001 : ACode := (.seq (.region 9 (opsAt f101_b [1, 1, 0, 1, 0, 0, 1, 1, 0, 0, 1, 1, 1, 0, 0, 0]) false) (.seq (.cond (.tmp 32) .skip (.exit 2)) (.seq (.block 3 (.seq (.region 10 (opsAt f101_b [1, 1, 0, 1, 0, 0, 1, 1, 0, 0, 1, 1, 1, 0, 0, 1, 1, 0, 0, 0]) false) (.seq (.region 11 (opsAt f101_b [1, 1, 0, 1, 0, 0, 1, 1, 0, 0, 1, 1, 1, 0, 0, 1, 1, 0, 0, 1, 0]) true) (.cond (.tmp 46) (.seq (.region 12 (opsAt f101_b [1, 1, 0, 1, 0, 0, 1, 1, 0, 0, 1, 1, 1, 0, 0, 1, 1, 0, 0, 1, 1, 0, 0]) true) .ret) .skip)))) (.region 13 (opsAt f101_b [1, 1, 0, 1, 0, 0, 1, 1, 0, 0, 1, 1, 1, 0, 0, 1, 1, 1]) false))))
noncomputable def f101_k101001 (rd : Option Nat) : Key := .lp 101001 [2, 3, 4, 5, 10, 31] [] f101_c101001 62 rd
noncomputable def f101_c101000 : ACode := (.seq (.region 4 (opsAt f101_b [1, 1, 0, 1, 0, 0, 0]) false) (.seq (.cond (.tmp 11) .skip (.exit 0)) (.seq (.block 1 (.seq (.region 5 (opsAt f101_b [1, 1, 0, 1, 0, 0, 1, 1, 0, 0, 0]) false) (.seq (.seq (.region 6 (opsAt f101_b [1, 1, 0, 1, 0, 0, 1, 1, 0, 0, 1, 0, 0]) true) (.cond (.tmp 21) (.seq (.region 7 (opsAt f101_b [1, 1, 0, 1, 0, 0, 1, 1, 0, 0, 1, 0, 1, 0, 0]) true) .ret) .skip)) (.seq (.region 8 (opsAt f101_b [1, 1, 0, 1, 0, 0, 1, 1, 0, 0, 1, 1, 0]) false) (.block 2 (.loop 101001 [2, 3, 4, 5, 10, 31] [] [(.exit 2), .ret] f101_c101001)))))) (.region 14 (opsAt f101_b [1, 1, 0, 1, 0, 0, 1, 1, 1]) false))))
noncomputable def f101_k101000 (rd : Option Nat) : Key := .lp 101000 [2, 3, 4, 10] [] f101_c101000 62 rd
noncomputable def f101_c : ACode := (.seq (.region 0 (opsAt f101_b [0]) false) (.seq (.seq (.region 1 (opsAt f101_b [1, 0, 0]) false) (.cond (.tmp 9) (.seq (.region 2 (opsAt f101_b [1, 0, 1, 0, 0]) false) .ret) .skip)) (.seq (.seq (.region 3 (opsAt f101_b [1, 1, 0, 0]) false) (.block 0 (.loop 101000 [2, 3, 4, 10] [] [(.exit 0), .ret] f101_c101000))) (.seq (.region 15 (opsAt f101_b [1, 1, 1, 0]) false) .ret))))
noncomputable def f101_f : AFun := { code := f101_c, nt := 62, res := Try.f101.results.toList, fr := [] }
noncomputable def f102_b : Code := bodyOf Try.f102
noncomputable def f102_c102000 : ACode := (.seq (.region 3 (opsAt f102_b [1, 1, 0, 1, 0, 0, 0]) false) (.seq (.cond (.tmp 19) .skip (.exit 0)) (.seq (.block 1 (.seq (.region 4 (opsAt f102_b [1, 1, 0, 1, 0, 0, 1, 1, 0, 0, 0]) false) (.region 5 (opsAt f102_b [1, 1, 0, 1, 0, 0, 1, 1, 0, 0, 1]) false))) (.region 6 (opsAt f102_b [1, 1, 0, 1, 0, 0, 1, 1, 1]) false))))
noncomputable def f102_k102000 (rd : Option Nat) : Key := .lp 102000 [1, 4, 17, 18] [] f102_c102000 85 rd
noncomputable def f102_c102003 : ACode := (.seq (.region 18 (opsAt f102_b [1, 1, 1, 1, 0, 1, 0, 0, 1, 1, 0, 0, 1, 1, 1, 1, 0, 1, 0, 0, 1, 0, 0, 1, 0, 0, 0]) false) (.seq (.cond (.tmp 56) .skip (.exit 6)) (.seq (.block 7 (.seq (.region 19 (opsAt f102_b [1, 1, 1, 1, 0, 1, 0, 0, 1, 1, 0, 0, 1, 1, 1, 1, 0, 1, 0, 0, 1, 0, 0, 1, 0, 0, 1, 1, 0, 0, 0]) false) (.seq (.region 20 (opsAt f102_b [1, 1, 1, 1, 0, 1, 0, 0, 1, 1, 0, 0, 1, 1, 1, 1, 0, 1, 0, 0, 1, 0, 0, 1, 0, 0, 1, 1, 0, 0, 1, 0]) false) (.join [(.normal, [1, 4, 6, 8, 9, 26, 27, 54, 55])] (.cond (.tmp 68) (.seq (.region 21 (opsAt f102_b [1, 1, 1, 1, 0, 1, 0, 0, 1, 1, 0, 0, 1, 1, 1, 1, 0, 1, 0, 0, 1, 0, 0, 1, 0, 0, 1, 1, 0, 0, 1, 1, 0, 0]) false) (.region 22 (opsAt f102_b [1, 1, 1, 1, 0, 1, 0, 0, 1, 1, 0, 0, 1, 1, 1, 1, 0, 1, 0, 0, 1, 0, 0, 1, 0, 0, 1, 1, 0, 0, 1, 1, 0, 1]) false)) .skip))))) (.region 23 (opsAt f102_b [1, 1, 1, 1, 0, 1, 0, 0, 1, 1, 0, 0, 1, 1, 1, 1, 0, 1, 0, 0, 1, 0, 0, 1, 0, 0, 1, 1, 1]) false))))
noncomputable def f102_k102003 (rd : Option Nat) : Key := .lp 102003 [1, 4, 6, 8, 9, 26, 27, 54, 55] [] f102_c102003 85 rd
noncomputable def f102_c102002 : ACode := (.seq (.seq (.region 15 (opsAt f102_b [1, 1, 1, 1, 0, 1, 0, 0, 1, 1, 0, 0, 1, 1, 1, 1, 0, 1, 0, 0, 0, 0]) false) (.cond (.tmp 44) .skip (.exit 4))) (.seq (.block 5 (.seq (.region 17 (opsAt f102_b [1, 1, 1, 1, 0, 1, 0, 0, 1, 1, 0, 0, 1, 1, 1, 1, 0, 1, 0, 0, 1, 0, 0, 0]) true) (.block 6 (.loop 102003 [1, 4, 6, 8, 9, 26, 27, 54, 55] [] [(.exit 6)] f102_c102003)))) (.region 16 (opsAt f102_b [1, 1, 1, 1, 0, 1, 0, 0, 1, 1, 0, 0, 1, 1, 1, 1, 0, 1, 0, 0, 1, 1]) false)))
noncomputable def f102_k102002 (rd : Option Nat) : Key := .lp 102002 [1, 4, 6, 8, 9, 26, 27] [] f102_c102002 85 rd
noncomputable def f102_c102001 : ACode := (.seq (.region 9 (opsAt f102_b [1, 1, 1, 1, 0, 1, 0, 0, 0]) false) (.seq (.cond (.tmp 28) .skip (.exit 2)) (.seq (.join [(.normal, [1, 4, 6, 26, 27])] (.block 3 (.seq (.region 10 (opsAt f102_b [1, 1, 1, 1, 0, 1, 0, 0, 1, 1, 0, 0, 0]) false) (.seq (.seq (.region 11 (opsAt f102_b [1, 1, 1, 1, 0, 1, 0, 0, 1, 1, 0, 0, 1, 0, 0]) false) (.cond (.tmp 34) (.exit 3) .skip)) (.seq (.region 12 (opsAt f102_b [1, 1, 1, 1, 0, 1, 0, 0, 1, 1, 0, 0, 1, 1, 0]) false) (.seq (.region 13 (opsAt f102_b [1, 1, 1, 1, 0, 1, 0, 0, 1, 1, 0, 0, 1, 1, 1, 0]) false) (.seq (.seq (.region 14 (opsAt f102_b [1, 1, 1, 1, 0, 1, 0, 0, 1, 1, 0, 0, 1, 1, 1, 1, 0, 0]) false) (.block 4 (.loop 102002 [1, 4, 6, 8, 9, 26, 27] [] [(.exit 4)] f102_c102002))) (.region 24 (opsAt f102_b [1, 1, 1, 1, 0, 1, 0, 0, 1, 1, 0, 0, 1, 1, 1, 1, 1]) false)))))))) (.region 25 (opsAt f102_b [1, 1, 1, 1, 0, 1, 0, 0, 1, 1, 1]) false))))
noncomputable def f102_k102001 (rd : Option Nat) : Key := .lp 102001 [1, 4, 6, 26, 27] [] f102_c102001 85 rd
noncomputable def f102_c : ACode := (.seq (.region 0 (opsAt f102_b [0]) false) (.seq (.region 1 (opsAt f102_b [1, 0]) false) (.seq (.seq (.region 2 (opsAt f102_b [1, 1, 0, 0]) false) (.block 0 (.loop 102000 [1, 4, 17, 18] [] [(.exit 0)] f102_c102000))) (.seq (.region 7 (opsAt f102_b [1, 1, 1, 0]) false) (.seq (.seq (.region 8 (opsAt f102_b [1, 1, 1, 1, 0, 0]) false) (.block 2 (.loop 102001 [1, 4, 6, 26, 27] [] [(.exit 2)] f102_c102001))) (.seq (.region 26 (opsAt f102_b [1, 1, 1, 1, 1, 0]) false) .ret))))))
noncomputable def f102_f : AFun := { code := f102_c, nt := 85, res := Try.f102.results.toList, fr := [] }
noncomputable def f103_b : Code := bodyOf Try.f103
noncomputable def f103_c103000 : ACode := (.seq (.region 1 (opsAt f103_b [1, 0, 0, 0]) false) (.seq (.cond (.tmp 5) .skip (.exit 0)) (.seq (.block 1 (.seq (.region 2 (opsAt f103_b [1, 0, 0, 1, 1, 0, 0, 0]) false) (.seq (.region 3 (opsAt f103_b [1, 0, 0, 1, 1, 0, 0, 1, 0]) false) (.seq (.region 4 (opsAt f103_b [1, 0, 0, 1, 1, 0, 0, 1, 1, 0]) false) (.cond (.tmp 25) .ret .skip))))) (.region 5 (opsAt f103_b [1, 0, 0, 1, 1, 1]) false))))
noncomputable def f103_k103000 (rd : Option Nat) : Key := .lp 103000 [0, 4] [] f103_c103000 27 rd
noncomputable def f103_c : ACode := (.seq (.region 0 (opsAt f103_b [0]) false) (.block 0 (.loop 103000 [0, 4] [] [(.exit 0), .ret] f103_c103000)))
noncomputable def f103_f : AFun := { code := f103_c, nt := 27, res := Try.f103.results.toList, fr := [] }
noncomputable def f104_b : Code := bodyOf Try.f104
noncomputable def f104_c : ACode := (.seq (.region 0 (opsAt f104_b [0]) false) (.seq (.region 1 (opsAt f104_b [1, 0]) true) (.seq (.region 2 (opsAt f104_b [1, 1, 0]) false) (.region 3 (opsAt f104_b [1, 1, 1]) true))))
noncomputable def f104_f : AFun := { code := f104_c, nt := 41, res := Try.f104.results.toList, fr := [] }
noncomputable def f105_b : Code := bodyOf Try.f105
noncomputable def f105_c105000 : ACode := (.seq (.region 3 (opsAt f105_b [1, 1, 0, 1, 0, 0, 0]) false) (.seq (.cond (.tmp 13) .skip (.exit 0)) (.seq (.join [(.normal, [0, 1, 4, 5, 12])] (.block 1 (.seq (.region 4 (opsAt f105_b [1, 1, 0, 1, 0, 0, 1, 1, 0, 0, 0]) false) (.seq (.region 5 (opsAt f105_b [1, 1, 0, 1, 0, 0, 1, 1, 0, 0, 1, 0]) true) (.seq (.seq (.region 6 (opsAt f105_b [1, 1, 0, 1, 0, 0, 1, 1, 0, 0, 1, 1, 0, 0]) false) (.cond (.tmp 43) (.seq (.region 7 (opsAt f105_b [1, 1, 0, 1, 0, 0, 1, 1, 0, 0, 1, 1, 0, 1, 0, 0]) false) (.exit 1)) .skip)) (.seq (.region 8 (opsAt f105_b [1, 1, 0, 1, 0, 0, 1, 1, 0, 0, 1, 1, 1, 0]) true) (.seq (.seq (.region 9 (opsAt f105_b [1, 1, 0, 1, 0, 0, 1, 1, 0, 0, 1, 1, 1, 1, 0, 0]) true) (.seq (.region 10 (opsAt f105_b [1, 1, 0, 1, 0, 0, 1, 1, 0, 0, 1, 1, 1, 1, 0, 1, 0]) false) (.join [(.normal, [0, 1, 4, 5, 6, 7, 8, 12])] (.cond (.tmp 69) (.region 11 (opsAt f105_b [1, 1, 0, 1, 0, 0, 1, 1, 0, 0, 1, 1, 1, 1, 0, 1, 1, 0]) false) .skip)))) (.seq (.region 12 (opsAt f105_b [1, 1, 0, 1, 0, 0, 1, 1, 0, 0, 1, 1, 1, 1, 1, 0]) true) (.region 13 (opsAt f105_b [1, 1, 0, 1, 0, 0, 1, 1, 0, 0, 1, 1, 1, 1, 1, 1]) true))))))))) (.region 14 (opsAt f105_b [1, 1, 0, 1, 0, 0, 1, 1, 1]) false))))
noncomputable def f105_k105000 (rd : Option Nat) : Key := .lp 105000 [0, 1, 4, 5, 12] [] f105_c105000 99 rd
noncomputable def f105_c : ACode := (.seq (.region 0 (opsAt f105_b [0]) false) (.seq (.region 1 (opsAt f105_b [1, 0]) false) (.seq (.seq (.region 2 (opsAt f105_b [1, 1, 0, 0]) false) (.block 0 (.loop 105000 [0, 1, 4, 5, 12] [] [(.exit 0)] f105_c105000))) (.seq (.region 15 (opsAt f105_b [1, 1, 1, 0]) false) .ret))))
noncomputable def f105_f : AFun := { code := f105_c, nt := 99, res := Try.f105.results.toList, fr := [] }
noncomputable def f106_b : Code := bodyOf Try.f106
noncomputable def f106_c106000 : ACode := (.seq (.seq (.region 2 (opsAt f106_b [1, 1, 0, 0, 0, 0, 0]) false) (.cond (.tmp 13) .skip (.exit 0))) (.block 1 (.seq (.region 3 (opsAt f106_b [1, 1, 0, 0, 0, 1, 0, 0]) false) (.seq (.region 4 (opsAt f106_b [1, 1, 0, 0, 0, 1, 0, 1, 0]) false) (.region 5 (opsAt f106_b [1, 1, 0, 0, 0, 1, 0, 1, 1]) false)))))
noncomputable def f106_k106000 (rd : Option Nat) : Key := .lp 106000 [0, 1, 2, 6, 7, 8] [] f106_c106000 63 rd
noncomputable def f106_c106002 : ACode := (.seq (.seq (.region 9 (opsAt f106_b [1, 1, 1, 1, 0, 0, 1, 0, 1, 0, 0, 0, 0, 0]) false) (.cond (.tmp 35) .skip (.exit 4))) (.block 5 (.seq (.region 10 (opsAt f106_b [1, 1, 1, 1, 0, 0, 1, 0, 1, 0, 0, 0, 1, 0, 0]) false) (.seq (.region 11 (opsAt f106_b [1, 1, 1, 1, 0, 0, 1, 0, 1, 0, 0, 0, 1, 0, 1, 0]) false) (.region 12 (opsAt f106_b [1, 1, 1, 1, 0, 0, 1, 0, 1, 0, 0, 0, 1, 0, 1, 1]) false)))))
noncomputable def f106_k106002 (rd : Option Nat) : Key := .lp 106002 [0, 1, 2, 6, 7, 8] [] f106_c106002 63 rd
noncomputable def f106_c106001 : ACode := (.seq (.seq (.region 7 (opsAt f106_b [1, 1, 1, 1, 0, 0, 0, 0]) false) (.cond (.tmp 30) .skip (.exit 2))) (.block 3 (.seq (.region 8 (opsAt f106_b [1, 1, 1, 1, 0, 0, 1, 0, 0]) false) (.seq (.block 4 (.loop 106002 [0, 1, 2, 6, 7, 8] [] [(.exit 4)] f106_c106002)) (.seq (.seq (.region 13 (opsAt f106_b [1, 1, 1, 1, 0, 0, 1, 0, 1, 1, 0, 0]) false) (.seq (.region 14 (opsAt f106_b [1, 1, 1, 1, 0, 0, 1, 0, 1, 1, 0, 1, 0]) false) (.join [(.normal, [0, 1, 2, 6])] (.cond (.tmp 54) (.region 15 (opsAt f106_b [1, 1, 1, 1, 0, 0, 1, 0, 1, 1, 0, 1, 1, 0]) false) .skip)))) (.region 16 (opsAt f106_b [1, 1, 1, 1, 0, 0, 1, 0, 1, 1, 1]) false))))))
noncomputable def f106_k106001 (rd : Option Nat) : Key := .lp 106001 [0, 1, 2, 6] [] f106_c106001 63 rd
noncomputable def f106_c : ACode := (.seq (.region 0 (opsAt f106_b [0]) false) (.seq (.region 1 (opsAt f106_b [1, 0]) false) (.seq (.block 0 (.loop 106000 [0, 1, 2, 6, 7, 8] [] [(.exit 0)] f106_c106000)) (.seq (.region 6 (opsAt f106_b [1, 1, 1, 0]) false) (.block 2 (.loop 106001 [0, 1, 2, 6] [] [(.exit 2)] f106_c106001))))))
noncomputable def f106_f : AFun := { code := f106_c, nt := 63, res := Try.f106.results.toList, fr := [] }
noncomputable def f107_b : Code := bodyOf Try.f107
noncomputable def f107_c : ACode := (.seq (.region 0 (opsAt f107_b [0]) false) (.seq (.seq (.region 1 (opsAt f107_b [1, 0, 0]) false) (.cond (.tmp 12) (.seq (.region 2 (opsAt f107_b [1, 0, 1, 0, 0]) false) .ret) .skip)) (.seq (.region 3 (opsAt f107_b [1, 1, 0]) false) .ret)))
noncomputable def f107_f : AFun := { code := f107_c, nt := 17, res := Try.f107.results.toList, fr := [] }
noncomputable def f108_b : Code := bodyOf Try.f108
noncomputable def f108_c108001 : ACode := (.seq (.seq (.region 4 (opsAt f108_b [1, 0, 0, 1, 0, 0, 1, 0, 0, 0, 0]) true) (.cond (.tmp 34) .skip (.exit 2))) (.seq (.block 3 (.region 6 (opsAt f108_b [1, 0, 0, 1, 0, 0, 1, 0, 0, 1, 0, 0]) true)) (.region 5 (opsAt f108_b [1, 0, 0, 1, 0, 0, 1, 0, 0, 1, 1]) false)))
noncomputable def f108_k108001 (rd : Option Nat) : Key := .lp 108001 [0, 1, 2, 3, 8, 9] [] f108_c108001 53 rd
noncomputable def f108_c108000 : ACode := (.seq (.seq (.region 1 (opsAt f108_b [1, 0, 0, 0, 0]) false) (.cond (.tmp 14) .skip (.exit 0))) (.seq (.block 1 (.seq (.region 3 (opsAt f108_b [1, 0, 0, 1, 0, 0, 0]) false) (.block 2 (.loop 108001 [0, 1, 2, 3, 8, 9] [] [(.exit 2)] f108_c108001)))) (.region 2 (opsAt f108_b [1, 0, 0, 1, 1]) false)))
noncomputable def f108_k108000 (rd : Option Nat) : Key := .lp 108000 [0, 1, 2, 3, 8] [] f108_c108000 53 rd
noncomputable def f108_c : ACode := (.seq (.region 0 (opsAt f108_b [0]) false) (.block 0 (.loop 108000 [0, 1, 2, 3, 8] [] [(.exit 0)] f108_c108000)))
noncomputable def f108_f : AFun := { code := f108_c, nt := 53, res := Try.f108.results.toList, fr := [] }
noncomputable def f109_b : Code := bodyOf Try.f109
noncomputable def f109_c109000 : ACode := (.seq (.seq (.region 3 (opsAt f109_b [0, 1, 0, 1, 1, 0, 0, 0, 0, 0]) false) (.cond (.tmp 33) .skip (.exit 0))) (.block 1 (.seq (.region 4 (opsAt f109_b [0, 1, 0, 1, 1, 0, 0, 0, 1, 0, 0]) false) (.seq (.region 5 (opsAt f109_b [0, 1, 0, 1, 1, 0, 0, 0, 1, 0, 1, 0]) true) (.join [(.normal, [0, 1, 4, 10, 11])] (.cond (.tmp 50) (.region 6 (opsAt f109_b [0, 1, 0, 1, 1, 0, 0, 0, 1, 0, 1, 1, 0]) false) (.region 7 (opsAt f109_b [0, 1, 0, 1, 1, 0, 0, 0, 1, 0, 1, 1, 1]) false)))))))
noncomputable def f109_k109000 (rd : Option Nat) : Key := .lp 109000 [0, 1, 4, 10, 11] [] f109_c109000 220 rd
noncomputable def f109_c109001 : ACode := (.seq (.seq (.region 9 (opsAt f109_b [0, 1, 0, 1, 1, 1, 0, 1, 0, 0, 0, 0]) false) (.cond (.tmp 58) .skip (.exit 2))) (.seq (.block 3 (.region 11 (opsAt f109_b [0, 1, 0, 1, 1, 1, 0, 1, 0, 0, 1, 0, 0]) true)) (.region 10 (opsAt f109_b [0, 1, 0, 1, 1, 1, 0, 1, 0, 0, 1, 1]) false)))
noncomputable def f109_k109001 (rd : Option Nat) : Key := .lp 109001 [0, 10, 13] [] f109_c109001 220 rd
noncomputable def f109_c109002 : ACode := (.seq (.seq (.region 15 (opsAt f109_b [1, 0, 1, 0, 1, 1, 0, 0, 0, 0, 0]) false) (.cond (.tmp 85) .skip (.exit 4))) (.block 5 (.seq (.region 16 (opsAt f109_b [1, 0, 1, 0, 1, 1, 0, 0, 0, 1, 0, 0]) false) (.seq (.region 17 (opsAt f109_b [1, 0, 1, 0, 1, 1, 0, 0, 0, 1, 0, 1, 0]) true) (.join [(.normal, [0, 2, 4, 14, 15])] (.cond (.tmp 103) (.region 18 (opsAt f109_b [1, 0, 1, 0, 1, 1, 0, 0, 0, 1, 0, 1, 1, 0]) false) (.region 19 (opsAt f109_b [1, 0, 1, 0, 1, 1, 0, 0, 0, 1, 0, 1, 1, 1]) false)))))))
noncomputable def f109_k109002 (rd : Option Nat) : Key := .lp 109002 [0, 2, 4, 14, 15] [] f109_c109002 220 rd
noncomputable def f109_c109003 : ACode := (.seq (.seq (.region 21 (opsAt f109_b [1, 0, 1, 0, 1, 1, 1, 0, 1, 0, 0, 0, 0]) false) (.cond (.tmp 110) .skip (.exit 6))) (.seq (.block 7 (.region 23 (opsAt f109_b [1, 0, 1, 0, 1, 1, 1, 0, 1, 0, 0, 1, 0, 0]) true)) (.region 22 (opsAt f109_b [1, 0, 1, 0, 1, 1, 1, 0, 1, 0, 0, 1, 1]) false)))
noncomputable def f109_k109003 (rd : Option Nat) : Key := .lp 109003 [0, 14, 17] [] f109_c109003 220 rd
noncomputable def f109_c109004 : ACode := (.seq (.seq (.region 33 (opsAt f109_b [1, 1, 1, 1, 1, 1, 1, 0, 0, 0, 0, 0]) false) (.cond (.tmp 151) .skip (.exit 8))) (.block 9 (.seq (.region 34 (opsAt f109_b [1, 1, 1, 1, 1, 1, 1, 0, 0, 0, 1, 0, 0]) false) (.seq (.region 35 (opsAt f109_b [1, 1, 1, 1, 1, 1, 1, 0, 0, 0, 1, 0, 1, 0]) true) (.join [(.normal, [0, 1, 2, 3, 4, 18, 19, 20, 21, 22])] (.cond (.tmp 171) (.region 36 (opsAt f109_b [1, 1, 1, 1, 1, 1, 1, 0, 0, 0, 1, 0, 1, 1, 0]) false) (.region 37 (opsAt f109_b [1, 1, 1, 1, 1, 1, 1, 0, 0, 0, 1, 0, 1, 1, 1]) false)))))))
noncomputable def f109_k109004 (rd : Option Nat) : Key := .lp 109004 [0, 1, 2, 3, 4, 18, 19, 20, 21, 22] [] f109_c109004 220 rd
noncomputable def f109_c : ACode := (.seq (.seq (.region 0 (opsAt f109_b [0, 0]) false) (.cond (.tmp 28) (.seq (.region 1 (opsAt f109_b [0, 1, 0, 0]) false) (.seq (.region 2 (opsAt f109_b [0, 1, 0, 1, 0]) false) (.seq (.block 0 (.loop 109000 [0, 1, 4, 10, 11] [] [(.exit 0)] f109_c109000)) (.seq (.seq (.region 8 (opsAt f109_b [0, 1, 0, 1, 1, 1, 0, 0]) false) (.block 2 (.loop 109001 [0, 10, 13] [] [(.exit 2)] f109_c109001))) .ret)))) .skip)) (.seq (.seq (.region 12 (opsAt f109_b [1, 0, 0]) false) (.cond (.tmp 80) (.seq (.region 13 (opsAt f109_b [1, 0, 1, 0, 0]) false) (.seq (.region 14 (opsAt f109_b [1, 0, 1, 0, 1, 0]) false) (.seq (.block 4 (.loop 109002 [0, 2, 4, 14, 15] [] [(.exit 4)] f109_c109002)) (.seq (.seq (.region 20 (opsAt f109_b [1, 0, 1, 0, 1, 1, 1, 0, 0]) false) (.block 6 (.loop 109003 [0, 14, 17] [] [(.exit 6)] f109_c109003))) .ret)))) .skip)) (.seq (.region 24 (opsAt f109_b [1, 1, 0]) false) (.seq (.region 25 (opsAt f109_b [1, 1, 1, 0]) false) (.seq (.region 26 (opsAt f109_b [1, 1, 1, 1, 0]) false) (.seq (.seq (.region 27 (opsAt f109_b [1, 1, 1, 1, 1, 0, 0]) false) (.join [(.normal, [0, 1, 2, 3, 4, 18, 19, 20, 21])] (.cond (.tmp 140) (.seq (.region 28 (opsAt f109_b [1, 1, 1, 1, 1, 0, 1, 0, 0]) false) (.region 29 (opsAt f109_b [1, 1, 1, 1, 1, 0, 1, 0, 1]) false)) (.seq (.region 30 (opsAt f109_b [1, 1, 1, 1, 1, 0, 1, 1, 0]) false) (.region 31 (opsAt f109_b [1, 1, 1, 1, 1, 0, 1, 1, 1]) false))))) (.seq (.region 32 (opsAt f109_b [1, 1, 1, 1, 1, 1, 0]) false) (.seq (.block 8 (.loop 109004 [0, 1, 2, 3, 4, 18, 19, 20, 21, 22] [] [(.exit 8)] f109_c109004)) (.seq (.region 38 (opsAt f109_b [1, 1, 1, 1, 1, 1, 1, 1, 0]) false) (.seq (.seq (.region 39 (opsAt f109_b [1, 1, 1, 1, 1, 1, 1, 1, 1, 0, 0]) false) (.join [(.normal, [0, 1, 3, 4, 18, 20, 24])] (.cond (.tmp 185) (.region 40 (opsAt f109_b [1, 1, 1, 1, 1, 1, 1, 1, 1, 0, 1, 0]) false) .skip))) (.seq (.seq (.region 41 (opsAt f109_b [1, 1, 1, 1, 1, 1, 1, 1, 1, 1, 0, 0]) false) (.join [(.normal, [0, 3, 4, 18, 24])] (.cond (.tmp 199) (.region 42 (opsAt f109_b [1, 1, 1, 1, 1, 1, 1, 1, 1, 1, 0, 1, 0]) false) .skip))) (.seq (.region 43 (opsAt f109_b [1, 1, 1, 1, 1, 1, 1, 1, 1, 1, 1, 0]) false) (.join [(.normal, [])] (.cond (.tmp 213) (.region 44 (opsAt f109_b [1, 1, 1, 1, 1, 1, 1, 1, 1, 1, 1, 1, 0]) false) .skip))))))))))))))
noncomputable def f109_f : AFun := { code := f109_c, nt := 220, res := Try.f109.results.toList, fr := [] }
noncomputable def f110_b : Code := bodyOf Try.f110
noncomputable def f110_c : ACode := (.seq (.region 0 (opsAt f110_b [0]) false) (.seq (.region 1 (opsAt f110_b [1, 0]) true) .ret))
noncomputable def f110_f : AFun := { code := f110_c, nt := 22, res := Try.f110.results.toList, fr := [] }
noncomputable def f111_b : Code := bodyOf Try.f111
noncomputable def f111_c111000 : ACode := (.seq (.seq (.region 2 (opsAt f111_b [1, 1, 0, 0, 0, 0, 0]) false) (.cond (.tmp 20) .skip (.exit 0))) (.block 1 (.seq (.region 3 (opsAt f111_b [1, 1, 0, 0, 0, 1, 0, 0]) false) (.join [(.normal, [0, 2, 4, 10, 11])] (.cond (.tmp 23) (.seq (.region 4 (opsAt f111_b [1, 1, 0, 0, 0, 1, 0, 1, 0, 0]) false) (.region 5 (opsAt f111_b [1, 1, 0, 0, 0, 1, 0, 1, 0, 1]) false)) (.seq (.region 6 (opsAt f111_b [1, 1, 0, 0, 0, 1, 0, 1, 1, 0]) false) (.region 7 (opsAt f111_b [1, 1, 0, 0, 0, 1, 0, 1, 1, 1]) false)))))))
noncomputable def f111_k111000 (rd : Option Nat) : Key := .lp 111000 [0, 2, 4, 10, 11] [] f111_c111000 58 rd
noncomputable def f111_c : ACode := (.seq (.region 0 (opsAt f111_b [0]) false) (.seq (.region 1 (opsAt f111_b [1, 0]) false) (.seq (.block 0 (.loop 111000 [0, 2, 4, 10, 11] [] [(.exit 0)] f111_c111000)) (.region 8 (opsAt f111_b [1, 1, 1]) false))))
noncomputable def f111_f : AFun := { code := f111_c, nt := 58, res := Try.f111.results.toList, fr := [] }
noncomputable def f112_b : Code := bodyOf Try.f112
noncomputable def f112_c112000 : ACode := (.seq (.seq (.region 1 (opsAt f112_b [1, 0, 0, 0, 0]) false) (.cond (.tmp 13) .skip (.exit 0))) (.seq (.block 1 (.region 3 (opsAt f112_b [1, 0, 0, 1, 0, 0]) true)) (.region 2 (opsAt f112_b [1, 0, 0, 1, 1]) false)))
noncomputable def f112_k112000 (rd : Option Nat) : Key := .lp 112000 [0, 1, 2, 3, 10] [] f112_c112000 38 rd
noncomputable def f112_c : ACode := (.seq (.region 0 (opsAt f112_b [0]) false) (.block 0 (.loop 112000 [0, 1, 2, 3, 10] [] [(.exit 0)] f112_c112000)))
noncomputable def f112_f : AFun := { code := f112_c, nt := 38, res := Try.f112.results.toList, fr := [] }
noncomputable def bkT : BT AFun := (.node 69 f69_f (.node 39 f39_f (.node 25 f25_f (.node 14 f14_f (.node 10 f10_f (.node 8 f8_f (.node 4 f4_f .leaf .leaf) .leaf) (.node 13 f13_f .leaf .leaf)) (.node 20 f20_f (.node 17 f17_f .leaf .leaf) (.node 24 f24_f .leaf .leaf))) (.node 31 f31_f (.node 29 f29_f (.node 28 f28_f .leaf .leaf) (.node 30 f30_f .leaf .leaf)) (.node 37 f37_f (.node 32 f32_f .leaf .leaf) (.node 38 f38_f .leaf .leaf)))) (.node 55 f55_f (.node 50 f50_f (.node 48 f48_f (.node 42 f42_f (.node 40 f40_f .leaf .leaf) .leaf) (.node 49 f49_f .leaf .leaf)) (.node 52 f52_f (.node 51 f51_f .leaf .leaf) (.node 53 f53_f .leaf .leaf))) (.node 62 f62_f (.node 60 f60_f (.node 59 f59_f .leaf .leaf) (.node 61 f61_f .leaf .leaf)) (.node 64 f64_f (.node 63 f63_f .leaf .leaf) (.node 67 f67_f .leaf .leaf))))) (.node 97 f97_f (.node 78 f78_f (.node 74 f74_f (.node 72 f72_f (.node 71 f71_f (.node 70 f70_f .leaf .leaf) .leaf) (.node 73 f73_f .leaf .leaf)) (.node 76 f76_f (.node 75 f75_f .leaf .leaf) (.node 77 f77_f .leaf .leaf))) (.node 86 f86_f (.node 80 f80_f (.node 79 f79_f .leaf .leaf) (.node 81 f81_f .leaf .leaf)) (.node 95 f95_f (.node 87 f87_f .leaf .leaf) (.node 96 f96_f .leaf .leaf)))) (.node 105 f105_f (.node 101 f101_f (.node 99 f99_f (.node 98 f98_f .leaf .leaf) (.node 100 f100_f .leaf .leaf)) (.node 103 f103_f (.node 102 f102_f .leaf .leaf) (.node 104 f104_f .leaf .leaf))) (.node 109 f109_f (.node 107 f107_f (.node 106 f106_f .leaf .leaf) (.node 108 f108_f .leaf .leaf)) (.node 111 f111_f (.node 110 f110_f .leaf .leaf) (.node 112 f112_f .leaf .leaf))))))
noncomputable def bk (f : FuncId) : Option AFun := bkT.look f
theorem bk_4 : bk 4 = some f4_f := by kernel_rfl
theorem ok_4 : EntOK P 4 f4_f := ⟨Try.f4, f4_b, Try.func4, rfl, by kernel_rfl, by kernel_rfl, rfl, rfl⟩
theorem bk_8 : bk 8 = some f8_f := by kernel_rfl
theorem ok_8 : EntOK P 8 f8_f := ⟨Try.f8, f8_b, Try.func8, rfl, by kernel_rfl, by kernel_rfl, rfl, rfl⟩
theorem bk_10 : bk 10 = some f10_f := by kernel_rfl
theorem ok_10 : EntOK P 10 f10_f := ⟨Try.f10, f10_b, Try.func10, rfl, by kernel_rfl, by kernel_rfl, rfl, rfl⟩
theorem bk_13 : bk 13 = some f13_f := by kernel_rfl
theorem ok_13 : EntOK P 13 f13_f := ⟨Try.f13, f13_b, Try.func13, rfl, by kernel_rfl, by kernel_rfl, rfl, rfl⟩
theorem bk_14 : bk 14 = some f14_f := by kernel_rfl
theorem ok_14 : EntOK P 14 f14_f := ⟨Try.f14, f14_b, Try.func14, rfl, by kernel_rfl, by kernel_rfl, rfl, rfl⟩
theorem bk_17 : bk 17 = some f17_f := by kernel_rfl
theorem ok_17 : EntOK P 17 f17_f := ⟨Try.f17, f17_b, Try.func17, rfl, by kernel_rfl, by kernel_rfl, rfl, rfl⟩
theorem bk_20 : bk 20 = some f20_f := by kernel_rfl
theorem ok_20 : EntOK P 20 f20_f := ⟨Try.f20, f20_b, Try.func20, rfl, by kernel_rfl, by kernel_rfl, rfl, rfl⟩
theorem bk_24 : bk 24 = some f24_f := by kernel_rfl
theorem ok_24 : EntOK P 24 f24_f := ⟨Try.f24, f24_b, Try.func24, rfl, by kernel_rfl, by kernel_rfl, rfl, rfl⟩
theorem bk_25 : bk 25 = some f25_f := by kernel_rfl
theorem ok_25 : EntOK P 25 f25_f := ⟨Try.f25, f25_b, Try.func25, rfl, by kernel_rfl, by kernel_rfl, rfl, rfl⟩
theorem bk_28 : bk 28 = some f28_f := by kernel_rfl
theorem ok_28 : EntOK P 28 f28_f := ⟨Try.f28, f28_b, Try.func28, rfl, by kernel_rfl, by kernel_rfl, rfl, rfl⟩
theorem bk_29 : bk 29 = some f29_f := by kernel_rfl
theorem ok_29 : EntOK P 29 f29_f := ⟨Try.f29, f29_b, Try.func29, rfl, by kernel_rfl, by kernel_rfl, rfl, rfl⟩
theorem bk_30 : bk 30 = some f30_f := by kernel_rfl
theorem ok_30 : EntOK P 30 f30_f := ⟨Try.f30, f30_b, Try.func30, rfl, by kernel_rfl, by kernel_rfl, rfl, rfl⟩
theorem bk_31 : bk 31 = some f31_f := by kernel_rfl
theorem ok_31 : EntOK P 31 f31_f := ⟨Try.f31, f31_b, Try.func31, rfl, by kernel_rfl, by kernel_rfl, rfl, rfl⟩
theorem bk_32 : bk 32 = some f32_f := by kernel_rfl
theorem ok_32 : EntOK P 32 f32_f := ⟨Try.f32, f32_b, Try.func32, rfl, by kernel_rfl, by kernel_rfl, rfl, rfl⟩
theorem bk_37 : bk 37 = some f37_f := by kernel_rfl
theorem ok_37 : EntOK P 37 f37_f := ⟨Try.f37, f37_b, Try.func37, rfl, by kernel_rfl, by kernel_rfl, rfl, rfl⟩
theorem bk_38 : bk 38 = some f38_f := by kernel_rfl
theorem ok_38 : EntOK P 38 f38_f := ⟨Try.f38, f38_b, Try.func38, rfl, by kernel_rfl, by kernel_rfl, rfl, rfl⟩
theorem bk_39 : bk 39 = some f39_f := by kernel_rfl
theorem ok_39 : EntOK P 39 f39_f := ⟨Try.f39, f39_b, Try.func39, rfl, by kernel_rfl, by kernel_rfl, rfl, rfl⟩
theorem bk_40 : bk 40 = some f40_f := by kernel_rfl
theorem ok_40 : EntOK P 40 f40_f := ⟨Try.f40, f40_b, Try.func40, rfl, by kernel_rfl, by kernel_rfl, rfl, rfl⟩
theorem bk_42 : bk 42 = some f42_f := by kernel_rfl
theorem ok_42 : EntOK P 42 f42_f := ⟨Try.f42, f42_b, Try.func42, rfl, by kernel_rfl, by kernel_rfl, rfl, rfl⟩
theorem bk_48 : bk 48 = some f48_f := by kernel_rfl
theorem ok_48 : EntOK P 48 f48_f := ⟨Try.f48, f48_b, Try.func48, rfl, by kernel_rfl, by kernel_rfl, rfl, rfl⟩
theorem bk_49 : bk 49 = some f49_f := by kernel_rfl
theorem ok_49 : EntOK P 49 f49_f := ⟨Try.f49, f49_b, Try.func49, rfl, by kernel_rfl, by kernel_rfl, rfl, rfl⟩
theorem bk_50 : bk 50 = some f50_f := by kernel_rfl
theorem ok_50 : EntOK P 50 f50_f := ⟨Try.f50, f50_b, Try.func50, rfl, by kernel_rfl, by kernel_rfl, rfl, rfl⟩
theorem bk_51 : bk 51 = some f51_f := by kernel_rfl
theorem ok_51 : EntOK P 51 f51_f := ⟨Try.f51, f51_b, Try.func51, rfl, by kernel_rfl, by kernel_rfl, rfl, rfl⟩
theorem bk_52 : bk 52 = some f52_f := by kernel_rfl
theorem ok_52 : EntOK P 52 f52_f := ⟨Try.f52, f52_b, Try.func52, rfl, by kernel_rfl, by kernel_rfl, rfl, rfl⟩
theorem bk_53 : bk 53 = some f53_f := by kernel_rfl
theorem ok_53 : EntOK P 53 f53_f := ⟨Try.f53, f53_b, Try.func53, rfl, by kernel_rfl, by kernel_rfl, rfl, rfl⟩
theorem bk_55 : bk 55 = some f55_f := by kernel_rfl
theorem ok_55 : EntOK P 55 f55_f := ⟨Try.f55, f55_b, Try.func55, rfl, by kernel_rfl, by kernel_rfl, rfl, rfl⟩
theorem bk_59 : bk 59 = some f59_f := by kernel_rfl
theorem ok_59 : EntOK P 59 f59_f := ⟨Try.f59, f59_b, Try.func59, rfl, by kernel_rfl, by kernel_rfl, rfl, rfl⟩
theorem bk_60 : bk 60 = some f60_f := by kernel_rfl
theorem ok_60 : EntOK P 60 f60_f := ⟨Try.f60, f60_b, Try.func60, rfl, by kernel_rfl, by kernel_rfl, rfl, rfl⟩
theorem bk_61 : bk 61 = some f61_f := by kernel_rfl
theorem ok_61 : EntOK P 61 f61_f := ⟨Try.f61, f61_b, Try.func61, rfl, by kernel_rfl, by kernel_rfl, rfl, rfl⟩
theorem bk_62 : bk 62 = some f62_f := by kernel_rfl
theorem ok_62 : EntOK P 62 f62_f := ⟨Try.f62, f62_b, Try.func62, rfl, by kernel_rfl, by kernel_rfl, rfl, rfl⟩
theorem bk_63 : bk 63 = some f63_f := by kernel_rfl
theorem ok_63 : EntOK P 63 f63_f := ⟨Try.f63, f63_b, Try.func63, rfl, by kernel_rfl, by kernel_rfl, rfl, rfl⟩
theorem bk_64 : bk 64 = some f64_f := by kernel_rfl
theorem ok_64 : EntOK P 64 f64_f := ⟨Try.f64, f64_b, Try.func64, rfl, by kernel_rfl, by kernel_rfl, rfl, rfl⟩
theorem bk_67 : bk 67 = some f67_f := by kernel_rfl
theorem ok_67 : EntOK P 67 f67_f := ⟨Try.f67, f67_b, Try.func67, rfl, by kernel_rfl, by kernel_rfl, rfl, rfl⟩
theorem bk_69 : bk 69 = some f69_f := by kernel_rfl
theorem ok_69 : EntOK P 69 f69_f := ⟨Try.f69, f69_b, Try.func69, rfl, by kernel_rfl, by kernel_rfl, rfl, rfl⟩
theorem bk_70 : bk 70 = some f70_f := by kernel_rfl
theorem ok_70 : EntOK P 70 f70_f := ⟨Try.f70, f70_b, Try.func70, rfl, by kernel_rfl, by kernel_rfl, rfl, rfl⟩
theorem bk_71 : bk 71 = some f71_f := by kernel_rfl
theorem ok_71 : EntOK P 71 f71_f := ⟨Try.f71, f71_b, Try.func71, rfl, by kernel_rfl, by kernel_rfl, rfl, rfl⟩
theorem bk_72 : bk 72 = some f72_f := by kernel_rfl
theorem ok_72 : EntOK P 72 f72_f := ⟨Try.f72, f72_b, Try.func72, rfl, by kernel_rfl, by kernel_rfl, rfl, rfl⟩
theorem bk_73 : bk 73 = some f73_f := by kernel_rfl
theorem ok_73 : EntOK P 73 f73_f := ⟨Try.f73, f73_b, Try.func73, rfl, by kernel_rfl, by kernel_rfl, rfl, rfl⟩
theorem bk_74 : bk 74 = some f74_f := by kernel_rfl
theorem ok_74 : EntOK P 74 f74_f := ⟨Try.f74, f74_b, Try.func74, rfl, by kernel_rfl, by kernel_rfl, rfl, rfl⟩
theorem bk_75 : bk 75 = some f75_f := by kernel_rfl
theorem ok_75 : EntOK P 75 f75_f := ⟨Try.f75, f75_b, Try.func75, rfl, by kernel_rfl, by kernel_rfl, rfl, rfl⟩
theorem bk_76 : bk 76 = some f76_f := by kernel_rfl
theorem ok_76 : EntOK P 76 f76_f := ⟨Try.f76, f76_b, Try.func76, rfl, by kernel_rfl, by kernel_rfl, rfl, rfl⟩
theorem bk_77 : bk 77 = some f77_f := by kernel_rfl
theorem ok_77 : EntOK P 77 f77_f := ⟨Try.f77, f77_b, Try.func77, rfl, by kernel_rfl, by kernel_rfl, rfl, rfl⟩
theorem bk_78 : bk 78 = some f78_f := by kernel_rfl
theorem ok_78 : EntOK P 78 f78_f := ⟨Try.f78, f78_b, Try.func78, rfl, by kernel_rfl, by kernel_rfl, rfl, rfl⟩
theorem bk_79 : bk 79 = some f79_f := by kernel_rfl
theorem ok_79 : EntOK P 79 f79_f := ⟨Try.f79, f79_b, Try.func79, rfl, by kernel_rfl, by kernel_rfl, rfl, rfl⟩
theorem bk_80 : bk 80 = some f80_f := by kernel_rfl
theorem ok_80 : EntOK P 80 f80_f := ⟨Try.f80, f80_b, Try.func80, rfl, by kernel_rfl, by kernel_rfl, rfl, rfl⟩
theorem bk_81 : bk 81 = some f81_f := by kernel_rfl
theorem ok_81 : EntOK P 81 f81_f := ⟨Try.f81, f81_b, Try.func81, rfl, by kernel_rfl, by kernel_rfl, rfl, rfl⟩
theorem bk_86 : bk 86 = some f86_f := by kernel_rfl
theorem ok_86 : EntOK P 86 f86_f := ⟨Try.f86, f86_b, Try.func86, rfl, by kernel_rfl, by kernel_rfl, rfl, rfl⟩
theorem bk_87 : bk 87 = some f87_f := by kernel_rfl
theorem ok_87 : EntOK P 87 f87_f := ⟨Try.f87, f87_b, Try.func87, rfl, by kernel_rfl, by kernel_rfl, rfl, rfl⟩
theorem bk_95 : bk 95 = some f95_f := by kernel_rfl
theorem ok_95 : EntOK P 95 f95_f := ⟨Try.f95, f95_b, Try.func95, rfl, by kernel_rfl, by kernel_rfl, rfl, rfl⟩
theorem bk_96 : bk 96 = some f96_f := by kernel_rfl
theorem ok_96 : EntOK P 96 f96_f := ⟨Try.f96, f96_b, Try.func96, rfl, by kernel_rfl, by kernel_rfl, rfl, rfl⟩
theorem bk_97 : bk 97 = some f97_f := by kernel_rfl
theorem ok_97 : EntOK P 97 f97_f := ⟨Try.f97, f97_b, Try.func97, rfl, by kernel_rfl, by kernel_rfl, rfl, rfl⟩
theorem bk_98 : bk 98 = some f98_f := by kernel_rfl
theorem ok_98 : EntOK P 98 f98_f := ⟨Try.f98, f98_b, Try.func98, rfl, by kernel_rfl, by kernel_rfl, rfl, rfl⟩
theorem bk_99 : bk 99 = some f99_f := by kernel_rfl
theorem ok_99 : EntOK P 99 f99_f := ⟨Try.f99, f99_b, Try.func99, rfl, by kernel_rfl, by kernel_rfl, rfl, rfl⟩
theorem bk_100 : bk 100 = some f100_f := by kernel_rfl
theorem ok_100 : EntOK P 100 f100_f := ⟨Try.f100, f100_b, Try.func100, rfl, by kernel_rfl, by kernel_rfl, rfl, rfl⟩
theorem bk_101 : bk 101 = some f101_f := by kernel_rfl
theorem ok_101 : EntOK P 101 f101_f := ⟨Try.f101, f101_b, Try.func101, rfl, by kernel_rfl, by kernel_rfl, rfl, rfl⟩
theorem bk_102 : bk 102 = some f102_f := by kernel_rfl
theorem ok_102 : EntOK P 102 f102_f := ⟨Try.f102, f102_b, Try.func102, rfl, by kernel_rfl, by kernel_rfl, rfl, rfl⟩
theorem bk_103 : bk 103 = some f103_f := by kernel_rfl
theorem ok_103 : EntOK P 103 f103_f := ⟨Try.f103, f103_b, Try.func103, rfl, by kernel_rfl, by kernel_rfl, rfl, rfl⟩
theorem bk_104 : bk 104 = some f104_f := by kernel_rfl
theorem ok_104 : EntOK P 104 f104_f := ⟨Try.f104, f104_b, Try.func104, rfl, by kernel_rfl, by kernel_rfl, rfl, rfl⟩
theorem bk_105 : bk 105 = some f105_f := by kernel_rfl
theorem ok_105 : EntOK P 105 f105_f := ⟨Try.f105, f105_b, Try.func105, rfl, by kernel_rfl, by kernel_rfl, rfl, rfl⟩
theorem bk_106 : bk 106 = some f106_f := by kernel_rfl
theorem ok_106 : EntOK P 106 f106_f := ⟨Try.f106, f106_b, Try.func106, rfl, by kernel_rfl, by kernel_rfl, rfl, rfl⟩
theorem bk_107 : bk 107 = some f107_f := by kernel_rfl
theorem ok_107 : EntOK P 107 f107_f := ⟨Try.f107, f107_b, Try.func107, rfl, by kernel_rfl, by kernel_rfl, rfl, rfl⟩
theorem bk_108 : bk 108 = some f108_f := by kernel_rfl
theorem ok_108 : EntOK P 108 f108_f := ⟨Try.f108, f108_b, Try.func108, rfl, by kernel_rfl, by kernel_rfl, rfl, rfl⟩
theorem bk_109 : bk 109 = some f109_f := by kernel_rfl
theorem ok_109 : EntOK P 109 f109_f := ⟨Try.f109, f109_b, Try.func109, rfl, by kernel_rfl, by kernel_rfl, rfl, rfl⟩
theorem bk_110 : bk 110 = some f110_f := by kernel_rfl
theorem ok_110 : EntOK P 110 f110_f := ⟨Try.f110, f110_b, Try.func110, rfl, by kernel_rfl, by kernel_rfl, rfl, rfl⟩
theorem bk_111 : bk 111 = some f111_f := by kernel_rfl
theorem ok_111 : EntOK P 111 f111_f := ⟨Try.f111, f111_b, Try.func111, rfl, by kernel_rfl, by kernel_rfl, rfl, rfl⟩
theorem bk_112 : bk 112 = some f112_f := by kernel_rfl
theorem ok_112 : EntOK P 112 f112_f := ⟨Try.f112, f112_b, Try.func112, rfl, by kernel_rfl, by kernel_rfl, rfl, rfl⟩
theorem bk_ok : BookOK P bk := fun f a e => BT.look_all (Q := EntOK P) (t := bkT) (And.intro ok_69 (And.intro (And.intro ok_39 (And.intro (And.intro ok_25 (And.intro (And.intro ok_14 (And.intro (And.intro ok_10 (And.intro (And.intro ok_8 (And.intro (And.intro ok_4 (And.intro trivial trivial)) trivial)) (And.intro ok_13 (And.intro trivial trivial)))) (And.intro ok_20 (And.intro (And.intro ok_17 (And.intro trivial trivial)) (And.intro ok_24 (And.intro trivial trivial)))))) (And.intro ok_31 (And.intro (And.intro ok_29 (And.intro (And.intro ok_28 (And.intro trivial trivial)) (And.intro ok_30 (And.intro trivial trivial)))) (And.intro ok_37 (And.intro (And.intro ok_32 (And.intro trivial trivial)) (And.intro ok_38 (And.intro trivial trivial)))))))) (And.intro ok_55 (And.intro (And.intro ok_50 (And.intro (And.intro ok_48 (And.intro (And.intro ok_42 (And.intro (And.intro ok_40 (And.intro trivial trivial)) trivial)) (And.intro ok_49 (And.intro trivial trivial)))) (And.intro ok_52 (And.intro (And.intro ok_51 (And.intro trivial trivial)) (And.intro ok_53 (And.intro trivial trivial)))))) (And.intro ok_62 (And.intro (And.intro ok_60 (And.intro (And.intro ok_59 (And.intro trivial trivial)) (And.intro ok_61 (And.intro trivial trivial)))) (And.intro ok_64 (And.intro (And.intro ok_63 (And.intro trivial trivial)) (And.intro ok_67 (And.intro trivial trivial)))))))))) (And.intro ok_97 (And.intro (And.intro ok_78 (And.intro (And.intro ok_74 (And.intro (And.intro ok_72 (And.intro (And.intro ok_71 (And.intro (And.intro ok_70 (And.intro trivial trivial)) trivial)) (And.intro ok_73 (And.intro trivial trivial)))) (And.intro ok_76 (And.intro (And.intro ok_75 (And.intro trivial trivial)) (And.intro ok_77 (And.intro trivial trivial)))))) (And.intro ok_86 (And.intro (And.intro ok_80 (And.intro (And.intro ok_79 (And.intro trivial trivial)) (And.intro ok_81 (And.intro trivial trivial)))) (And.intro ok_95 (And.intro (And.intro ok_87 (And.intro trivial trivial)) (And.intro ok_96 (And.intro trivial trivial)))))))) (And.intro ok_105 (And.intro (And.intro ok_101 (And.intro (And.intro ok_99 (And.intro (And.intro ok_98 (And.intro trivial trivial)) (And.intro ok_100 (And.intro trivial trivial)))) (And.intro ok_103 (And.intro (And.intro ok_102 (And.intro trivial trivial)) (And.intro ok_104 (And.intro trivial trivial)))))) (And.intro ok_109 (And.intro (And.intro ok_107 (And.intro (And.intro ok_106 (And.intro trivial trivial)) (And.intro ok_108 (And.intro trivial trivial)))) (And.intro ok_111 (And.intro (And.intro ok_110 (And.intro trivial trivial)) (And.intro ok_112 (And.intro trivial trivial)))))))))))) e
theorem mixed : P.follows .mixedOrders = true := by kernel_rfl
def selF : List Nat := [4]
def selL : List Nat := [0]
def nmem (x : Nat) : List Nat → Bool
  | [] => false
  | y :: ys => cond (Nat.beq x y) true (nmem x ys)
def sel : Key → Bool
  | .fn f => !(nmem f selF)
  | .lp j _ _ _ _ _ => nmem j selL
  | .rnd .. => false
noncomputable def ext : Fo FH := fun f args h c => match args with
  | [] => cond (nmem f [8]) (some { e := .ret, vs := [.bool true], h := h, c := c, df := [] }) none
  | _ => none
noncomputable abbrev G : Orc FH := runG P bk sel ext
end Go.Proofs.Ytdbiilapiloaiaa
